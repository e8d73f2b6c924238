/- Texts of ours, joined: the steps of the proof, or the claim's theorem. -/
import Derived.Test.YtibmaifoaajllaaGreatDoorQa11
import Derived.Test.YtibmaifoaajllaaGreatDoorQa12
set_option linter.unusedSimpArgs false
set_option linter.unusedVariables false
set_option maxHeartbeats 16000000
namespace Go.Proofs.YtibmaifoaajllaaGreatDoor
open Go Go.Sk Go.RowKit
attribute [local irreducible] Go.Calls
abbrev P3:=Int × Int × Int
def zAI (o:Odr):List P3:=if (zT o).2>0 then[(o.acct,(zT o).1,(zT o).2)] else[]
def zX (a:Auc):List P3:=if zAV a then(a.seller,a.inst,a.qty)::a.bids.map (fun b=>(b.acct,0,b.amount)) else[]
def zS (s:Sta):List P3:=s.orders.flatMap zAI++s.aucs.flatMap zX
def p3 (l:List P3)(k:Nat):P3:=l.getD k (0,0,0)
def u1P (s:Sta)(k:Nat):Value:=.agg #[.int .i64 (p3 (zS s) k).1,.int .i64 (p3 (zS s) k).2.1]
def u2P (s:Sta)(k:Nat):Value:=.int .i64 (p3 (zS s) k).2.2
theorem at_in (A B Z C:List P3){j:Nat}(hj:j<Z.length):p3 (A++(B++(Z++C))) (A.length+B.length+j)=p3 Z j∧A.length+B.length+j<(A++(B++(Z++C))).length:=by
 refine⟨?_,by simp;omega⟩
 unfold p3
 rw[List.getD_eq_getElem?_getD,List.getD_eq_getElem?_getD,List.getElem?_append_right (by omega),List.getElem?_append_right (by omega),List.getElem?_append_left (by omega)]
 congr 2;omega
theorem zHz {α:Type}(f:α→List P3)(l:List α)(d:α){i:Nat}(hi:i<l.length):l.flatMap f=(l.take i).flatMap f++(f (l.getD i d)++(l.drop (i+1)).flatMap f):=by
 have h:l=l.take i++(l.getD i d::l.drop (i+1)):=by
  conv=>lhs;rw[← List.take_append_drop i l,List.drop_eq_getElem_cons hi]
  simp[List.getElem?_eq_getElem hi]
 conv=>lhs;rw[h]
 rw[List.flatMap_append,List.flatMap_cons]
theorem zFB {α:Type}(f:α→List P3)(l:List α)(d:α){i:Nat}(hi:i<l.length):(l.take (i+1)).flatMap f=(l.take i).flatMap f++f (l.getD i d):=by
 rw[List.take_succ_eq_append_getElem hi,List.flatMap_append]
 simp[List.getElem?_eq_getElem hi]
theorem bid_at {l:List Bid}(x:P3){j:Nat}(hj:j<l.length):p3 (x::l.map (fun b=>(b.acct,0,b.amount))) (j+1)=((l.getD j default).acct,0,(l.getD j default).amount):=by
 unfold p3
 rw[List.getD_cons_succ,List.getD_eq_getElem?_getD,List.getElem?_map,List.getElem?_eq_getElem hj,List.getD_eq_getElem?_getD,List.getElem?_eq_getElem hj]
 rfl
theorem zKu {F:zH}(s:Sta)(p:SPt){bs:Nat}{G:zH}(w0:World)(hF:Mem w0 F)(hs0:StaM F s p)(hm:cb bs (s.cells p) 28∈G) :
  Iter Tryz.prog w0 91 [.pointer (some ⟨bs,0,none⟩)] (zS s).length (fun k=>[u1P s k,u2P s k]) G:=by
 intro l K hY M G' w hG hK H
 obtain⟨hnc,hcb,b0,off,cs,T,fr,hs⟩:=hs0.od
 obtain⟨⟨hnc2,hcb2,b2,off2,cs2,T2,fr2,hs2⟩,hbd⟩:=hs0.au
 have hmG:=hG hm
 clear hG hm
 refine enter [] Tryz.func91 rfl Tryz.ntmps91 rfl rfl ?_
 repeat' (first|refine yT ?_|refine z13 (zG sg rfl rfl (H.mem.sub qS) hmG rfl rfl) ?_|refine yU ?_|with_reducible apply zA|fail)
 refine zM [(4,6),(14,35)] (fun x:Nat × zH=>[(14,.int .i64 (x.1:Int))]) (fun x w=>x.1≤s.orders.length∧St w0 (x.2++G') w∧K ((s.orders.take x.1).flatMap zAI).length x.2) (fun x=>s.orders.length - x.1) (0,M) ⟨rfl,trivial⟩ ⟨zzD _,H,hK⟩ ?_
 clear H hK
 rintro⟨i,M⟩ gh w ⟨hi,H,hK⟩
 simp only at hi H hK ⊢
 repeat' (first|refine yT ?_|refine yU ?_|fail)
 refine zJ rfl (fun h=>?_) (fun h=>?_)
 ·have hlt:i<s.orders.length:=by have:=zzA h;omega
  clear h
  obtain⟨hq,hn,hh⟩:∃ q n,zT (od_ s.orders i)=(q,n):=⟨_,_,rfl⟩
  have hHo:=fun w=>zJm (od_ s.orders i) w
  rw[hh] at hHo
  have hsp:=zHz zAI s.orders default hlt
  have htk:=zFB zAI s.orders default hlt
  change _=_++(zAI (od_ s.orders i)++_) at hsp
  change _=_++zAI (od_ s.orders i) at htk
  have e1:zAI (od_ s.orders i)=if hn>0 then[((od_ s.orders i).acct,hq,hn)] else[]:=by unfold zAI;rw[hh]
  obtain⟨cnt,hcnt⟩:∃ c,((s.orders.take i).flatMap zAI).length=c:=⟨_,rfl⟩
  rw[hcnt] at hK
  have hYo:hn>0→∀ (M G':zH) (w:World),K cnt M→St w0 (M++G') w→Yld Tryz.prog l [.agg #[.int .i64 (od_ s.orders i).acct,.int .i64 hq],.int .i64 hn] w (fun e w'=>∃ v,e=.returned v∧(v=.bool true∧∃ M',K (cnt+1) M'∧St w0 (M'++G') w')):=by
   intro hpos M G' w hK H
   rw[if_pos hpos] at e1
   rw[e1] at hsp
   have hp:zS s=[]++((s.orders.take i).flatMap zAI++([((od_ s.orders i).acct,hq,hn)]++((s.orders.drop (i+1)).flatMap zAI++s.aucs.flatMap zX))):=by
    unfold zS;rw[hsp];simp
   obtain⟨h1,h2⟩:=at_in [] ((s.orders.take i).flatMap zAI) [((od_ s.orders i).acct,hq,hn)] ((s.orders.drop (i+1)).flatMap zAI++s.aucs.flatMap zX) (j:=0) (by simp)
   rw[← hp,hcnt] at h1 h2
   simp only[List.length_nil,Nat.zero_add,Nat.add_zero] at h1 h2
   have:=hY cnt h2 M G' w hK H
   simp only[u1P,u2P,h1] at this
   exact this
  repeat' (first|refine yT ?_|refine y7 sg H ?_|(refine y10 sg H ?_;intro b w H)|(refine y11 sg H ?_;intro w H)|(refine y40 sg (hs) ?_ ?_ ?_;(omega);(omega))|(refine y42 sg (hs) ((H.memF hF)) ?_ ?_;(omega))|(refine' y30 zQR ?_ ?_;rotate_left;exact hHo _;intro w hcl;replace H:=H.ext hcl;clear hcl)|(refine CW.regionY (id:=4) ?_)|(refine OY.yield (hYo (zzA h) M (_::G') _ hK (H.perm (zNl M G'))) ?_ (hw:=OY.gY rfl rfl rfl);rintro v w ⟨rfl,M,hK,H⟩;replace H:=H.perm (zNl M G').symm)|(refine OY.preN 9 12 ?_;simp only[List.take_succ_cons,List.take_zero,List.drop_succ_cons,List.drop_zero])|(refine OY.all ?_)|refine yU ?_|(refine y17 ?_ ?_;all_goals intro h)|with_reducible apply zA|fail)
  ·have hpos:=zzA h
   refine zK (i+1,M) rfl ⟨zZ (by omega),trivial⟩ ⟨hlt,H.sub (zz7 _ _),?_⟩ (by simp only;omega)
   simp only
   rw[htk,e1,if_pos hpos,List.length_append,hcnt]
   exact hK
  ·have hneg:=zzB h
   refine zK (i+1,M) rfl ⟨zZ (by omega),trivial⟩ ⟨hlt,H.sub (zz7 _ _),?_⟩ (by simp only;omega)
   simp only
   rw[htk,e1,if_neg hneg,List.append_nil,hcnt]
   exact hK
 ·obtain rfl:i=s.orders.length:=by have:=zzB h;omega
  clear h
  rw[List.take_length] at hK
  obtain⟨A,hA⟩:∃ A,(s.orders.flatMap zAI).length=A:=⟨_,rfl⟩
  rw[hA] at hK
  repeat' (first|refine yT ?_|refine z13 (zG sg rfl rfl (H.mem.sub qS) hmG rfl rfl) ?_|refine yU ?_|with_reducible apply zA|fail)
  refine zM [(8,8),(10,10),(39,72)] (fun x:Nat × zH=>[(39,.int .i64 (x.1:Int))]) (fun x w=>x.1≤s.aucs.length∧St w0 (x.2++G') w∧K (A+((s.aucs.take x.1).flatMap zX).length) x.2) (fun x=>s.aucs.length - x.1) (0,M) ⟨rfl,trivial⟩ ⟨zzD _,H,hK⟩ ?_
  clear H hK hi
  rintro⟨i,M⟩ gh w ⟨hi,H,hK⟩
  simp only at hi H hK ⊢
  repeat' (first|refine yT ?_|refine yU ?_|fail)
  refine zJ rfl (fun h=>?_) (fun h=>?_)
  ·have hlt:i<s.aucs.length:=by have:=zzA h;omega
   clear h
   have hbx:=hbd i hlt
   have hsp:=zHz zX s.aucs default hlt
   have htk:=zFB zX s.aucs default hlt
   obtain⟨cnt,hcnt⟩:∃ c,A+((s.aucs.take i).flatMap zX).length=c:=⟨_,rfl⟩
   rw[hcnt] at hK
   have hYa:zAV (s.aucs.getD i default)=true→∀ j,j<(s.aucs.getD i default).bids.length+1→∀ (M G':zH) (w:World),K (cnt+j) M→St w0 (M++G') w→Yld Tryz.prog l [.agg #[.int .i64 (p3 (zX (s.aucs.getD i default)) j).1,.int .i64 (p3 (zX (s.aucs.getD i default)) j).2.1],.int .i64 (p3 (zX (s.aucs.getD i default)) j).2.2] w (fun e w'=>∃ v,e=.returned v∧(v=.bool true∧∃ M',K (cnt+j+1) M'∧St w0 (M'++G') w')):=by
    intro hmay j hj M G' w hK H
    have hp:zS s=s.orders.flatMap zAI++((s.aucs.take i).flatMap zX++(zX (s.aucs.getD i default)++(s.aucs.drop (i+1)).flatMap zX)):=by
     unfold zS;rw[← hsp]
    obtain⟨h1,h2⟩:=at_in (s.orders.flatMap zAI) ((s.aucs.take i).flatMap zX) (zX (s.aucs.getD i default)) ((s.aucs.drop (i+1)).flatMap zX) (j:=j) (by unfold zX;rw[if_pos hmay];simpa using hj)
    rw[← hp,hA,hcnt] at h1 h2
    have:=hY (cnt+j) h2 M G' w hK H
    simp only[u1P,u2P,h1] at this
    exact this
   repeat' (first|refine yT ?_|refine y7 sg H ?_|(refine y10 sg H ?_;intro b w H)|(refine y11 sg H ?_;intro w H)|(refine y40 sg (hs2) ?_ ?_ ?_;(omega);(omega))|(refine y42 sg (hs2) ((H.memF hF)) ?_ ?_;(omega))|(refine' y30 zHo ?_ ?_;rotate_left;exact zHs (s.aucs.getD i default) _ (H.memF hF) hbx;intro w hcl;replace H:=H.ext hcl;clear hcl)|refine yU ?_|with_reducible apply zA|fail)
   refine zJ rfl (fun h=>?_) (fun h=>?_)
   ·have hmf:zAV (s.aucs.getD i default)=false:=by simpa using h
    clear h
    repeat' (first|refine yT ?_|refine yU ?_|fail)
    refine zK (i+1,M) rfl ⟨zZ (by omega),trivial⟩ ⟨hlt,H.sub (zz7 _ _),?_⟩ (by simp only;omega)
    simp only
    have:zX (s.aucs.getD i default)=[]:=by unfold zX;rw[hmf];rfl
    rw[htk,this,List.append_nil,hcnt]
    exact hK
   ·have hmt:zAV (s.aucs.getD i default)=true:=by simpa using h
    clear h
    have hYm:=hYa hmt
    have hap:zX (s.aucs.getD i default)=((s.aucs.getD i default).seller,(s.aucs.getD i default).inst,(s.aucs.getD i default).qty)::(s.aucs.getD i default).bids.map (fun b=>(b.acct,0,b.amount)):=by unfold zX;rw[if_pos hmt]
    have hY0:=hYm 0 (Nat.succ_pos _)
    rw[hap] at hY0
    have hYb:∀ j,j<(s.aucs.getD i default).bids.length→∀ (M G':zH) (w:World),K (cnt+1+j) M→St w0 (M++G') w→Yld Tryz.prog l [.agg #[.int .i64 ((s.aucs.getD i default).bids.getD j default).acct,.int .i64 0],.int .i64 ((s.aucs.getD i default).bids.getD j default).amount] w (fun e w'=>∃ v,e=.returned v∧(v=.bool true∧∃ M',K (cnt+1+(j+1)) M'∧St w0 (M'++G') w')):=by
     intro j hj M G' w hK H
     have h1:=hYm (j+1) (by omega) M G' w (by rw[show cnt+(j+1)=cnt+1+j by omega];exact hK) H
     have h2:p3 (zX (s.aucs.getD i default)) (j+1)=(((s.aucs.getD i default).bids.getD j default).acct,0,((s.aucs.getD i default).bids.getD j default).amount):=by
      rw[hap]
      exact bid_at _ hj
     rw[h2,show cnt+(j+1)+1=cnt+1+(j+1) by omega] at h1
     exact h1
    obtain⟨hnc3,hcb3,b3,off3,cs3,T3,fr3,hs3⟩:=hbx
    repeat' (first|refine yT ?_|refine y7 sg H ?_|(refine CW.regionY (id:=10) ?_)|(refine OY.yield (hY0 M (_::G') _ hK (H.perm (zNl M G'))) ?_ (hw:=OY.go rfl);rintro v w ⟨rfl,M,hK,H⟩;replace H:=H.perm (zNl M G').symm)|(refine OY.preN 8 10 ?_;simp only[List.take_succ_cons,List.take_zero,List.drop_succ_cons,List.drop_zero])|(refine OY.all ?_)|refine yU ?_|with_reducible apply zA|fail)
    refine zM [(10,10),(59,71)] (fun x:Nat × zH=>[(59,.int .i64 (x.1:Int))]) (fun x w=>x.1≤(s.aucs.getD i default).bids.length∧St w0 (_::(x.2++G')) w∧K (cnt+1+x.1) x.2) (fun x=>(s.aucs.getD i default).bids.length - x.1) (0,M) ⟨rfl,trivial⟩ ⟨zzD _,H,hK⟩ ?_
    clear H hK
    rintro⟨j,M⟩ gh2 w ⟨hj,H,hK⟩
    simp only at hj H hK ⊢
    repeat' (first|refine yT ?_|refine yU ?_|fail)
    refine zJ rfl (fun h=>?_) (fun h=>?_)
    ·have hlj:j<(s.aucs.getD i default).bids.length:=by have:=zzA h;omega
     clear h
     have hYj:=hYb j hlj
     repeat' (first|refine yT ?_|refine y7 sg H ?_|(refine y10 sg H ?_;intro b w H)|(refine y11 sg H ?_;intro w H)|(refine y40 sg (hs3) ?_ ?_ ?_;(omega);(omega))|(refine y42 sg (hs3) ((H.memF hF)) ?_ ?_;(omega))|(refine CW.regionY (id:=14) ?_)|(refine OY.yield (hYj M (_::_::G') _ hK (H.perm (perm2 M G'))) ?_ (hw:=OY.go rfl);rintro v w ⟨rfl,M,hK,H⟩;replace H:=H.perm (perm2 M G').symm)|(refine OY.preN 6 8 ?_;simp only[List.take_succ_cons,List.take_zero,List.drop_succ_cons,List.drop_zero])|(refine OY.all ?_)|refine yU ?_|with_reducible apply zA|fail)
     exact zK (j+1,M) rfl ⟨zZ (by omega),trivial⟩ ⟨hlj,H.sub (zz7 _ _),hK⟩ (by simp only;omega)
    ·obtain rfl:j=(s.aucs.getD i default).bids.length:=by have:=zzB h;omega
     repeat' (first|refine yT ?_|refine yU ?_|fail)
     refine zE8 (i+1,M) rfl ⟨zZ (by omega),trivial⟩ ⟨hlt,H.sub (zz7 _ _),?_⟩ (by simp only;omega)
     simp only
     rw[htk,hap,List.length_append,List.length_cons,List.length_map,← Nat.add_assoc,hcnt]
     rw[show cnt+((s.aucs.getD i default).bids.length+1)=cnt+1+(s.aucs.getD i default).bids.length by omega]
     exact hK
  ·obtain rfl:i=s.aucs.length:=by have:=zzB h;omega
   rw[List.take_length] at hK
   repeat' (first|refine yU ?_|fail)
   refine zCD (vs:=[]) trivial H ⟨M,rfl,?_⟩
   unfold zS
   rw[List.length_append,hA]
   exact hK
end Go.Proofs.YtibmaifoaajllaaGreatDoor
