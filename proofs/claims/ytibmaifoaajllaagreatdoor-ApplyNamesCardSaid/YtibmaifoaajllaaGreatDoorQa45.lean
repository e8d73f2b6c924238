/- Texts of ours, joined: the steps of the proof, or the claim's theorem. -/
import Derived.Test.YtibmaifoaajllaaGreatDoorQa44
set_option linter.unusedSimpArgs false
set_option linter.unusedVariables false
set_option maxHeartbeats 16000000
namespace Go.Proofs.YtibmaifoaajllaaGreatDoor
section
open Go Go.Sk Go.RowKit
attribute [local irreducible] Go.Calls
theorem zSi {l:List Evt}{j:Nat}(h:j<l.length):ev_ l j∈l:=by
 unfold ev_;rw[List.getD_eq_getElem?_getD,List.getElem?_eq_getElem h];exact List.getElem_mem h
def StartR (M:zH)(v:Value):Prop:=∃ b0 b1 b2 b3 b4 b5 t1 t2 t3,v=.slice (some ⟨b0,0,none⟩) 5 5 ∧
 M=cb b0 ((evN 1 ⟨#[97]⟩ [1]).cells ⟨some ⟨b1,0,none⟩,1,some ⟨t1,0,none⟩,1⟩++((evN 3 ⟨#[120]⟩ [1,100]).cells ⟨some ⟨b2,0,none⟩,2,some ⟨t2,0,none⟩,1⟩++((evN 1 ⟨#[98]⟩ [2]).cells ⟨some ⟨b3,0,none⟩,1,some ⟨t3,0,none⟩,1⟩++((evF 8 [1,1,5]).cells ⟨some ⟨b4,0,none⟩,3,none,0⟩++(evF 6 [2,1000]).cells ⟨some ⟨b5,0,none⟩,2,none,0⟩)))) 32 ::
   [cb b5 [.int .i64 2,.int .i64 1000] 2,cb b4 [.int .i64 1,.int .i64 1,.int .i64 5] 2,cb b3 [.int .i64 2] 2,cb b2 [.int .i64 1,.int .i64 100] 2,cb b1 [.int .i64 1] 2,cb t1 [.string ⟨#[97]⟩] 9,cb t2 [.string ⟨#[120]⟩] 9,cb t3 [.string ⟨#[98]⟩] 9]
theorem zUN (w0:World):Calls Tryz.prog 23 [].toArray w0 (zn StartR w0):=by
 refine enter [.tmp 0] Tryz.func23 rfl Tryz.ntmps23 rfl rfl ?_
 have H:=zB w0
 repeat' (first|refine yT ?_|((with_reducible apply OX.buildA sg H);exact rfl;exact rfl;exact rfl;exact rfl;exact rfl;exact rfl;exact rfl;exact rfl;exact rfl;exact rfl;exact rfl;exact rfl;intro b w H _)|(refine z14 sg H ?_;intro b w H)|(refine' y32 ent24 ?_ ?_;rotate_left;exact zRt _;intro v M w hR hS;replace H:=H.addR hS;clear hS;(try simp only[List.cons_append,List.nil_append] at H);obtain⟨t1,rfl,rfl⟩:=hR)|(refine' y30 zBJ ?_ ?_;rotate_left;exact zAA _;intro w hcl;replace H:=H.ext hcl;clear hcl)|refine yU ?_|fail)
 exact zU (M:=_) rfl H ⟨_,_,_,_,_,_,_,_,_,rfl,rfl⟩
end
section
open Go Go.Sk Go.RowKit
attribute [local irreducible] Go.Calls
section
variable {F:zH}{s:Sta}{p:SPt}
theorem zDS (hW:StaW s)(e:Evt)(q:EPt)(hE:zFq e)(w0:World)(hF:Mem w0 F)(hP:PriM F)(hK:KinM F)(hs:StaM F s p)(hM:EvtM F e q) :
  Calls Tryz.prog 13 [.agg (s.cells p).toArray,.agg (e.cells q).toArray].toArray w0 (zn (StC (zk s e)) w0):=by
 have hmay:=fun w h1=>zC1 s p hW w (F:=F) h1 hs
 cases h0:zCC s with
 | false =>
   have d0:(!zCC s)=true:=by rw[h0];rfl
   have eP:zk s e=(zCt,4):=by unfold zk;rw[h0];rfl
   rw[eP]
   refine enter [.cell 4 28,.tmp 5] Tryz.func13 rfl Tryz.ntmps13 rfl rfl ?_
   have H:=zB w0
   repeat' (first|refine yT ?_|refine y7 sg H ?_|(refine y9 H ?_;intro b w H)|(refine y10 sg H ?_;intro b w H)|(refine y11 sg H ?_;intro w H)|(refine' y30 zCR ?_ ?_;rotate_left;exact hmay _ (H.memF hF);intro w hcl;replace H:=H.ext hcl;clear hcl)|refine yU ?_|(refine y23 ?_ ?_;all_goals(intro h;try (exfalso;first|((cases d0.symm.trans h);done))))|fail)
   exact zAY (vs:=[_,_]) (M:=[]) ⟨zAf sg rfl H.mem (zz2 _) rfl rfl,zh rfl,trivial⟩ (H.sub (zz9 _)) (zOR 4)
 | true =>
   have d0:(!zCC s)=false:=by rw[h0];rfl
   have g:=zAl.1 h0
   have eP:zk s e=zy s e:=by unfold zk;rw[if_pos h0]
   rw[eP]
   refine enter [.cell 4 28,.tmp 5] Tryz.func13 rfl Tryz.ntmps13 rfl rfl ?_
   have H:=zB w0
   repeat' (first|refine yT ?_|refine y7 sg H ?_|(refine y9 H ?_;intro b w H)|(refine y10 sg H ?_;intro b w H)|(refine y11 sg H ?_;intro w H)|(refine' y30 zCR ?_ ?_;rotate_left;exact hmay _ (H.memF hF);intro w hcl;replace H:=H.ext hcl;clear hcl)|(refine' y32 ent35 ?_ ?_;rotate_left;exact zLj g e q hE _ (H.memF hF) hP hK hs hM;intro v M w hR hS;replace H:=H.addR hS;clear hS;(try simp only[List.cons_append,List.nil_append] at H);obtain⟨p2,Ma,Mi,Mu,R,rfl,rfl,hC⟩:=hR)|refine yU ?_|(refine y23 ?_ ?_;all_goals(intro h;try (exfalso;first|((cases d0.symm.trans h);done))))|fail)
   exact zAY (vs:=[_,_]) (M:=Ma++(Mi++(Mu++R))) ⟨zAf sg rfl H.mem (zz2 _) rfl rfl,zh rfl,trivial⟩ (H.sub ((zz7 _ _).trans ((zz7 _ _).trans (zz7 _ _)))) ⟨p2,Ma,Mi,Mu,R,rfl,rfl,hC⟩
def AllR (r:Sta × Int × Int)(M:zH)(v:Value):Prop:=∃ p Ma Mi Mu R,v=.tuple #[.agg (r.1.cells p).toArray,.int .i64 r.2.1,.int .i64 r.2.2]∧M=Ma++(Mi++(Mu++R))∧Cps r.1 p Ma Mi Mu R
theorem all_z (k e:Int):AllR (zCt,k,e) [] (.tuple #[.agg (zCt.cells SPt.n0).toArray,.int .i64 k,.int .i64 e]):=⟨SPt.n0,[],[],[],[],rfl,rfl,zSh⟩
structure AI where
 k:Nat
 c:Sta
 p:SPt
 Ma:zH
 Mi:zH
 Mu:zH
 R:zH
theorem zPq {s c:Sta}{l:List Evt}{k:Nat}{i:Int}(hk:k<l.length)(h:zAB s (l.take k) 0=(c,i,0)):zAB s (l.take (k+1)) 0=if (zy c (ev_ l k)).2=0 then((zy c (ev_ l k)).1,i+1,0) else(zCt,i,(zy c (ev_ l k)).2):=by
 have e:l.take (k+1)=l.take k++[ev_ l k]:=by
  rw[List.take_succ_eq_append_getElem hk];unfold ev_;simp[List.getElem?_eq_getElem hk]
 rw[e,zGQ,h,if_pos rfl,all_cons]
 split
 ·rfl
 ·rfl
theorem zKV {a:Option Addr}{cap:Nat}(hW:StaW s)(l:List Evt)(q:Nat→EPt)(hT:∀ e∈l,zFq e)(w0:World)(hF:Mem w0 F)(hP:PriM F)(hK:KinM F)(hs:StaM F s p)(hM:EvsM F a cap l q) :
  Calls Tryz.prog 21 [.agg (s.cells p).toArray,.slice a l.length cap].toArray w0 (zn (AllR (zBL s l)) w0):=by
 have hmay:=fun w h1=>zC1 s p hW w (F:=F) h1 hs
 cases h0:zCC s with
 | false =>
   have d0:(!zCC s)=true:=by rw[h0];rfl
   have eP:zBL s l=(zCt,0,4):=by unfold zBL;rw[h0];rfl
   rw[eP]
   refine enter [.cell 4 28,.tmp 5,.tmp 6] Tryz.func21 rfl Tryz.ntmps21 rfl rfl ?_
   have H:=zB w0
   repeat' (first|refine yT ?_|refine y7 sg H ?_|(refine y9 H ?_;intro b w H)|(refine y10 sg H ?_;intro b w H)|(refine y11 sg H ?_;intro w H)|(refine' y30 zCR ?_ ?_;rotate_left;exact hmay _ (H.memF hF);intro w hcl;replace H:=H.ext hcl;clear hcl)|refine yU ?_|(refine y23 ?_ ?_;all_goals(intro h;try (exfalso;first|((cases d0.symm.trans h);done))))|fail)
   exact zAY (vs:=[_,_,_]) (M:=[]) ⟨zAf sg rfl H.mem (zz2 _) rfl rfl,zh rfl,zh rfl,trivial⟩ (H.sub (zz9 _)) (all_z 0 4)
 | true =>
 have d0:(!zCC s)=false:=by rw[h0];rfl
 have g:=zAl.1 h0
 have eP:zBL s l=zAB s l 0:=by unfold zBL;rw[if_pos h0]
 rw[eP]
 obtain⟨⟨hnl,hcl,bl,offl,csl,Tl,frl,hsl⟩,hev⟩:=hM
 refine enter [.cell 4 28,.tmp 5,.tmp 6] Tryz.func21 rfl Tryz.ntmps21 rfl rfl ?_
 have H:=zB w0
 repeat' (first|refine yT ?_|refine y7 sg H ?_|(refine y9 H ?_;intro b w H)|(refine y10 sg H ?_;intro b w H)|(refine' y30 zCR ?_ ?_;rotate_left;exact hmay _ (H.memF hF);intro w hcl;replace H:=H.ext hcl;clear hcl)|refine yU ?_|fail)
 refine CW.condF (congrArg Value.bool d0) ?_
 repeat' (first|refine yT ?_|refine y7 sg H ?_|(refine y11 sg H ?_;intro w H)|(refine' y32 ent42 ?_ ?_;rotate_left;exact zSE s p (zDf g) _ (H.memF hF) hs;intro v M w hR hS;replace H:=H.addR hS;clear hS;(try simp only[List.cons_append,List.nil_append] at H);obtain⟨p1,Ma,Mi,Mu,R,rfl,rfl,hC⟩:=hR)|refine yU ?_|with_reducible apply zA|fail)
 rename_i b2 _ _ _ _ _ _
 refine zM [(5,10),(19,36)] (fun x:AI=>[(19,.int .i64 (x.k:Int))]) (fun x w=>x.k≤l.length∧zAB s (l.take x.k) 0=(x.c,(x.k:Int),0)∧Good x.c∧Cps x.c x.p x.Ma x.Mi x.Mu x.R∧St w0 (cb b zIX 28::cb b2 (x.c.cells x.p) 28::(x.Ma++(x.Mi++(x.Mu++x.R)))) w) (fun x=>l.length - x.k) ⟨0,s,p1,Ma,Mi,Mu,R⟩ ⟨rfl,trivial⟩ ⟨zzD _,rfl,g,hC,H⟩ ?_
 clear H hC
 rintro⟨k,c,pc,Ma,Mi,Mu,R⟩ gh w ⟨hk,hal,gc,hC,H⟩
 simp only at hk hal gc hC H ⊢
 repeat' (first|refine yT ?_|refine yU ?_|fail)
 refine zJ rfl (fun h=>?_) (fun h=>?_)
 ·have hlt:k<l.length:=by have:=zzA h;omega
  clear h
  have hsn:=zPq hlt hal
  have hhap:=fun w (L:zH) (hG:Mem w (L++F)) (hsub:(Ma++(Mi++(Mu++R)))⊆L)=>zLj (p:=pc) gc (ev_ l k) (q k) (hT _ (zSi hlt)) w hG (hP.mono (zz8 _ _)) (hK.mono (zz8 _ _)) ((hC.sta (zDf gc)).mono fun x hx=>zz6 _ (hsub hx)) ((hev k hlt).mono (zz8 _ _))
  repeat' (first|refine yT ?_|refine y7 sg H ?_|(refine y10 sg H ?_;intro b w H)|(refine y11 sg H ?_;intro w H)|(refine y40 sg (hsl) ?_ ?_ ?_;(omega);(omega))|(refine y42 sg (hsl) ((H.memF hF)) ?_ ?_;(omega))|(refine' y32 ent35 ?_ ?_;rotate_left;exact hhap _ _ (H.all hF) (fun p hp=>by repeat (first|exact hp|apply zz4));intro v M w hR hS;replace H:=H.addR hS;clear hS;(try simp only[List.cons_append,List.nil_append] at H);obtain⟨p2,Ma2,Mi2,Mu2,R2,rfl,rfl,hC2⟩:=hR)|refine yU ?_|with_reducible apply zA|fail)
  have hgood:(zy c (ev_ l k)).2=0→Good (zy c (ev_ l k)).1:=fun e=>zEU gc (Prod.ext rfl e)
  generalize zy c (ev_ l k)=r at *
  by_cases h7:r.2=0
  ·have d7:(r.2 != 0)=false:=by simpa using h7
   rw[if_pos h7] at hsn
   refine CW.condF (congrArg Value.bool d7) ?_
   repeat' (first|refine yT ?_|refine y7 sg H ?_|(refine y11 sg H ?_;intro w H)|refine yU ?_|fail)
   refine zK ⟨k+1,r.1,p2,Ma2,Mi2,Mu2,R2⟩ rfl ⟨zZ (by omega),trivial⟩ ⟨hlt,by rw[hsn];simp only[Int.natCast_add];rfl,hgood h7,hC2,H.sub (List.Sublist.cons _ (List.Sublist.cons _ (List.Sublist.cons_cons _ (List.Sublist.cons_cons _ (List.sublist_append_right _ _)))))⟩ (by show l.length - (k+1)<l.length - k;omega)
  ·have d7:(r.2 != 0)=true:=by simpa using h7
   rw[if_neg h7] at hsn
   have hend:zAB s l 0=(zCt,(k:Int),r.2):=by
    have e:l=l.take (k+1)++l.drop (k+1):=(List.take_append_drop _ _).symm
    rw[e,zGQ,hsn,if_neg h7]
   rw[hend]
   refine CW.condT (congrArg Value.bool d7) ?_
   repeat' (first|refine yT ?_|(refine y11 sg H ?_;intro w H)|refine yU ?_|fail)
   exact zAY (vs:=[_,_,_]) (M:=[]) ⟨zAf sg rfl H.mem qB rfl rfl,zh rfl,zh rfl,trivial⟩ (H.sub (zz9 _)) (all_z _ _)
 ·obtain rfl:k=l.length:=by have:=zzB h;omega
  clear h
  rw[List.take_length] at hal
  rw[hal]
  repeat' (first|refine yT ?_|refine y7 sg H ?_|(refine y11 sg H ?_;intro w H)|refine yU ?_|fail)
  exact zAY (vs:=[_,_,_]) (M:=Ma++(Mi++(Mu++R))) ⟨zAf sg rfl H.mem (zz2 _) rfl rfl,zh rfl,zh rfl,trivial⟩ (H.sub ((zz7 _ _).trans (zz7 _ _))) ⟨pc,Ma,Mi,Mu,R,rfl,rfl,hC⟩
end
end
section
open Go Go.Sk Go.RowKit
def zJP (r:Row4)(a s f h:Int):Bool:=r.acct==a&&r.asset==s&&r.free==f&&r.held==h
theorem zGW {r:Row4}{a s f h:Int}(e:zJP r a s f h=true):r=⟨a,s,f,h⟩:=by
 unfold zJP at e
 simp only[Bool.and_eq_true,beq_iff_eq] at e
 obtain⟨⟨⟨rfl,rfl⟩,rfl⟩,rfl⟩:=e
 rfl
def awB:Bool :=
 let r:=zBL zH5 awL
 let t:=zk r.1 (evF 13 [2,1,100,3,0])
 (r.2.1==7&&r.2.2==0&&(lgR r.1.rows 2 0).held==600)&&(t.2==0&&(zk r.1 (evF 13 [2,1,200,3,0])).2==46&&(zk t.1 (evF 2 [1])).2==47&&(zk t.1 (evF 23 [1,50])).2==46&&(zk t.1 (evF 20 [0])).2==4) &&
 (zJP (lgR t.1.rows 1 0) 1 0 300 0&&zJP (lgR t.1.rows 1 1) 1 1 0 2&&zJP (lgR t.1.rows 2 0) 2 0 700 0&&zJP (lgR t.1.rows 2 1) 2 1 3 0&&t.1.orders.length==1&&(od_ t.1.orders 0).id==1&&t.1.fee==0)
theorem aw_b:awB=true:=by decide +kernel
structure AwF (s t:Sta):Prop where
 all:zBL zH5 awL=(s,7,0)
 held:(lgR s.rows 2 0).held=600
 trd:zk s (evF 13 [2,1,100,3,0])=(t,0)
 no1:(zk s (evF 13 [2,1,200,3,0])).2=46
 no2:(zk t (evF 2 [1])).2=47
 no3:(zk t (evF 23 [1,50])).2=46
 no4:(zk t (evF 20 [0])).2=4
 r1:lgR t.rows 1 0=⟨1,0,300,0⟩
 r2:lgR t.rows 1 1=⟨1,1,0,2⟩
 r3:lgR t.rows 2 0=⟨2,0,700,0⟩
 r4:lgR t.rows 2 1=⟨2,1,3,0⟩
 ol:t.orders.length=1
 oi:(od_ t.orders 0).id=1
 fee:t.fee=0
theorem aw_f:∃ s t,AwF s t:=by
 have h:=aw_b
 unfold awB at h
 simp only[Bool.and_eq_true,beq_iff_eq] at h
 obtain⟨⟨⟨⟨h1,h2⟩,h3⟩,⟨⟨⟨h4,h5⟩,h6⟩,h7⟩,h8⟩,⟨⟨⟨⟨⟨h9,h10⟩,h11⟩,h12⟩,h13⟩,h14⟩,h15⟩:=h
 exact⟨_,_,Prod.ext rfl (Prod.ext h1 h2),h3,Prod.ext rfl h4,h5,h6,h7,h8,zGW h9,zGW h10,zGW h11,zGW h12,h13,h14,h15⟩
theorem AwF.good {s t:Sta}(h:AwF s t):Good s∧Good t:=zJG h.trd
end
end Go.Proofs.YtibmaifoaajllaaGreatDoor
namespace Go.Sk
open Go Go.RowKit
def Byt (l:List Nat):Prop:=∀ b∈l,b<256
theorem Byt.take {l:List Nat}(h:Byt l)(n:Nat):Byt (l.take n):=fun x hx=>h x (List.mem_of_mem_take hx)
theorem Byt.drop {l:List Nat}(h:Byt l)(n:Nat):Byt (l.drop n):=fun x hx=>h x (List.mem_of_mem_drop hx)
theorem zGX (s:ByteArray):bytesOf (zMS s)=s:=by
 cases s with
 | mk d =>
   unfold bytesOf zMS
   congr 1
   apply Array.ext'
   simp[List.map_map,Function.comp_def]
theorem zLk {a b:ByteArray}(h:zMS a=zMS b):a=b:=by rw[← zGX a,← zGX b,h]
theorem str_eq (a b:ByteArray):(a.toList==b.toList)=decide (zMS a=zMS b):=by
 rw[ByteArray.toList_eq,ByteArray.toList_eq,Bool.eq_iff_iff,beq_iff_eq,decide_eq_true_eq]
 constructor
 ·intro h;unfold zMS;rw[h]
 ·intro h;rw[zLk h]
end Go.Sk
