/- Texts of ours, joined: the steps of the proof, or the claim's theorem. -/
import Derived.Test.YtibmaifoaajllaaGreatDoorQa43
set_option linter.unusedSimpArgs false
set_option linter.unusedVariables false
set_option maxHeartbeats 16000000
namespace Go.Proofs.YtibmaifoaajllaaGreatDoor
section
open Go Go.Sk Go.RowKit
theorem zCd {n m:Int}:zp n m=true↔1≤n∧n≤m:=by simp[zp]
theorem zCw {a:Auc}(h:zAV a=true):(1≤a.seller∧a.seller≤64)∧(1≤a.inst∧a.inst≤16)∧(1≤a.qty∧a.qty≤1048576)∧(1≤a.reserve∧a.reserve≤1125899906842624)∧a.bids.length≤16∧∀ b∈a.bids,(1≤b.acct∧b.acct≤64)∧(1≤b.amount∧b.amount≤1125899906842624):=by
 have hm:=mayP.1 h
 refine⟨zCd.1 hm.seller,zCd.1 hm.inst,zCd.1 hm.qty,zCd.1 hm.reserve,hm.len16,fun b hb=>?_⟩
 obtain⟨j,hj,rfl⟩:=zIG default hb
 have:=zES.1 (hm.ok j hj)
 exact⟨zCd.1 this.1,zCd.1 this.2.2.1⟩
theorem zLh {s:Sta}(h:Good s){r:Row4}(hr:r∈s.rows):(-72057594037927936≤r.free∧r.free≤1125899906842624)∧0≤r.held∧r.held≤1125899906842624:=by
 have h1:=zIQ h.rows (zAD r)
 rw[zGH (zEu h.rows) hr] at h1
 exact h1
theorem zOO {s:Sta}(h:Good s):WfR s:=fun j hj=>by
 have:=zLh h (show rw_ s.rows j∈s.rows from zAK _ hj)
 unfold Row4.wf Z64
 omega
theorem zCq {s:Sta}(h:Good s):R64 s.rows:=fun r hr=>by
 have:=zLh h hr
 omega
theorem zLi {l:List Row4}(h:zAJ l=true):l.length≤1105:=by
 rw[← zHX h]
 unfold mkR
 refine Nat.le_trans (List.length_filterMap_le _ _) ?_
 decide +kernel
theorem zDf {s:Sta}(h:Good s):LtS s:=by
 have h1:=zCo h
 have h2:=zEz h
 have h3:=zLi h.rows
 obtain⟨h4,_,_⟩:=zAP.1 h.ords
 obtain⟨h5,h6,_⟩:=zAL.1 h.aucs
 refine⟨by omega,by omega,by omega,by omega,by omega,fun k hk=>?_⟩
 have:=(zCw (h6 _ (ze hk))).2.2.2.2.1
 omega
theorem zOP {s:Sta}(h:Good s):AuB s:=by
 have hn:=zx.1 h.nums
 obtain⟨_,h6,_⟩:=zAL.1 h.aucs
 refine⟨zCq h,hn.2.1,fun j hj=>?_,fun j hj=>?_,fun j hj y hy=>?_⟩
 ·have hm:zAV (au_ s.aucs j)=true:=h6 _ (ze hj)
  cases hw:(zN (au_ s.aucs j)).2 with
  | false=>rw[zRe hw];exact⟨Int.le_refl _,by decide⟩
  | true =>
    obtain⟨m,m1,_,_,_,m5,m6,_⟩:=zFH hm hw
    obtain⟨_,_,_,b4,_,b6⟩:=zCw hm
    have:=b6 _ (ze m1)
    omega
 ·have hm:zAV (au_ s.aucs j)=true:=h6 _ (ze hj)
  have:=(zCw hm).2.2.1
  omega
 ·have:=((zCw (h6 _ (ze hj))).2.2.2.2.2 y hy).2
  omega
theorem zPo {s:Sta}(h:Good s):∀ j,j<s.insts.length→1≤(in_ s.insts j).tick:=fun j hj=>((zB9.1 h.insts).2.1 _ (show in_ s.insts j∈s.insts from zAK _ hj)).1
theorem top_in (a:Auc):(zAH a).1=Bid.zero∨(zAH a).1∈a.bids:=by
 unfold zAH
 split
 ·exact .inl rfl
 ·rename_i g
  have hl:=zEG a.bids a.bids.length
  have e:zCY a.bids a.bids.length=hi a.bids:=rfl
  rw[e] at hl
  simp only[Bool.or_eq_true,decide_eq_true_eq,not_or] at g
  exact .inr (ze (by omega))
theorem zSf {s:Sta}(h:Good s):∀ j,j<s.aucs.length→0≤(zAH (au_ s.aucs j)).1.amount∧(zAH (au_ s.aucs j)).1.amount≤1125899906842624:=fun j hj=>by
 rcases top_in (au_ s.aucs j) with e|e
 ·rw[e];exact⟨Int.le_refl _,by decide⟩
 ·have:=((zCw ((zAL.1 h.aucs).2.1 _ (ze hj))).2.2.2.2.2 _ e).2
  omega
theorem zSg (a:Auc)(y:Bid)(h:a.bids.length≤16):(zW a y).1.bids.length≤100000:=by
 unfold zW
 split
 ·exact zzD _
 split
 ·exact zzD _
 split
 ·exact zzD _
 split
 ·exact zzD _
 show(zFp a y).1.length≤100000
 unfold zFp
 split
 ·unfold zCI
  split
  ·exact zzD _
  split
  ·exact zzD _
  ·show(a.bids++[y]).length≤100000
   rw[List.length_append,List.length_singleton];omega
 ·unfold zCr
  split
  ·exact zzD _
  ·show 1≤100000;decide
theorem zPp {s:Sta}(h:Good s)(y:Bid):∀ j,j<s.aucs.length→(zW (au_ s.aucs j) y).1.bids.length≤100000:=fun j hj=>zSg _ _ (zCw ((zAL.1 h.aucs).2.1 _ (ze hj))).2.2.2.2.1
end
section
open Go Go.Sk Go.RowKit
attribute [local irreducible] Go.Calls
section
attribute [local semireducible] Yq
theorem Yq.arrIx {P:Program}(S:Sig P){o:Oper}{e:Env}{w:World}{t E:TypeId}{n:Nat}{ti te:TI}{x i:Operand}{cs:Array Value}{k:IntKind}{q:Int}{j:Nat}{v:Value}(ho:o.op=.index t x i)(hx:ev e x=.agg cs)(hi:ev e i=.int k q)(ht:lk S.tab t=some ti)(htd:ti.d=.array n E)(he:lk S.tab E=some te)(hsz:te.size=1)(hna:zB6 te.d=false)(hj:q.toNat=j)(h0:0≤q)(h1:q<n)(hv:cs.toList[j]?=some v):Yq P o e w v:=by
 intro w' _
 have hu:=S.run_und ht w'
 rw[htd] at hu
 have hp:=zC0 S he cs (j*te.size) (v:=v) (by rw[hna,hsz,Nat.mul_one];exact hv) w'
 subst hj
 simp only[execOp,ho,Instr.index,hx,hi,asIntOf,hu,Sem.run_bind,Sem.run_pure,Result.andThen_ok,S.run_size he,if_pos (And.intro h0 h1),hp]
end
def kFs:List Nat:=[94,95,96,97,98,99,100,101,102,103,
 104,105,106,107,108,109,110,111,112,113,114,115,116]
def kArr:List Value:=.nilFunc::kFs.map fun f=>.func (.func f) #[] #[]
theorem c_does (w0:World):Calls Tryz.prog 59 [].toArray w0 (Ret (.agg kArr.toArray) w0):=by
 refine enter [.cell 0 117] Tryz.func59 rfl Tryz.ntmps59 rfl rfl ?_
 have H:=zB w0
 repeat' (first|refine yT ?_|(refine y10 sg H ?_;intro b w H)|refine yU ?_|fail)
 refine zf rfl rfl (Yq.buildR (cs:=kArr.toArray) sg rfl rfl rfl rfl (by kernel_rfl)) ?_
 repeat' (first|refine yT ?_|(refine y11 sg H ?_;intro w H)|refine yU ?_|fail)
 exact zBT (vs:=[_]) ⟨zAf sg rfl H.mem (zz2 _) rfl rfl,trivial⟩ H.cl rfl
def kF (k:Int):Nat:=kFs.getD (k - 1).toNat 0
section
variable {F:zH}{bm:Nat}{s:Sta}{p:SPt}{na:Option Addr}{nc:Nat}{Ma Mi Mu R:zH}
theorem zOQ {w0 w:World}(e:Evt)(he:EvOk e)(h:Good s)(hP:PriM F)(H:St w0 (mkL bm (mkc s p e.nums na nc (e.texts.getD 0 ByteArray.empty)) Ma Mi Mu R) w)(hC:Cps s p Ma Mi Mu R)(hF:Mem w0 F)(hN:Ints F na nc e.nums) :
  Ent Tryz.prog (kF e.kind)∧kArr[e.kind.toNat]?=some (.func (.func (kF e.kind)) #[] #[])∧Calls Tryz.prog (kF e.kind) [.pointer (some ⟨bm,0,none⟩)].toArray w (zn (zB3 bm e.nums na nc (e.texts.getD 0 ByteArray.empty) (zBE s e.kind e.nums (e.texts.getD 0 ByteArray.empty))) w0):=by
 have hLt:=zDf h
 have hW:=zOO h
 have hB:=zOP h
 have hT:=zPo h
 have hn:=zx.1 h.nums
 have htop:=zSf h
 have htake:=zPp h
 have hat:=fun(i c:Nat) (hc:(zII e.kind)[i]?=some c)=>he.at i hc
 have hlen:=he.len
 have hkk:=he.kind
 obtain⟨v,k,n,tx⟩:=e
 simp only at hat hkk hlen H hN ⊢
 generalize tx.getD 0 ByteArray.empty=t at *
 clear he
 rcases kinds hkk with rfl|rfl|rfl|rfl|rfl|rfl|rfl|rfl|rfl|rfl|rfl|rfl|rfl|rfl|rfl|rfl|rfl|rfl|rfl|rfl|rfl|rfl|rfl
 ·exact⟨ent94,rfl,zSI hLt (Nat.le_of_eq hlen.symm) H hC hF hN⟩
 ·exact⟨ent95,rfl,zSL hLt (Nat.le_of_eq hlen.symm) (by have:=zHI (hat 0 97 rfl);omega) H hC hF hN⟩
 ·exact⟨ent96,rfl,zSP hLt (Nat.le_of_eq hlen.symm) H hC hF hN⟩
 ·exact⟨ent97,rfl,zSN (Nat.le_of_eq hlen.symm) (by have:=zDL (hat 0 105 rfl);omega) hLt H hC hF hN⟩
 ·exact⟨ent98,rfl,zPh (Nat.le_of_eq hlen.symm) (by have:=zDL (hat 0 105 rfl);omega) hLt H hC hF hN⟩
 ·exact⟨ent99,rfl,zLZ hLt hW (Nat.le_of_eq hlen.symm) (by have:=zDM (hat 1 109 rfl);omega) H hC hF hN⟩
 ·exact⟨ent100,rfl,zLa hLt hW (Nat.le_of_eq hlen.symm) (by have:=zDM (hat 1 109 rfl);omega) H hC hF hN⟩
 ·exact⟨ent101,rfl,zSG hLt hW (Nat.le_of_eq hlen.symm) (by have:=zDL (hat 1 105 rfl);omega) (by have:=zDc (hat 2 113 rfl);omega) H hC hF hN⟩
 ·exact⟨ent102,rfl,zMy hLt hW (Nat.le_of_eq hlen.symm) (by have:=zDL (hat 1 105 rfl);omega) (by have:=zDc (hat 2 113 rfl);omega) H hC hF hN⟩
 ·exact⟨ent103,rfl,zSH (Nat.le_of_eq hlen.symm) H hC hF hN⟩
 ·exact⟨ent104,rfl,zSW hLt hW (Nat.le_of_eq hlen.symm) (by have:=zDL (hat 2 105 rfl);omega) (by have:=zRk (hat 3 115 rfl);omega) (by have:=zNy (hat 4 112 rfl);omega) hT (by omega) H hC hF hN⟩
 ·exact⟨ent105,rfl,zLe hLt hW (Nat.le_of_eq hlen.symm) H hC hF hN⟩
 ·exact⟨ent106,rfl,zSe h hLt hW (Nat.le_of_eq hlen.symm) (by have:=zNy (hat 2 112 rfl);omega) (by have:=zDc (hat 3 113 rfl);omega) (by have:=zLI (hat 4 122 rfl);omega) hP H hC hF hN⟩
 ·exact⟨ent107,rfl,zPn (by have:=zDc (hat 3 113 rfl);omega) hLt hW (Nat.le_of_eq hlen.symm) (by have:=zDL (hat 2 105 rfl);omega) hT (by omega) H hC hF hN⟩
 ·exact⟨ent108,rfl,zSa (Nat.le_of_eq hlen.symm) (by have:=zDM (hat 2 109 rfl);omega) htop (htake _) hLt hW H hC hF hN⟩
 ·exact⟨ent109,rfl,zSY (by have:=zDc (hat 3 113 rfl);omega) hLt hW (Nat.le_of_eq hlen.symm) (by have:=zDL (hat 2 105 rfl);omega) hT (by omega) H hC hF hN⟩
 ·exact⟨ent110,rfl,c_bid (Nat.le_of_eq hlen.symm) (by have:=zDM (hat 2 109 rfl);omega) htop (htake _) hLt hW H hC hF hN⟩
 ·exact⟨ent111,rfl,c_sold hB (Nat.le_of_eq hlen.symm) hLt hW H hC hF hN⟩
 ·exact⟨ent112,rfl,zSc hB (Nat.le_of_eq hlen.symm) hLt hW H hC hF hN⟩
 ·exact⟨ent113,rfl,zUG h.aucs hLt (Nat.le_of_eq hlen.symm) H hC hF hN⟩
 ·exact⟨ent114,rfl,zIq hLt hW (Nat.le_of_eq hlen.symm) (by have:=zDM (hat 2 109 rfl);omega) H hC hF hN⟩
 ·exact⟨ent115,rfl,zPg hLt (Nat.le_of_eq hlen.symm) (by have:=zHI (hat 0 97 rfl);omega) H hC hF hN⟩
 ·exact⟨ent116,rfl,zSO (Nat.le_of_eq hlen.symm) (by have:=zDL (hat 0 105 rfl);omega) hLt H hC hF hN⟩
end
end
section
open Go Go.Sk Go.RowKit
attribute [local irreducible] Go.Calls
def StC (r:Sta × Int)(M:zH)(v:Value):Prop:=∃ p Ma Mi Mu R,v=.tuple #[.agg (r.1.cells p).toArray,.int .i64 r.2]∧M=Ma++(Mi++(Mu++R))∧Cps r.1 p Ma Mi Mu R
theorem zSh:Cps zCt SPt.n0 [] [] [] []:=⟨zTC _ _ _,zTC _ _ _,SlA.nil,SlA.nil,zTC _ _ _,fun j hj=>absurd hj (zzE _)⟩
theorem zOR (e:Int):StC (zCt,e) [] (.tuple #[.agg (zCt.cells SPt.n0).toArray,.int .i64 e]):=⟨SPt.n0,[],[],[],[],rfl,rfl,zSh⟩
theorem zOS {s:Sta}{e:Evt}(h:¬(e.v=3∧zBa e=true)):zy s e=(zCt,4):=by unfold zy;rw[if_neg h]
section
variable {F:zH}{s:Sta}{p:SPt}
theorem zLj (g:Good s)(e:Evt)(q:EPt)(hE:zFq e)(w0:World)(hF:Mem w0 F)(hP:PriM F)(hK:KinM F)(hs:StaM F s p)(hM:EvtM F e q) :
  Calls Tryz.prog 35 [.agg (s.cells p).toArray,.agg (e.cells q).toArray].toArray w0 (zn (StC (zy s e)) w0):=by
 have hmay:=fun w h1=>zNr e q hE (F:=F) w h1 hK hM
 by_cases h0:e.v=3
 rotate_left
 ·have d0:(e.v != 3)=true:=by simpa using h0
  rw[zOS (fun h=>h0 h.1)]
  refine enter [.cell 4 28,.tmp 5] Tryz.func35 rfl Tryz.ntmps35 rfl rfl ?_
  have H:=zB w0
  repeat' (first|refine yT ?_|refine y7 sg H ?_|(refine y9 H ?_;intro b w H)|(refine y10 sg H ?_;intro b w H)|(refine y11 sg H ?_;intro w H)|refine yU ?_|(refine y17 ?_ ?_;all_goals(intro h;try (exfalso;first|((cases d0.symm.trans h);done))))|fail)
  exact zAY (vs:=[_,_]) (M:=[]) ⟨zAf sg rfl H.mem (zz2 _) rfl rfl,zh rfl,trivial⟩ (H.sub (zz9 _)) (zOR 4)
 have d0:(e.v != 3)=false:=by simpa using h0
 cases h1:zBa e with
 | false =>
   have d1:(!zBa e)=true:=by rw[h1];rfl
   rw[zOS (fun h=>by rw[h1] at h;cases h.2)]
   refine enter [.cell 4 28,.tmp 5] Tryz.func35 rfl Tryz.ntmps35 rfl rfl ?_
   have H:=zB w0
   repeat' (first|refine yT ?_|refine y7 sg H ?_|(refine y9 H ?_;intro b w H)|(refine y10 sg H ?_;intro b w H)|(refine y11 sg H ?_;intro w H)|(refine' y30 zNX ?_ ?_;rotate_left;exact hmay _ (H.memF hF);intro w hcl;replace H:=H.ext hcl;clear hcl)|refine yU ?_|(refine y17 ?_ ?_;all_goals(intro h;try (exfalso;first|((cases d0.symm.trans h);done)|((cases d1.symm.trans h);done))))|(refine y23 ?_ ?_;all_goals(intro h;try (exfalso;first|((cases d0.symm.trans h);done)|((cases d1.symm.trans h);done))))|fail)
   exact zAY (vs:=[_,_]) (M:=[]) ⟨zAf sg rfl H.mem (zz2 _) rfl rfl,zh rfl,trivial⟩ (H.sub (zz9 _)) (zOR 4)
 | true =>
 have d1:(!zBa e)=false:=by rw[h1];rfl
 have ev:=zNx h0 h1
 have hLt:=zDf g
 have eP:zy s e=if (zBE s e.kind e.nums (e.texts.getD 0 ByteArray.empty)).2=0 then zBE s e.kind e.nums (e.texts.getD 0 ByteArray.empty) else(zCt,(zBE s e.kind e.nums (e.texts.getD 0 ByteArray.empty)).2):=by unfold zy;rw[if_pos ⟨h0,h1⟩]
 rw[eP]
 clear eP
 refine enter [.cell 4 28,.tmp 5] Tryz.func35 rfl Tryz.ntmps35 rfl rfl ?_
 have H:=zB w0
 with_reducible apply zBW
 refine CW.cutT (fun en w=>∃ b2 b3 b4 en',en=ovl [(2,.pointer (some ⟨b2,0,none⟩)),(3,.pointer (some ⟨b3,0,none⟩)),(4,.pointer (some ⟨b4,0,none⟩))] en'∧St w0 [cb b4 zIX 28,cb b3 (e.cells q) 32,cb b2 (s.cells p) 28] w) ?_ ?_
 ·repeat' (first|refine yT ?_|(refine y9 H ?_;intro b w H)|(refine y10 sg H ?_;intro b w H)|refine yU ?_|fail)
  exact⟨_,_,_,_,zAZ rfl rfl rfl,H⟩
 clear H
 rintro _ w ⟨b2,b3,b4,en',rfl,H⟩
 repeat' (first|refine yT ?_|refine y7 sg H ?_|(refine' y30 zNX ?_ ?_;rotate_left;exact hmay _ (H.memF hF);intro w hcl;replace H:=H.ext hcl;clear hcl)|refine yU ?_|(refine y17 ?_ ?_;all_goals(intro h;try (exfalso;first|((cases d0.symm.trans h);done))))|fail)
 refine CW.condF (congrArg Value.bool d1) ?_
 have H0:=H
 have hF1:=H.all hF
 have hF2:=H.memF hF
 clear H
 obtain⟨hn2,hc2,bt,offt,cst,Tt,frt,hst⟩:=hM.texts
 obtain⟨w1,rfl⟩:∃ w1,w1=w:=⟨w,rfl⟩
 have H:=zB w1
 repeat' (first|refine yT ?_|(refine y9 H ?_;intro b w H)|(refine CW.regionL mixed 7 (H.memF hF1) [] ?_ ?_;exact rfl;intro w hcl;replace H:=H.ext hcl;clear hcl;have qh:=H.memF hF1;refine' l1 0 qh ?_ ?_;rotate_left;(exact z3 sg);refine' l1 2 qh ?_ ?_;rotate_left;(exact z4 sg);refine' l1 3 qh ?_ ?_;rotate_left;(exact z3 sg))|((with_reducible apply RL.nil);decide +kernel)|(refine' l1 4 (H.memF hF1) ?_ ?_;rotate_left;(exact z4 sg))|(refine' l1 6 (H.memF hF1) ?_ ?_;rotate_left;(exact z4 sg))|refine l2 1 ?_|refine l2 5 ?_|(refine l5 (H.memF hF1) ?_)|(refine' y32 ent42 ?_ ?_;rotate_left;exact zSE s p hLt _ (H.memF hF1) (hs.mono (zz8 _ _));intro v M w hR hS;replace H:=H.addR hS;clear hS;(try simp only[List.cons_append,List.nil_append] at H);obtain⟨p1,Ma,Mi,Mu,R,rfl,rfl,hC⟩:=hR)|refine z13 (zG sg rfl rfl (H.memF hF1) (zz5 _ (zz2 _)) rfl rfl) ?_|refine yU ?_|fail)
 refine CW.cutT (fun en w=>∃ en',en=ovl [(3,.pointer (some ⟨b3,0,none⟩)),(4,.pointer (some ⟨b4,0,none⟩)),(6,.pointer (some ⟨b,0,none⟩))] en'∧St w1 (mkL b (mkc s p1 e.nums q.na q.nc (e.texts.getD 0 ByteArray.empty)) Ma Mi Mu R) w) ?_ ?_
 ·by_cases ht:0<e.texts.length
  ·refine CW.condT (congrArg Value.bool (decide_eq_true (show(e.texts.length:Int)>0 by omega))) ?_
   repeat' (first|refine yT ?_|(refine y11 sg H ?_;intro w H)|refine z13 (zG sg rfl rfl (H.memF hF1) (zz5 _ (zz2 _)) rfl rfl) ?_|(refine y40 sg (hst) ?_ ?_ ?_;(omega);(omega))|refine z13 (Yq.loadB1 sg hst (H.memF hF2) rfl rfl rfl rfl ht rfl) ?_|refine yU ?_|fail)
   exact⟨_,zAZ rfl rfl rfl,H⟩
  ·refine CW.condF (congrArg Value.bool (decide_eq_false (show ¬(e.texts.length:Int)>0 by omega))) ?_
   repeat' (first|refine yU ?_|fail)
   have e0:e.texts.getD 0 ByteArray.empty=ByteArray.empty:=by
    rw[List.getD_eq_getElem?_getD,List.getElem?_eq_none (by omega)];rfl
   rw[e0]
   exact⟨_,zAZ rfl rfl rfl,H⟩
 clear H
 rintro _ w ⟨en2',rfl,H⟩
 have hek:=ev.kind
 obtain⟨hent,hkA,_⟩:=zOQ e ev g hP H hC hF2 hM.nums
 repeat' (first|refine yT ?_|(refine CW.regionL mixed 7 (H.memF hF1) [] ?_ ?_;exact rfl;intro w hcl;replace H:=H.ext hcl;clear hcl;have qh:=H.memF hF1;refine' l1 1 qh ?_ ?_;rotate_left;(exact z4 sg);refine' l1 2 qh ?_ ?_;rotate_left;(exact z3 sg);refine' l1 4 qh ?_ ?_;rotate_left;(exact z4 sg))|((with_reducible apply RL.nil);decide +kernel)|(refine' l1 3 (H.memF hF1) ?_ ?_;rotate_left;(exact(fun w2 _=>Yq.arrIx sg rfl rfl rfl rfl rfl rfl rfl rfl (Eq.refl e.kind.toNat) (by omega) (by omega) hkA)))|(refine' l1 6 (H.memF hF1) ?_ ?_;rotate_left;(exact z4 sg))|refine l2 0 ?_|refine l2 5 ?_|(refine l5 (H.memF hF1) ?_)|(refine' y30 ent59 ?_ ?_;rotate_left;exact c_does _;intro w hcl;replace H:=H.ext hcl;clear hcl)|(refine zc rfl rfl (En.clo hent rfl rfl rfl rfl) (zOQ e ev g hP H hC hF2 hM.nums).2.2 ?_;rintro _ M w ⟨rfl,hR2⟩ H2;clear H;have H:=H2;clear H2)|refine yU ?_|fail)
 clear hent hkA
 generalize zBE s e.kind e.nums (e.texts.getD 0 ByteArray.empty)=r at *
 have H9:=H0.addR H
 clear H
 have H:=H9
 clear H9 H0 hF1
 by_cases h7:r.2=0
 rotate_left
 ·have d7:(r.2 != 0)=true:=by simpa using h7
  rw[if_neg h7]
  simp only[List.cons_append,List.nil_append] at H
  refine CW.condT (congrArg Value.bool d7) ?_
  repeat' (first|refine yT ?_|(refine y11 sg H ?_;intro w H)|refine yU ?_|fail)
  exact zAY (vs:=[_,_]) (M:=[]) ⟨zAf sg rfl H.mem (zz2 _) rfl rfl,zh rfl,trivial⟩ (H.sub (zz9 _)) (zOR _)
 have d7:(r.2 != 0)=false:=by simpa using h7
 rw[if_pos h7]
 obtain⟨p2,Ma2,Mi2,Mu2,R2,rfl,hC2⟩:=hR2 h7
 simp only[List.cons_append,List.nil_append] at H
 refine CW.condF (congrArg Value.bool d7) ?_
 repeat' (first|refine yT ?_|refine y7 sg H ?_|(refine y11 sg H ?_;intro w H)|refine yU ?_|fail)
 exact zAY (vs:=[_,_]) (M:=Ma2++(Mi2++(Mu2++R2))) ⟨zAf sg rfl H.mem (zz2 _) rfl rfl,zh rfl,trivial⟩ (H.sub ((zz7 _ _).trans ((zz7 _ _).trans ((zz7 _ _).trans (zz7 _ _))))) ⟨p2,Ma2,Mi2,Mu2,R2,by rw[h7];rfl,rfl,hC2⟩
end
end
end Go.Proofs.YtibmaifoaajllaaGreatDoor
