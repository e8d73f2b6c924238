/- souklaw20.DecideNames, walked: it answers true. -/
import Derived.Test.YthbflajpdhgfiaaGreatDoorQdDecideNamesd
import Derived.Test.YthbflajpdhgfiaaGreatDoorQdDecideNamese
import Derived.Test.YthbflajpdhgfiaaGreatDoorQdDecideNamesg
import Derived.Test.YthbflajpdhgfiaaGreatDoorQdDecideNamesh
import Derived.Test.YthbflajpdhgfiaaGreatDoorQdDecideNamesi
import Derived.Test.YthbflajpdhgfiaaGreatDoorQdDecideNamesj
set_option linter.all false
set_option maxHeartbeats 16000000
namespace Go.Proofs.YthbflajpdhgfiaaGreatDoor
section
open Go Go.Sk Go.RowKit
theorem ent14:Ent Tryz.prog 14:=em Tryz.func14
end
section
open Go Go.Sk Go.RowKit
attribute [local irreducible] Go.Calls
theorem c_refused {F:zC}{a na:Option Addr}{cap nc:Nat}(l:List Cmd)(q:Nat→CPt)(hT:∀ c∈l,zDr c)(c:Cmd)(hc:zDr c)(want:Int){r:Bool}(hr:((zBC (zDs zBJ 0 l).1 c).2==want&&decide ((zBC (zDs zBJ 0 l).1 c).1.length=0))=r)(w0:World)(hF:Mem w0 F)(hP:PriM F)(hK:KinM F)(hC:ComM F)(hl:CmsM F a cap l q)(hN:Ints F na nc c.nums) :
  Calls Tryz.prog 14 [.slice a l.length cap,.agg (c.cells na nc).toArray,.int .i64 want].toArray w0 (Ret (.bool r) w0):=by
 subst hr
 have hrun:=fun w (h1:Mem w F)=>c_run l q hT w h1 hP hK hC hl
 obtain⟨s,k,hs⟩:∃ s k,zDs zBJ 0 l=(s,k):=⟨_,_,rfl⟩
 rw[hs] at hrun ⊢
 obtain⟨es,e,he⟩:∃ es e,zBC s c=(es,e):=⟨_,_,rfl⟩
 have hcom:=fun w (G:zC) (p:SPt) (gs:Good s) (hG:Mem w (G++F)) (hs:StaM (G++F) s p)=>zFO (s:=s) (p:=p) (c:=c) (na:=na) (nc:=nc) (zFo gs) hc w hG (hP.mono (zz8 _ _)) (hK.mono (zz8 _ _)) (hC.mono (zz8 _ _)) hs (SlA.mono hN (zz8 _ _))
 rw[he] at hcom
 simp only[he]
 have hz:((es.length:Int)==0)=decide (es.length=0):=by rw[Bool.eq_iff_iff,beq_iff_eq,decide_eq_true_eq];omega
 refine enter [.tmp 6] Tryz.func14 rfl Tryz.ntmps14 rfl rfl ?_
 have H:=zA w0
 cases d1:e==want with
 | true =>
   repeat' (first|refine yT ?_|refine y7 sg H ?_|(refine y9 H ?_;intro b w H)|(refine y10 sg H ?_;intro b w H)|(refine y11 sg H ?_;intro w H)|(refine' y32 ent15 ?_ ?_;rotate_left;exact hrun _ (H.memF hF);intro v M w hR hS;replace H:=H.addR hS;clear hS;(try simp only[List.cons_append,List.nil_append] at H);obtain⟨p,rfl,hst,gs⟩:=hR)|(refine' y32 zFu ?_ ?_;rotate_left;exact hcom _ _ _ gs (H.all hF) (hst.mono fun x hx=>by simp[hx]);intro v M2 w hR hS;replace H:=H.addR hS;clear hS;(try simp only[List.cons_append,List.nil_append] at H);obtain⟨ae,cape,qe,rfl,hE⟩:=hR)|refine yU ?_|(refine y17 ?_ ?_;all_goals(intro h;try (exfalso;first|((cases d1.symm.trans h);done))))|fail)
   exact zP rfl H.cl (congrArg Value.bool hz)
 | false =>
   repeat' (first|refine yT ?_|refine y7 sg H ?_|(refine y9 H ?_;intro b w H)|(refine y10 sg H ?_;intro b w H)|(refine y11 sg H ?_;intro w H)|(refine' y32 ent15 ?_ ?_;rotate_left;exact hrun _ (H.memF hF);intro v M w hR hS;replace H:=H.addR hS;clear hS;(try simp only[List.cons_append,List.nil_append] at H);obtain⟨p,rfl,hst,gs⟩:=hR)|(refine' y32 zFu ?_ ?_;rotate_left;exact hcom _ _ _ gs (H.all hF) (hst.mono fun x hx=>by simp[hx]);intro v M2 w hR hS;replace H:=H.addR hS;clear hS;(try simp only[List.cons_append,List.nil_append] at H);obtain⟨ae,cape,qe,rfl,hE⟩:=hR)|refine yU ?_|(refine y17 ?_ ?_;all_goals(intro h;try (exfalso;first|((cases d1.symm.trans h);done))))|fail)
   exact zP rfl H.cl rfl
end
section
open Go Go.Sk Go.RowKit
theorem yV {A B:Prop}(k:B)(h:B→A:=by
  intro k
  (first|refine y13 ?_|refine y14 ?_|refine y15 ?_|refine y16 ?_|(with_reducible first|apply OW.app|apply OW.app0|apply QW.app|apply QW.app0|apply OW.nil|apply zQN|apply zDu|apply CW.ret|apply zTO|apply zTN|apply thn_r|apply thn_e|apply zQO|apply blk_r)|refine y19 ?_|refine y24 ?_|refine y25 ?_|refine y21 ?_|refine y22 ?_|fail)
  exact k):A:=h k
theorem sub_rot {M X F:zC}:M++(X++F)⊆(X++M)++F:=fun x hx=>by
 simp only[List.mem_append] at hx ⊢
 rcases hx with h|h|h
 ·exact .inl (.inr h)
 ·exact .inl (.inl h)
 ·exact .inr h
def TbL {α κ:Type}(P:α→κ→Prop):List α→List κ→Prop
 | [],[]=>True
 | x::l,q::qs=>P x q∧TbL P l qs
 | _,_=>False
theorem tb_at {α κ:Type}{P:α→κ→Prop}(za:α)(zk:κ):∀ {l:List α} {qs:List κ},TbL P l qs→∀ j,j<l.length→P (l.getD j za) (qs.getD j zk)
 | [],[],_,j,hj=>absurd hj (zzE j)
 | x::l,q::qs,h,0,_=>h.1
 | x::l,q::qs,h,j+1,hj=>by
   have:=tb_at za zk h.2 j (by simpa using hj)
   exact this
 | [],_::_,h,_,_=>h.elim
 | _::_,[],h,_,_=>h.elim
theorem tb_flat {α κ:Type}{P:α→κ→Prop}(f:α→κ→List Value)(za:α)(zk:κ):∀ {l:List α} {qs:List κ},TbL P l qs→(l.zip qs).flatMap (fun x=>f x.1 x.2)=(List.range l.length).flatMap fun j=>f (l.getD j za) (qs.getD j zk)
 | [],[],_=>rfl
 | x::l,q::qs,h=>by
   rw[List.zip_cons_cons,List.flatMap_cons,tb_flat f za zk h.2,List.length_cons,List.range_succ_eq_map,List.flatMap_cons,List.flatMap_map]
   rfl
 | [],_::_,h=>h.elim
 | _::_,[],h=>h.elim
theorem tb_blk {α κ:Type}{P:α→κ→Prop}{F:zC}{b:Nat}{T:TypeId}{cs:List Value}(f:α→κ→List Value)(za:α)(zk:κ)(n:Nat)(l:List α)(X:List Value→List κ)(h:cb b cs T∈F)(hE:TbL P l (X cs))(hx:cs=(l.zip (X cs)).flatMap (fun x=>f x.1 x.2))(hc:cs.length=l.length*n)(hf:∀ x q,(f x q).length=n)(hl:l.length≤1000):∃ q:Nat→κ,SlA F n (some ⟨b,0,none⟩) l.length l.length (fun j=>f (l.getD j za) (q j))∧∀ j,j<l.length→P (l.getD j za) (q j):=by
 have o:=Go.Sk.Own.mk (g:=b) (cs:=cs) (E:=T) (size:=n) (zzC l.length) (by unfold maxLen;omega) hc
 rw[List.take_of_length_le (Nat.le_of_eq hc)] at o
 have hx2:=hx.trans (tb_flat f za zk hE)
 rw[hx2] at o
 exact⟨fun j=>(X cs).getD j zk,o.sl (fun p hp=>by rw[List.mem_singleton.1 hp,← hx2];exact h) (fun _ _=>hf _ _) qO,tb_at za zk hE⟩
theorem dn_in {α:Type}{l:List α}{j:Nat}(z:α)(h:j<l.length):l.getD j z∈l:=by
 rw[List.getD_eq_getElem?_getD,List.getElem?_eq_getElem h]
 exact List.getElem_mem _
theorem dn_evN {F:zC}{b bt:Nat}{T T2:TypeId}(k:Int)(t:ByteArray)(n:List Int)(hl:n.length≤1000)(h:cb b (n.map (Value.int .i64)) T∈F)(ht:cb bt [.string t] T2∈F):EvtM F ⟨3,k,n,[t]⟩ ⟨some ⟨b,0,none⟩,n.length,some ⟨bt,0,none⟩,1⟩:=⟨zAl n hl h,zUG t ht⟩
def dbZ:Cmd × Evt:=(cmZ,evZ)
def dbC (y:Cmd × Evt)(q:CPt × EPt):List Value:=y.1.cells q.1.1 q.1.2++y.2.cells q.2
def dbP (F:zC)(y:Cmd × Evt)(q:CPt × EPt):Prop:=Ints F q.1.1 q.1.2 y.1.nums∧EvtM F y.2 q.2
def dbX:List Value→List (CPt × EPt)
 | _::.slice a _ c::_::_::_::.slice a2 _ c2::.slice a3 _ c3::r=>((a,c),⟨a2,c2,a3,c3⟩)::dbX r
 | _=>[]
def dbQ:CPt × EPt:=((none,0),zIW)
def drZ:Cmd × Int:=(cmZ,0)
def drC (y:Cmd × Int)(q:CPt):List Value:=y.1.cells q.1 q.2++[.int .i64 y.2]
def drP (F:zC)(y:Cmd × Int)(q:CPt):Prop:=Ints F q.1 q.2 y.1.nums
def drX:List Value→List CPt
 | _::.slice a _ c::_::_::r=>(a,c)::drX r
 | _=>[]
def cmT (c:Cmd):Bool:=decide (0≤c.kind)&&decide (c.kind≤255)&&decide (c.text.size≤140737488355328)
theorem cm_T {c:Cmd}(h:cmT c=true):zDr c:=by
 unfold cmT at h
 simp only[Bool.and_eq_true,decide_eq_true_eq] at h
 exact h
theorem dn_B {y:Cmd × Evt}(h:y∈dnB):zDr y.1∧((zBC (zDs zBJ 0 dnL).1 y.1).2==0&&zHH (zBC (zDs zBJ 0 dnL).1 y.1).1 [y.2])=true:=by
 refine⟨cm_T (List.all_eq_true.1 (show(dnB.all fun y=>cmT y.1)=true by decide +kernel) y h),?_⟩
 have:=dn_ok
 unfold dnOk at this
 simp only[Bool.and_eq_true] at this
 exact List.all_eq_true.1 this.1 y h
theorem dn_R {y:Cmd × Int}(h:y∈dnR):zDr y.1∧((zBC (zDs zBJ 0 dnL).1 y.1).2==y.2&&decide ((zBC (zDs zBJ 0 dnL).1 y.1).1.length=0))=true:=by
 refine⟨cm_T (List.all_eq_true.1 (show(dnR.all fun y=>cmT y.1)=true by decide +kernel) y h),?_⟩
 have:=dn_ok
 unfold dnOk at this
 simp only[Bool.and_eq_true] at this
 exact List.all_eq_true.1 this.2 y h
theorem dn_LT:∀ c∈dnL,zDr c:=fun c hc=>cm_T (List.all_eq_true.1 (show(dnL.all cmT)=true by decide +kernel) c hc)
end
section
open Go Go.Sk Go.RowKit
attribute [local irreducible] Go.Calls
theorem dn_step {k:Nat}(hk:k<32):stepB (dnS k) dnOne (dnS (k+1))=true:=by
 by_cases h:k<16
 ·exact List.all_eq_true.1 dn_stA k (List.mem_range.2 h)
 ·obtain⟨j,rfl⟩:∃ j,k=j+16:=⟨k - 16,by omega⟩
  exact List.all_eq_true.1 dn_stB j (List.mem_range.2 qO)
theorem dn_suc (k:Nat):dnM k++[dnOne]=dnM (k+1):=by unfold dnM;rw[List.replicate_succ',List.append_assoc]
theorem dn_runs:∀ k,k≤32→zDs zBJ 0 (dnM k)=(dnS k,0)
 | 0,_=>by
   have h:=dn_m0
   simp only[Bool.and_eq_true,beq_iff_eq] at h
   exact Prod.ext (sta_eq h.2) h.1
 | k+1,hk=>by
   rw[← dn_suc,dn_rapp [dnOne] (dn_runs k qO)]
   exact run_one (dn_step hk)
theorem dn_len (k:Nat):(dnM k).length=10+k:=by unfold dnM;rw[List.length_append,List.length_replicate];rfl
theorem dn_MT (k:Nat):∀ c∈dnM k,zDr c:=app_T zOr fun c hc=>by rw[List.eq_of_mem_replicate hc];exact zIZ _ _ (by decide)
theorem dn_AT:∀ c∈dnM 31++[dnAll],zDr c:=app_T (dn_MT 31) fun c hc=>by rw[List.mem_singleton.1 hc];exact zIZ _ _ (by decide)
theorem tr_all {n:Nat}(a:((List.range 16).all fun j=>trB n j)=true)(b:((List.range 15).all fun j=>trB n (j+16))=true)(j:Nat)(hj:j<31):trB n j=true:=by
 by_cases h:j<16
 ·exact List.all_eq_true.1 a j (List.mem_range.2 h)
 ·obtain⟨k,rfl⟩:∃ k,j=k+16:=⟨j - 16,by omega⟩
  exact List.all_eq_true.1 b k (List.mem_range.2 qO)
theorem all_one {s t u:Sta}{e:Evt}{l:List Evt}(hm:zCY s=true)(hh:zAN s e=(t,0))(h:(zBA t l (0+1)).1=u∧(zBA t l (0+1)).2.2=0):(zDi s (e::l)).1=u∧(zDi s (e::l)).2.2=0:=by
 unfold zDi
 rw[if_pos hm,zBA,if_pos (by rw[hh]),hh]
 exact h
theorem dn_es:∃ es,zBC (dnS 31) dnAll=(es,0)∧es.length=32∧zDs zBJ 0 (dnM 31++[dnAll])=(dnT,0):=by
 have h:=dn_tA
 have g:=dn_tB
 simp only[Bool.and_eq_true] at h g
 have ht:=tr_all h.2 g.1.1
 obtain⟨c1,c2⟩:=cmd_tr h.1 ht
 have hno:trN (((31:Nat):Int)+1) ⟨[],sT 31 31,dnF 31::evsT 31 0 31⟩=none:=Option.isNone_iff_eq_none.1 g.1.2
 have hc:zBC (dnS 31) dnAll=(dnF 31::evsT 31 0 31,0):=by
  rw[c1,zFn]
  simp only[hno]
 refine⟨_,hc,by rw[List.length_cons,evsT_len],?_⟩
 rw[dn_rapp [dnAll] (dn_runs 31 (by decide)),run_cons,hc]
 obtain⟨hm,hh⟩:=hap_ev c2
 obtain⟨a1,a2⟩:=all_tr ht 31 0 (0+1) rfl
 have hal:=all_one hm hh ⟨a1,a2⟩
 rw[if_neg (fun q=>q rfl),if_neg (by rw[hal.2];exact fun q=>q rfl),hal.1,sta_eq g.2]
 rfl
theorem dn_u:((zBC (dnS 32) dnAll).2==40&&decide ((zBC (dnS 32) dnAll).1.length=0))=true:=by
 have h:=dn_tC
 have g:=dn_tD
 simp only[Bool.and_eq_true] at h g
 obtain⟨c1,_⟩:=cmd_tr h.1 (tr_all h.2 g.1)
 obtain⟨e,he⟩:=Option.isSome_iff_exists.1 g.2
 have hs:trN (((32:Nat):Int)+1) ⟨[],sT 32 31,dnF 32::evsT 32 0 31⟩=some e:=he
 rw[c1,zFn]
 simp only[hs]
 rw[if_pos ⟨trivial,by show 31<(dnF 32::evsT 32 0 31).length;rw[List.length_cons,evsT_len];decide⟩]
 rfl
theorem dn_zW {c f o a:Int}:StaW ⟨c,f,o,a,[],[],[],[],[]⟩:=⟨zzD _,fun k hk=>absurd hk (zzE _),zzD _,fun k hk=>absurd hk (zzE _),fun k hk=>absurd hk (zzE _)⟩
theorem dn_zM {G:zC}{c f o a:Int}:StaM G ⟨c,f,o,a,[],[],[],[],[]⟩ SPt.n0:=⟨SlA.nil,SlA.nil,SlA.nil,SlA.nil,SlA.nil,fun j hj=>absurd hj (zzE _)⟩
structure DI where
 k:Nat
 a:Option Addr
 cap:Nat
 q:Nat→CPt
 N:zC
set_option maxRecDepth 20000 in
theorem c_lDN {F:zC}(w0:World)(hF:Mem w0 F)(hP:PriM F)(hK:KinM F)(hC:ComM F):Calls Tryz.prog 3 [].toArray w0 (Ret (.bool true) w0):=by
 have hwk:=fun w (hG:Mem w F)=>zOs w hG hP hK hC
 refine enter [.tmp 0] Tryz.func3 rfl Tryz.ntmps3 rfl rfl ?_
 have H:=zA w0
 repeat' (first|refine yV ?_|fail)
 refine zO0 ?_
 repeat' (first|refine yT ?_|refine yV ?_|fail)
 refine zO0 ?_
 repeat' (first|refine yT ?_|(refine' y30 zGR ?_ ?_;rotate_left;exact hwk _ (H.memF hF);refine w2 H ?_;clear H;intro w H)|refine yV ?_|fail)
 refine zO0 ?_
 repeat' (first|refine yT ?_|((with_reducible apply OX.buildA sg H);(iterate 12 exact rfl);intro b w H _)|(refine z14 sg H ?_;intro b w H)|(refine' y30 ent10 ?_ ?_;rotate_left;exact zIF _;refine w2 H ?_;clear H;intro w H)|(refine' y32 ent9 ?_ ?_;rotate_left;exact zUH _;intro v M w hR hS;replace H:=H.addR hS;clear hS;(try simp only[List.cons_append,List.nil_append] at H);obtain⟨a0,q0,rfl,hb⟩:=hR)|(refine' y32 ent8 ?_ ?_;rotate_left;exact zSF _ (H.all hF) (hb.mono fun x hx=>by simp[hx]) (zKH [cmF 11 [1,1,2,11,3],cmF 11 [1,1,2,10,2],cmF 15 [1,1,4,20,30],cmF 13 [1,1,4,20,5,40]] (zz2 _) ⟨zAl [1,1,2,11,3] (by decide) qC,zAl [1,1,2,10,2] (by decide) qC,zAl [1,1,4,20,30] (by decide) qC,zAl [1,1,4,20,5,40] (by decide) qC,trivial⟩) (by decide) (by decide);intro v M1 w hR hS;replace H:=H.addR hS;clear hS;(try simp only[List.cons_append,List.nil_append] at H);obtain⟨a1,c1,rfl,hl⟩:=hR)|refine yV ?_|fail)
 refine CW.named (fun en1 w=>∃ q1 G en',en1=ovl [(1,.slice a1 dnL.length c1)] en'∧Cl w0 w∧Mem w G∧F⊆G∧CmsM G a1 c1 dnL q1) ⟨_,_,_,zAE rfl rfl,H.cl,H.all hF,zz8 _ _,hl.mono sub_rot⟩ ?_
 clear H hF hwk hl
 rintro _ w ⟨q1,F,_,rfl,hcl,hF,hs,hl⟩
 replace hP:=hP.mono hs
 replace hK:=hK.mono hs
 replace hC:=hC.mono hs
 clear hs
 have H:=zA w
 refine zO0 ?_
 repeat' (first|refine yT ?_|((with_reducible apply OX.buildA sg H);(iterate 12 exact rfl);intro b w H _)|(refine z14 sg H ?_;intro b w H)|(refine' y30 ent10 ?_ ?_;rotate_left;exact zIF _;refine w2 H ?_;clear H;intro w H)|(refine' y30 ent11 ?_ ?_;rotate_left;exact zSC _;refine w2 H ?_;clear H;intro w H)|(refine' y30 ent12 ?_ ?_;rotate_left;exact zSD _;refine w2 H ?_;clear H;intro w H)|refine yV ?_|with_reducible apply zB|fail)
 refine CW.named (fun en1 w=>∃ bt G en',en1=ovl [(1,.slice a1 dnL.length c1),(117,.slice (some ⟨bt,0,none⟩) 16 16),(118,.int .i64 16),(119,.int .i64 ((0:Nat):Int))] en'∧Cl w0 w∧Mem w G∧F⊆G∧∃ q:Nat→CPt × EPt,SlA G 7 (some ⟨bt,0,none⟩) 16 16 (fun j=>dbC (dnB.getD j dbZ) (q j))∧∀ j,j<16→dbP G (dnB.getD j dbZ) (q j)) ⟨_,_,_,zAE rfl (zA0 rfl rfl rfl),hcl.trans H.cl,H.all hF,zz8 _ _,by
  refine tb_blk dbC dbZ dbQ 7 dnB dbX (P:=dbP _) (zz6 _ (zz2 _)) ?_ rfl rfl (fun _ _=>rfl) (by decide)
  repeat' (first|exact True.intro|exact zIG|exact zAl _ (by decide) qC|exact zCi _ _ (by decide) qC|exact dn_evN _ _ _ (by decide) qC qC|refine And.intro ?_ ?_)⟩ ?_
 clear H hF
 rintro _ w ⟨bt,F,_,rfl,hcl,hF,hs,q,ht,hp⟩
 replace hP:=hP.mono hs
 replace hK:=hK.mono hs
 replace hC:=hC.mono hs
 replace hl:=hl.mono hs
 clear hs
 obtain⟨_,_,b2,off2,cs2,T2,fr2,ht⟩:=ht
 have H:=zA w
 refine zI [(0,0),(3,3),(119,131)] (fun k:Nat=>[(119,.int .i64 (k:Int))]) (fun k w'=>k≤16∧St w [] w') (fun k=>16 - k) 0 ⟨rfl,trivial⟩ ⟨zzD _,H⟩ ?_
 clear H
 rintro k gh w' ⟨hk,H⟩
 by_cases hkl:k<16
 ·have d2:decide ((k:Int)<16)=true:=decide_eq_true qO
  obtain⟨hT,hr⟩:=dn_B (dn_in dbZ (show k<dnB.length from hkl))
  have cB:=fun w (G:zC) (hG:Mem w (G++F)) (b:Nat) (T:TypeId) (hm:cb b ((dnB.getD k dbZ).2.cells (q k).2) T∈G)=>zGu dnL q1 dn_LT (dnB.getD k dbZ).1 hT [(dnB.getD k dbZ).2] _ hr w hG (hP.mono (zz8 _ _)) (hK.mono (zz8 _ _)) (hC.mono (zz8 _ _)) (hl.mono (zz8 _ _)) (SlA.mono (hp k hkl).1 (zz8 _ _)) (zKZ [(dnB.getD k dbZ).2] (zz6 _ hm) ⟨(hp k hkl).2.mono (zz8 _ _),trivial⟩ rfl rfl (show 1≤1000 by decide))
  repeat' (first|refine yT ?_|refine y7 sg H ?_|(refine y10 sg H ?_;intro b w H)|(refine y11 sg H ?_;intro w H)|refine x40 sg ht ?_|refine x42 sg ht (H.memF hF) ?_|((with_reducible apply OX.buildA sg H);(iterate 12 exact rfl);intro b w H _)|(refine' y30 zQW ?_ ?_;rotate_left;exact cB _ _ (H.all hF) _ _ (zz2 _);refine w2 H ?_;clear H;intro w H)|refine yU ?_|with_reducible apply zB|(refine y23 ?_ ?_;all_goals(intro h;try (exfalso;first|((cases d2.symm.trans h);done)|((exact absurd h (by decide));done))))|fail)
  exact zF (k+1) rfl ⟨zf qO,trivial⟩ ⟨hkl,H.sub (zz9 _)⟩ qO
 obtain rfl:k=16:=by omega
 clear hp ht
 repeat' (first|refine yV ?_|fail)
 refine zO0 ?_
 repeat' (first|refine yT ?_|refine yV ?_|fail)
 refine zO0 ?_
 repeat' (first|refine yT ?_|((with_reducible apply OX.buildA sg H);(iterate 12 exact rfl);intro b w H _)|(refine z14 sg H ?_;intro b w H)|(refine' y30 ent10 ?_ ?_;rotate_left;exact zIF _;refine w2 H ?_;clear H;intro w H)|(refine' y30 ent11 ?_ ?_;rotate_left;exact zSC _;refine w2 H ?_;clear H;intro w H)|refine yV ?_|with_reducible apply zB|fail)
 refine CW.named (fun en1 w=>∃ bt G en',en1=ovl [(1,.slice a1 dnL.length c1),(206,.slice (some ⟨bt,0,none⟩) 26 26),(207,.int .i64 26),(208,.int .i64 ((0:Nat):Int))] en'∧Cl w0 w∧Mem w G∧F⊆G∧∃ q:Nat→CPt,SlA G 4 (some ⟨bt,0,none⟩) 26 26 (fun j=>drC (dnR.getD j drZ) (q j))∧∀ j,j<26→drP G (dnR.getD j drZ) (q j)) ⟨_,_,_,zAE rfl (zA0 rfl rfl rfl),hcl.trans H.cl,H.all hF,zz8 _ _,by
  refine tb_blk drC drZ (none,0) 4 dnR drX (P:=drP _) (zz6 _ (zz2 _)) ?_ rfl rfl (fun _ _=>rfl) (by decide)
  repeat' (first|exact True.intro|exact zIG|exact zAl _ (by decide) qC|refine And.intro ?_ ?_)⟩ ?_
 clear H hF
 rintro _ w ⟨bt,F,_,rfl,hcl,hF,hs,q,ht,hp⟩
 replace hP:=hP.mono hs
 replace hK:=hK.mono hs
 replace hC:=hC.mono hs
 replace hl:=hl.mono hs
 clear hs
 obtain⟨_,_,b2,off2,cs2,T2,fr2,ht⟩:=ht
 have H:=zA w
 refine zI [(0,0),(5,5),(208,219)] (fun k:Nat=>[(208,.int .i64 (k:Int))]) (fun k w'=>k≤26∧St w [] w') (fun k=>26 - k) 0 ⟨rfl,trivial⟩ ⟨zzD _,H⟩ ?_
 clear H
 rintro k gh w' ⟨hk,H⟩
 by_cases hkl:k<26
 ·have d2:decide ((k:Int)<26)=true:=decide_eq_true qO
  obtain⟨hT,hr⟩:=dn_R (dn_in drZ (show k<dnR.length from hkl))
  have cR:=fun w (G:zC) (hG:Mem w (G++F))=>c_refused dnL q1 dn_LT (dnR.getD k drZ).1 hT (dnR.getD k drZ).2 hr w hG (hP.mono (zz8 _ _)) (hK.mono (zz8 _ _)) (hC.mono (zz8 _ _)) (hl.mono (zz8 _ _)) (SlA.mono (hp k hkl) (zz8 _ _))
  repeat' (first|refine yT ?_|refine y7 sg H ?_|(refine y10 sg H ?_;intro b w H)|(refine y11 sg H ?_;intro w H)|refine x40 sg ht ?_|refine x42 sg ht (H.memF hF) ?_|(refine' y30 ent14 ?_ ?_;rotate_left;exact cR _ _ (H.all hF);refine w2 H ?_;clear H;intro w H)|refine yU ?_|with_reducible apply zB|(refine y23 ?_ ?_;all_goals(intro h;try (exfalso;first|((cases d2.symm.trans h);done)|((exact absurd h (by decide));done))))|fail)
  exact zF (k+1) rfl ⟨zf qO,trivial⟩ ⟨hkl,H.sub (zz9 _)⟩ qO
 obtain rfl:k=26:=by omega
 clear hp ht
 repeat' (first|refine yV ?_|fail)
 refine zO0 ?_
 repeat' (first|refine yT ?_|refine yV ?_|fail)
 refine zO0 ?_
 repeat' (first|refine yT ?_|(refine' y32 ent9 ?_ ?_;rotate_left;exact zUH _;intro v M w hR hS;replace H:=H.addR hS;clear hS;(try simp only[List.cons_append,List.nil_append] at H);obtain⟨a6,q6,rfl,hb⟩:=hR)|refine yV ?_|fail)
 refine zO0 ?_
 repeat' (first|refine yT ?_|refine yV ?_|with_reducible apply zB|fail)
 refine CW.named (fun en1 w=>∃ G en',en1=ovl [(1,.slice a1 dnL.length c1),(6,.slice a6 (dnM 0).length 10),(7,.int .i64 ((0:Nat):Int))] en'∧Cl w0 w∧Mem w G∧F⊆G∧CmsM G a6 10 (dnM 0) q6) ⟨_,_,zA0 rfl rfl rfl,hcl.trans H.cl,H.all hF,zz8 _ _,hb.mono qS⟩ ?_
 clear H hF hb
 rintro _ w ⟨F,_,rfl,hcl,hF,hs,hb⟩
 replace hP:=hP.mono hs
 replace hK:=hK.mono hs
 replace hC:=hC.mono hs
 replace hl:=hl.mono hs
 clear hs
 have H:=zA w
 refine zI [(6,7),(221,229)] (fun x:DI=>[(6,.slice x.a (dnM x.k).length x.cap),(7,.int .i64 (x.k:Int))]) (fun x w'=>x.k≤31∧St w x.N w'∧CmsM (x.N++F) x.a x.cap (dnM x.k) x.q) (fun x=>31 - x.k) ⟨0,a6,10,q6,[]⟩ ⟨rfl,rfl,trivial⟩ ⟨zzD _,H,hb⟩ ?_
 clear H hb
 rintro⟨k,a6,c6,q6,N⟩ gh w' ⟨hk,H,hb⟩
 simp only at hk hb H
 by_cases hkl:k<31
 ·have d2:decide ((k:Int)<31)=true:=decide_eq_true qO
  have cW:=fun w (G:zC) (hG:Mem w (G++F)) (hs:N⊆G) {a2 cap2 r} (hm:CmsM (G++F) a2 cap2 [dnOne] r)=>zSF (l:=dnM k) (m:=[dnOne]) w hG (hb.mono fun x hx=>(List.mem_append.1 hx).elim (fun h=>zz6 _ (hs h)) (zz3 _)) hm (by rw[dn_len];omega) (by decide)
  rw[dn_suc] at cW
  repeat' (first|refine yT ?_|((with_reducible apply OX.buildA sg H);(iterate 12 exact rfl);intro b w H _)|(refine z14 sg H ?_;intro b w H)|(refine' y30 ent10 ?_ ?_;rotate_left;exact zIF _;refine w2 H ?_;clear H;intro w H)|(refine' y32 ent8 ?_ ?_;rotate_left;exact cW _ _ (H.all hF) qS (zKH [dnOne] (zz2 _) ⟨zAl [1,1,2,5,1] (by decide) qC,trivial⟩);intro v M w hR hS;replace H:=H.addR hS;clear hS;(try simp only[List.cons_append,List.nil_append] at H);obtain⟨a7,c7,rfl,hb2⟩:=hR)|refine yU ?_|with_reducible apply zB|(refine y23 ?_ ?_;all_goals(intro h;try (exfalso;first|((cases d2.symm.trans h);done)|((exact absurd h (by decide));done))))|fail)
  exact zF ⟨k+1,a7,c7,_,_⟩ rfl ⟨rfl,zf (show k<_ by omega),trivial⟩ ⟨hkl,H,hb2.mono sub_rot⟩ (by simp only;omega)
 obtain rfl:k=31:=by omega
 have hrun:=fun w (hG:Mem w (N++F))=>c_run (dnM 31) q6 (dn_MT 31) w hG (hP.mono (zz8 _ _)) (hK.mono (zz8 _ _)) (hC.mono (zz8 _ _)) hb
 rw[dn_runs 31 (by decide)] at hrun
 repeat' (first|refine yV ?_|fail)
 refine zO0 ?_
 repeat' (first|refine yT ?_|refine yV ?_|fail)
 refine zO0 ?_
 repeat' (first|refine yT ?_|(refine y10 sg H ?_;intro b w H)|(refine y11 sg H ?_;intro w H)|(refine' y32 ent15 ?_ ?_;rotate_left;exact hrun _ (H.all hF);intro v M w hR hS;replace H:=H.addR hS;clear hS;(try simp only[List.cons_append,List.nil_append] at H);obtain⟨p8,rfl,hs8,g8⟩:=hR)|refine yV ?_|fail)
 refine CW.named (fun en1 w=>∃ b8 G en',en1=ovl [(1,.slice a1 dnL.length c1),(6,.slice a6 (dnM 31).length c6),(8,.pointer (some ⟨b8,0,none⟩)),(9,.int .i64 0)] en'∧Cl w0 w∧Mem w G∧F⊆G∧cb b8 ((dnS 31).cells p8) 48∈G∧StaM G (dnS 31) p8∧CmsM G a6 c6 (dnM 31) q6) ⟨_,_,_,zAE rfl (zA0 rfl rfl rfl),hcl.trans H.cl,H.all hF,(zz8 _ _),zz6 _ qB,hs8.mono qS,hb.mono (by intro x hx;rcases List.mem_append.1 hx with h|h<;>simp[h])⟩ ?_
 clear H hF hrun hs8 hb
 rintro _ w ⟨b8,F,_,rfl,hcl,hF,hs,hb8,hs8,hb⟩
 replace hP:=hP.mono hs
 replace hK:=hK.mono hs
 replace hC:=hC.mono hs
 replace hl:=hl.mono hs
 clear hs
 obtain⟨es,he,hes,hT⟩:=dn_es
 have hcom:=fun w (G:zC) (hG:Mem w (G++F)) {na nc} (hN:Ints (G++F) na nc dnAll.nums)=>zFO (s:=dnS 31) (p:=p8) (c:=dnAll) (na:=na) (nc:=nc) (zFo g8) (zIZ _ _ (by decide)) w hG (hP.mono (zz8 _ _)) (hK.mono (zz8 _ _)) (hC.mono (zz8 _ _)) (hs8.mono (zz8 _ _)) hN
 rw[he] at hcom
 have H:=zA w
 repeat' (first|refine yT ?_|(refine z14 sg H ?_;intro b w H)|(refine CW.regionL mixed 9 (H.memF hF) [] ?_ ?_;exact rfl;refine w2 H ?_;clear H;intro w H;refine' l1 0 (H.memF hF) ?_ ?_;rotate_left;(exact(fun w2 hM2=>zH sg rfl rfl hM2 hb8 rfl rfl)))|((with_reducible apply RL.nil);decide +kernel)|(refine lT sg 4 (H.memF hF) ?_)|(refine lT sg 5 (H.memF hF) ?_)|(refine lT sg 6 (H.memF hF) ?_)|(refine lT sg 7 (H.memF hF) ?_)|(refine lT sg 8 (H.memF hF) ?_)|refine l2 1 ?_|refine l2 2 ?_|refine l2 3 ?_|(refine l5 (H.memF hF) ?_)|(refine' y30 ent10 ?_ ?_;rotate_left;exact zIF _;refine w2 H ?_;clear H;intro w H)|(refine' y32 zFu ?_ ?_;rotate_left;exact hcom _ _ (H.all hF) (zAl [2,1,1,6,40] (by decide) qC);intro v M w hR hS;replace H:=H.addR hS;clear hS;(try simp only[List.cons_append,List.nil_append] at H);obtain⟨ae,ce,qe,rfl,_⟩:=hR)|refine yV ?_|fail)
 refine CW.named (fun en1 w=>∃ ae ce en',en1=ovl [(1,.slice a1 dnL.length c1),(6,.slice a6 (dnM 31).length c6),(10,.slice ae es.length ce),(11,.int .i64 0)] en'∧Cl w0 w∧Mem w F) ⟨ae,ce,_,zAE rfl (zA0 rfl rfl rfl),hcl.trans H.cl,H.memF hF⟩ ?_
 clear H hF hcom hb8 hs8
 rintro _ w ⟨ae,ce,_,rfl,hcl,hF⟩
 have hrun:=fun w (G:zC) (hG:Mem w (G++F)) {a c q} (h:CmsM (G++F) a c (dnM 31++[dnAll]) q)=>c_run (dnM 31++[dnAll]) q dn_AT w hG (hP.mono (zz8 _ _)) (hK.mono (zz8 _ _)) (hC.mono (zz8 _ _)) h
 rw[hT] at hrun
 have H:=zA w
 refine zO0 ?_
 repeat' (first|refine yT ?_|(refine y10 sg H ?_;intro b w H)|(refine y11 sg H ?_;intro w H)|((with_reducible apply OX.buildA sg H);(iterate 12 exact rfl);intro b w H _)|(refine z14 sg H ?_;intro b w H)|(refine' y30 ent10 ?_ ?_;rotate_left;exact zIF _;refine w2 H ?_;clear H;intro w H)|(refine' y32 ent8 ?_ ?_;rotate_left;exact zSF (l:=dnM 31) (m:=[dnAll]) _ (H.all hF) (hb.mono (zz8 _ _)) (zKH [dnAll] (zz2 _) ⟨zAl [2,1,1,6,40] (by decide) qC,trivial⟩) (by decide) (by decide);intro v M w hR hS;replace H:=H.addR hS;clear hS;(try simp only[List.cons_append,List.nil_append] at H);obtain⟨a7,c7,rfl,hb2⟩:=hR)|(refine' y32 ent15 ?_ ?_;rotate_left;exact hrun _ _ (H.all hF) (hb2.mono sub_rot);intro v M2 w hR hS;replace H:=H.addR hS;clear hS;(try simp only[List.cons_append,List.nil_append] at H);obtain⟨p12,rfl,hs12,_⟩:=hR)|refine yV ?_|fail)
 refine CW.named (fun en1 w=>∃ b12 G en',en1=ovl [(1,.slice a1 dnL.length c1),(6,.slice a6 (dnM 31).length c6),(10,.slice ae es.length ce),(11,.int .i64 0),(12,.pointer (some ⟨b12,0,none⟩)),(13,.int .i64 0)] en'∧Cl w0 w∧Mem w G∧F⊆G∧cb b12 (dnT.cells p12) 48∈G∧StaM G dnT p12) ⟨_,_,_,zAE rfl (zAE rfl (zAE rfl (zA0 rfl rfl rfl))),hcl.trans H.cl,H.all hF,(zz8 _ _),zz6 _ qB,hs12.mono qS⟩ ?_
 clear H hF hrun hs12
 rintro _ w ⟨b12,F,_,rfl,hcl,hF,hs,hb12,hs12⟩
 replace hP:=hP.mono hs
 replace hK:=hK.mono hs
 replace hC:=hC.mono hs
 replace hl:=hl.mono hs
 replace hb:=hb.mono hs
 clear hs
 obtain⟨_,_,bo,oo,co,To,fo,hod⟩:=hs12.od
 have h0:0<dnT.orders.length:=by decide
 have d10:((es.length:Int) != 32)=false:=by rw[hes];rfl
 have cR:=fun w (G:zC) (hG:Mem w (G++F)) {a c q na nc} (h:CmsM (G++F) a c (dnM 31++[dnOne]) q) (hN:Ints (G++F) na nc dnAll.nums)=>c_refused (dnM 31++[dnOne]) q (dn_MT 32) dnAll (zIZ _ _ (by decide)) 40 (r:=true) (by rw[show zDs zBJ 0 (dnM 31++[dnOne])=(dnS 32,0) from(congrArg _ (dn_suc 31)).trans (dn_runs 32 (by decide))];exact dn_u) w hG (hP.mono (zz8 _ _)) (hK.mono (zz8 _ _)) (hC.mono (zz8 _ _)) h hN
 have cV:=fun w (G:zC) (hG:Mem w (G++F)) {na nc a2 c2 q2} (hN:Ints (G++F) na nc [40]) (hE:EvsM (G++F) a2 c2 [evF 20 [40],evF 19 [1],evF 19 [2]] q2)=>zGu dnL q1 dn_LT (cmF 17 [40]) (zIZ _ _ (by decide)) [evF 20 [40],evF 19 [1],evF 19 [2]] q2 dn_v w hG (hP.mono (zz8 _ _)) (hK.mono (zz8 _ _)) (hC.mono (zz8 _ _)) (hl.mono (zz8 _ _)) hN hE
 have H:=zA w
 refine zO0 ?_
 repeat' (first|refine yT ?_|refine z13 (zH sg rfl rfl (H.memF hF) hb12 rfl rfl) ?_|refine x40 sg hod ?_|refine x44 sg hod (H.memF hF) ?_|((with_reducible apply OX.buildA sg H);(iterate 12 exact rfl);intro b w H _)|(refine z14 sg H ?_;intro b w H)|(refine' y30 ent10 ?_ ?_;rotate_left;exact zIF _;refine w2 H ?_;clear H;intro w H)|(refine' y30 ent12 ?_ ?_;rotate_left;exact zSD _;refine w2 H ?_;clear H;intro w H)|(refine' y32 ent8 ?_ ?_;rotate_left;exact zSF (l:=dnM 31) (m:=[dnOne]) _ (H.all hF) (hb.mono (zz8 _ _)) (zKH [dnOne] (zz2 _) ⟨zAl [1,1,2,5,1] (by decide) qC,trivial⟩) (by decide) (by decide);intro v M w hR hS;replace H:=H.addR hS;clear hS;(try simp only[List.cons_append,List.nil_append] at H);obtain⟨a7,c7,rfl,hb2⟩:=hR)|(refine' y30 ent14 ?_ ?_;rotate_left;exact cR _ _ (H.all hF) (hb2.mono (subX qS (by simp))) (zAl [2,1,1,6,40] (by decide) qC);refine w2 H ?_;clear H;intro w H)|(refine' y30 zQW ?_ ?_;rotate_left;exact cV _ _ (H.all hF) (zAl [40] (by decide) qC) (zKZ [evF 20 [40],evF 19 [1],evF 19 [2]] (zz2 _) ⟨zCi 20 [40] (by decide) qC,zCi 19 [1] (by decide) qC,zCi 19 [2] (by decide) qC,trivial⟩);refine w2 H ?_;clear H;intro w H)|refine yV ?_|(refine y17 ?_ ?_;all_goals(intro h;try (exfalso;first|((exact absurd h (by decide));done)|((cases d10.symm.trans h);done))))|fail)
 refine zO0 ?_
 repeat' (first|refine yT ?_|(refine y10 sg H ?_;intro b w H)|(refine y11 sg H ?_;intro w H)|(refine' y30 ent17 ?_ ?_;rotate_left;exact zRf _;refine w2 H ?_;clear H;intro w H)|refine yV ?_|fail)
 refine zO0 ?_
 repeat' (first|refine yT ?_|(refine y11 sg H ?_;intro w H)|refine yV ?_|fail)
 refine CW.named (fun en1 w=>∃ b14 G en',en1=ovl [(14,.pointer (some ⟨b14,0,none⟩))] en'∧Cl w0 w∧Mem w G∧F⊆G∧cb b14 (dnOdd.cells SPt.n0) 48∈G) ⟨_,_,_,zAE rfl rfl,hcl.trans H.cl,H.all hF,(zz8 _ _),zz2 _⟩ ?_
 clear H hF hl hb cR cV hod hb12 hs12
 rintro _ w ⟨b14,F,_,rfl,hcl,hF,hs,hb14⟩
 replace hP:=hP.mono hs
 replace hK:=hK.mono hs
 replace hC:=hC.mono hs
 clear hs
 obtain⟨es4,h4⟩:∃ l,zBC dnOdd (cmF 10 [5])=(l,4):=⟨_,Prod.ext rfl dn_odd⟩
 have hcom:=fun w (G:zC) (hG:Mem w (G++F)) {na nc} (hN:Ints (G++F) na nc [5])=>zFO (s:=dnOdd) (p:=SPt.n0) (c:=cmF 10 [5]) (na:=na) (nc:=nc) dn_zW (zIZ _ _ (by decide)) w hG (hP.mono (zz8 _ _)) (hK.mono (zz8 _ _)) (hC.mono (zz8 _ _)) dn_zM hN
 rw[h4] at hcom
 have H:=zA w
 repeat' (first|refine yT ?_|(refine z14 sg H ?_;intro b w H)|(refine CW.regionL mixed 9 (H.memF hF) [] ?_ ?_;exact rfl;refine w2 H ?_;clear H;intro w H;refine' l1 0 (H.memF hF) ?_ ?_;rotate_left;(exact(fun w2 hM2=>zH sg rfl rfl hM2 hb14 rfl rfl)))|((with_reducible apply RL.nil);decide +kernel)|(refine lT sg 4 (H.memF hF) ?_)|(refine lT sg 5 (H.memF hF) ?_)|(refine lT sg 6 (H.memF hF) ?_)|(refine lT sg 7 (H.memF hF) ?_)|(refine lT sg 8 (H.memF hF) ?_)|refine l2 1 ?_|refine l2 2 ?_|refine l2 3 ?_|(refine l5 (H.memF hF) ?_)|(refine' y30 ent10 ?_ ?_;rotate_left;exact zIF _;refine w2 H ?_;clear H;intro w H)|(refine' y32 zFu ?_ ?_;rotate_left;exact hcom _ _ (H.all hF) (zAl [5] (by decide) qC);intro v M w hR hS;replace H:=H.addR hS;clear hS;(try simp only[List.cons_append,List.nil_append] at H);obtain⟨ae,ce,qe,rfl,_⟩:=hR)|refine yV ?_|fail)
 refine zO0 ?_
 repeat' (first|refine yT ?_|(refine y10 sg H ?_;intro b w H)|(refine y11 sg H ?_;intro w H)|(refine' y30 ent17 ?_ ?_;rotate_left;exact zRf _;refine w2 H ?_;clear H;intro w H)|refine yV ?_|fail)
 refine zO0 ?_
 repeat' (first|refine yT ?_|(refine y11 sg H ?_;intro w H)|refine yV ?_|fail)
 refine CW.named (fun en1 w=>∃ b17 G en',en1=ovl [(16,.int .i64 4),(17,.pointer (some ⟨b17,0,none⟩))] en'∧Cl w0 w∧Mem w G∧F⊆G∧cb b17 (dnLast.cells SPt.n0) 48∈G) ⟨_,_,_,zSB rfl rfl,hcl.trans H.cl,H.all hF,(zz8 _ _),zz2 _⟩ ?_
 clear H hF hcom hb14
 rintro _ w ⟨b17,F,_,rfl,hcl,hF,hs,hb17⟩
 replace hP:=hP.mono hs
 replace hK:=hK.mono hs
 replace hC:=hC.mono hs
 clear hs
 obtain⟨es5,h5⟩:∃ l,zBC dnLast (cmF 11 [1,1,1,1,1])=(l,40):=⟨_,Prod.ext rfl dn_last.1⟩
 obtain⟨es6,h6⟩:∃ l,zBC dnLast (cmF 15 [1,1,1,1,1])=(l,40):=⟨_,Prod.ext rfl dn_last.2⟩
 have hc5:=fun w (G:zC) (hG:Mem w (G++F)) {na nc} (hN:Ints (G++F) na nc [1,1,1,1,1])=>zFO (s:=dnLast) (p:=SPt.n0) (c:=cmF 11 [1,1,1,1,1]) (na:=na) (nc:=nc) dn_zW (zIZ _ _ (by decide)) w hG (hP.mono (zz8 _ _)) (hK.mono (zz8 _ _)) (hC.mono (zz8 _ _)) dn_zM hN
 have hc6:=fun w (G:zC) (hG:Mem w (G++F)) {na nc} (hN:Ints (G++F) na nc [1,1,1,1,1])=>zFO (s:=dnLast) (p:=SPt.n0) (c:=cmF 15 [1,1,1,1,1]) (na:=na) (nc:=nc) dn_zW (zIZ _ _ (by decide)) w hG (hP.mono (zz8 _ _)) (hK.mono (zz8 _ _)) (hC.mono (zz8 _ _)) dn_zM hN
 rw[h5] at hc5
 rw[h6] at hc6
 have H:=zA w
 repeat' (first|refine yT ?_|(refine z14 sg H ?_;intro b w H)|(refine CW.regionL mixed 9 (H.memF hF) [] ?_ ?_;exact rfl;refine w2 H ?_;clear H;intro w H;refine' l1 0 (H.memF hF) ?_ ?_;rotate_left;(exact(fun w2 hM2=>zH sg rfl rfl hM2 hb17 rfl rfl)))|((with_reducible apply RL.nil);decide +kernel)|(refine lT sg 4 (H.memF hF) ?_)|(refine lT sg 5 (H.memF hF) ?_)|(refine lT sg 6 (H.memF hF) ?_)|(refine lT sg 7 (H.memF hF) ?_)|(refine lT sg 8 (H.memF hF) ?_)|refine l2 1 ?_|refine l2 2 ?_|refine l2 3 ?_|(refine l5 (H.memF hF) ?_)|(refine' y30 ent10 ?_ ?_;rotate_left;exact zIF _;refine w2 H ?_;clear H;intro w H)|(refine' y32 zFu ?_ ?_;rotate_left;exact hc5 _ _ (H.all hF) (zAl [1,1,1,1,1] (by decide) qC);intro v M w hR hS;replace H:=H.addR hS;clear hS;(try simp only[List.cons_append,List.nil_append] at H);obtain⟨ae,ce,qe,rfl,_⟩:=hR)|(refine' y32 zFu ?_ ?_;rotate_left;exact hc6 _ _ (H.all hF) (zAl [1,1,1,1,1] (by decide) qC);intro v M w hR hS;replace H:=H.addR hS;clear hS;(try simp only[List.cons_append,List.nil_append] at H);obtain⟨ae,ce,qe,rfl,_⟩:=hR)|refine yV ?_|fail)
 refine zO0 ?_
 repeat' (first|refine yT ?_|refine yU ?_|fail)
 exact zP rfl (hcl.trans H.cl) rfl
end
end Go.Proofs.YthbflajpdhgfiaaGreatDoor
