/- Texts of ours, joined: the steps of the proof, or the claim's theorem. -/
import Derived.Test.YtejhijhnlogikaaGreatDoorMc28
set_option linter.all false
set_option maxHeartbeats 16000000
namespace Go.Proofs.YtejhijhnlogikaaGreatDoor
section
open Go Go.Sk Go.RowKit Go.Proofs.Tryz
attribute [local irreducible] Go.Calls
def DoX (bo bc:Nat)(cc:List Value)(N:zB)(m:Mrk)(c:Cmd)(t:Sta)(q:SPt)(e:Int)(N':zB):Prop :=
 e=(zCO m.s c).2∧((e≠0∧N'=cb bo [.slice none 0 0] 30::cb bc cc 29::N) ∨
   (e=0∧t=(zCg m.s (zCO m.s c).1).1∧∃ a cap r Y,N'=cb bo [.slice a (zCO m.s c).1.length cap] 30::cb bc cc 29::(N++Y)∧EvsM Y a cap (zCO m.s c).1 r∧StaM Y t q))
theorem c_mDo1 {F N:zB}{m:Mrk}{p:SPt}{bm bo bc:Nat}{c:Cmd}{na:Option Addr}{nc:Nat}{w0:World}(hF:Mem w0 F)(hP:PriM F)(hK:KinM F)(hC:ComM F)(hg:Good m.s)(hs:StaM (N++F) m.s p)(hc:zIy c)(hN:Ints (N++F) na nc c.nums)(w:World)
  (H:St w0 (cb bm (mrk m p) 74::cb bo [.slice none 0 0] 30::cb bc (c.cells na nc) 29::N) w) :
  Calls prog 37 ([Value.agg (m.s.cells p).toArray]++[Value.pointer (some ⟨bc,0,none⟩),Value.pointer (some ⟨bo,0,none⟩)]).toArray w (zf (ActR bm m p (DoX bo bc (c.cells na nc) N m c)) w0):=by
 have hsub:∀ {G:zB},N⊆G→N++F⊆G++F:=fun h z hz=>(List.mem_append.1 hz).elim (fun g=>zz6 _ (h g)) (zz3 _)
 have hcom:=fun w (G:zB) (hG:Mem w (G++F)) (h:N⊆G)=>zQe (s:=m.s) (p:=p) (c:=c) (na:=na) (nc:=nc) (zFB hg) hc w hG (hP.mono (zz8 _ _)) (hK.mono (zz8 _ _)) (hC.mono (zz8 _ _)) (hs.mono (hsub h)) (SlA.mono hN (hsub h))
 unfold DoX
 obtain⟨es,k,hcmd⟩:∃ es k,zCO m.s c=(es,k):=⟨_,_,rfl⟩
 rw[hcmd] at hcom ⊢
 simp only
 refine eN func37 ntmps37 ?_
 by_cases hk:k=0
 rotate_left
 ·have d1:(k != 0)=true:=by simpa using hk
  repeat' (first|refine yW ?_|(refine yB ?_;intro b w H)|(refine y11 sg H ?_;intro w H)|(refine f0 ent38 ?_;refine⟨_,hcom _ _ (H.all hF) (by intro z hz;simp[hz]),?_⟩;clear H;intro v M w hR H;(try simp only[zca,zcb] at H);obtain⟨ae,ce,qe,rfl,hE⟩:=hR)|fail)
  exact zi (vs:=[_,_]) (M:=_::_::_::N) ⟨zm sg rfl H.mem (zz2 _) rfl rfl,zW rfl,trivial⟩ (H.sub (List.Sublist.cons _ (List.Sublist.cons _ (List.Sublist.cons_cons _ (List.Sublist.cons_cons _ (List.Sublist.cons_cons _ (List.sublist_append_left _ _))))))) ⟨zCp,SPt.n0,k,_,rfl,rfl,rfl,.inl ⟨hk,rfl⟩⟩
 subst hk
 obtain⟨_,gt,hev⟩:=zVc hcmd
 obtain⟨u,hu⟩:=zNy hcmd
 have hal:=hu.all
 have hall:=fun w (G:zB) (ae:Option Addr) (cape:Nat) (qe:Nat→EPt) (M:zB) (hE:EvsM M ae cape es qe) (hG:Mem w (G++F)) (h2:M⊆G) (h:N⊆G)=>zTT (s:=m.s) (p:=p) (zFB hg) es qe hev w hG (hP.mono (zz8 _ _)) (hK.mono (zz8 _ _)) (hs.mono (hsub h)) (hE.mono fun x hx=>zz6 _ (h2 hx))
 rw[hal] at hall gt ⊢
 simp only at gt ⊢
 repeat' (first|refine yW ?_|(refine yB ?_;intro b w H)|(refine y11 sg H ?_;intro w H)|(refine f0 ent38 ?_;refine⟨_,hcom _ _ (H.all hF) (by intro z hz;simp[hz]),?_⟩;clear H;intro v M2 w hR H;(try simp only[zca,zcb] at H);obtain⟨ae,ce,qe,rfl,hE⟩:=hR)|(refine f0 ent39 ?_;refine⟨_,hall _ _ _ _ _ _ hE (H.all hF) (by intro z hz;simp[hz]) (by intro z hz;simp[hz]),?_⟩;clear H;intro v M3 w hR H;(try simp only[zca,zcb] at H);obtain⟨p3,rfl,hs3⟩:=hR.sta (zCd gt))|fail)
 rw[List.append_assoc] at H
 exact zi (vs:=[_,_]) (M:=_::_::_::(N++(M2++M3))) ⟨zm sg rfl H.mem (zz2 _) rfl rfl,zW rfl,trivial⟩ (H.sub (List.Sublist.cons _ (List.Sublist.cons _ (List.Sublist.refl _)))) ⟨u,p3,0,_,rfl,rfl,rfl,.inr ⟨rfl,rfl,ae,ce,qe,M2++M3,rfl,hE.mono (List.subset_append_left _ _),hs3.mono (zz8 _ _)⟩⟩
def MDoR (F:zB)(bm:Nat)(N:zB)(r:Mrk × List Evt × Int)(M:zB)(v:Value):Prop:=∃ p a cap q Y,M=cb bm (mrk r.1 p) 74::(N++Y)∧v=.tuple #[.slice a r.2.1.length cap,.int .i64 r.2.2]∧EvsM Y a cap r.2.1 q∧StaM ((N++Y)++F) r.1.s p
theorem zTs {F:zB}{cap:Nat}{q:Nat→EPt}(h:cap=0:=by rfl):EvsM F none cap [] q:=by
 subst h
 exact⟨⟨zzD _,zzD _,0,0,[],0,(0,0),fun h=>absurd h (Nat.lt_irrefl 0)⟩,fun j hj=>absurd hj (zzE _)⟩
theorem zTt {F N:zB}{m:Mrk}{p:SPt}{bm:Nat}{c:Cmd}{na:Option Addr}{nc:Nat}{w0 w:World}(H:St w0 (cb bm (mrk m p) 74::N) w)(hF:Mem w0 F)(hP:PriM F)(hK:KinM F)(hC:ComM F)(hok:MkOk m)(hs:StaM (N++F) m.s p)(hc:zIy c)(hN:Ints (N++F) na nc c.nums) :
  Calls prog 12 [.pointer (some ⟨bm,0,none⟩),.agg (c.cells na nc).toArray].toArray w (zf (MDoR F bm N (mDo m c)) w0):=by
 have hs0:StaM ((N++[])++F) m.s p:=by rw[List.append_nil];exact hs
 unfold mDo
 by_cases hn:1048576≤m.n
 ·rw[if_pos hn]
  refine eN func12 ntmps12 ?_
  repeat' (first|refine yW ?_|(refine yB ?_;intro b w H)|(refine c0 zI6 ?_;refine⟨_,zIk hn _ (H.all hF) ⟨p,by simp,hs.mono (fun z hz=>(List.mem_append.1 hz).elim (fun g=>zz6 _ (by simp[g])) (zz3 _))⟩,?_⟩;clear H;intro w H)|fail)
  exact zBR (M:=_::(N++[])) rfl rfl (by rw[List.append_nil];exact H.sub (List.Sublist.cons _ (List.Sublist.cons _ (List.Sublist.refl _)))) ⟨p,none,0,fun _=>zFA,[],rfl,rfl,zTs,hs0⟩
 rw[if_neg hn]
 have hcc:=fun(bo bc:Nat) w (h1:St w0 (cb bm (mrk m p) 74::cb bo [.slice none 0 0] 30::cb bc (c.cells na nc) 29::N) w)=>zJc h1 ⟨hok.n.1,by omega⟩ ent37 (c_mDo1 hF hP hK hC hok.good hs hc hN)
 unfold ChgR DoX at hcc
 obtain⟨es,k,hcmd⟩:∃ es k,zCO m.s c=(es,k):=⟨_,_,rfl⟩
 rw[hcmd] at hcc ⊢
 simp only at hcc ⊢
 by_cases hk:k=0
 rotate_left
 ·have d1:(k != 0)=true:=by simpa using hk
  rw[if_pos hk]
  refine eN func12 ntmps12 ?_
  repeat' (first|refine yW ?_|(refine yB ?_;intro b w H)|(have hp:=H.perm (List.perm_middle (l₁:=[_,_]));simp only[zca,zcb] at hp;(refine' y33 zI6 ?_ ?_;rotate_left 2;exact hcc _ _ _ hp;rintro v M w ⟨t,q,e,N',rfl,⟨rfl,hX⟩,rfl⟩ H2;clear H hp;obtain⟨_,rfl⟩:=hX.resolve_right (fun h=>hk h.1);rw[if_neg hk] at H2;have H:=H2;clear H2))|fail)
  exact zBR (M:=_::(N++[])) rfl rfl (by rw[List.append_nil];exact H.sub (List.Sublist.cons_cons _ (List.Sublist.cons _ (List.Sublist.cons _ (List.Sublist.refl _))))) ⟨p,none,0,fun _=>zFA,[],rfl,rfl,zTs,hs0⟩
 subst hk
 rw[if_neg (fun h=>h rfl)]
 refine eN func12 ntmps12 ?_
 repeat' (first|refine yW ?_|(refine yB ?_;intro b w H)|(have hp:=H.perm (List.perm_middle (l₁:=[_,_]));simp only[zca,zcb] at hp;(refine' y33 zI6 ?_ ?_;rotate_left 2;exact hcc _ _ _ hp;rintro v M w ⟨t,q,e,N',rfl,⟨rfl,hX⟩,rfl⟩ H2;clear H hp;obtain⟨_,rfl,a1,c1,q1,Y,rfl,hE,hS⟩:=hX.resolve_left (fun h=>h.1 rfl);rw[if_pos rfl] at H2;have H:=H2;clear H2))|fail)
 exact zBR (M:=_::(N++Y)) rfl rfl (H.sub (List.Sublist.cons_cons _ (List.Sublist.cons _ (List.Sublist.cons _ (List.Sublist.refl _))))) ⟨q,a1,c1,q1,Y,rfl,rfl,hE,hS.mono (fun z hz=>zz6 _ (zz3 _ hz))⟩
end
section
open Go Go.Sk Go.RowKit Go.Proofs.Tryz
theorem zVd {v:Int}{c:Nat}{n:Int}(hv:v=1∨v=2)(h:zBg v c n=true):zBg (v+1) c ((zAy v c).2+(zAy v c).1*n)=true:=by
 unfold zBg zC6 zJL at h ⊢
 unfold zAy
 rcases hv with rfl|rfl
 all_goals
  by_cases h97:c=97
  ·subst h97;simp at h ⊢;omega
  by_cases h105:c=105
  ·subst h105;simp at h ⊢;omega
  by_cases h111:c=111
  ·subst h111;simp at h ⊢;omega
  by_cases h99:c=99
  ·subst h99;simp at h ⊢;omega
  by_cases h113:c=113
  ·subst h113;simp at h ⊢;omega
  by_cases h109:c=109
  ·subst h109;simp at h ⊢;omega
  by_cases h122:c=122
  ·subst h122;simp at h ⊢;omega
  by_cases h112:c=112
  ·subst h112;simp at h ⊢;omega
  by_cases h107:c=107
  ·subst h107;simp at h ⊢;omega
  by_cases h98:c=98
  ·subst h98;simp at h ⊢;omega
  by_cases h116:c=116
  ·subst h116;simp at h ⊢;omega
  by_cases h115:c=115
  ·subst h115;simp at h ⊢;omega
  simp[h97,h105,h111,h99,h113,h109,h122,h112,h107,h98,h116,h115] at h
theorem zDz (v:Int)(old:List Nat):∀ (l:List Nat) (k:Nat),(zAd v old l k).length=l.length
 | [],_=>rfl
 | c::l,k=>by
   unfold zAd
   split<;>rw[List.length_cons,List.length_cons,zDz v old l]
theorem zGW (v:Int)(old:List Nat):∀ (l:List Nat) (k i:Nat),k≤old.length→i<l.length→(zAd v old l k).getD i default=zDg (l.getD i 0)∨∃ j,j<old.length∧old.getD j 0=l.getD i 0∧(zAd v old l k).getD i default=⟨(j:Int),(zAy v (l.getD i 0)).1,(zAy v (l.getD i 0)).2⟩
 | [],_,_,_,hi=>absurd hi (zzE _)
 | c::l,k,0,hk,_=>by
   unfold zAd
   split
   ·exact .inl rfl
   ·rename_i h
    have h1:k≠old.length:=fun e=>h (.inl e)
    have h2:old.getD k 0=c:=Decidable.of_not_not fun e=>h (.inr e)
    exact .inr ⟨k,by omega,h2,rfl⟩
 | c::l,k,i+1,hk,hi=>by
   unfold zAd
   have hi:i<l.length:=by simpa using hi
   split
   ·exact zGW v old l k i hk hi
   ·rename_i h
    have h1:k≠old.length:=fun e=>h (.inl e)
    exact zGW v old l (k+1) i qO hi
def freB:Bool:=[(1:Int),2].all fun v=>(List.range 24).all fun(k:Nat)=>match zAj v k with
 | none=>true
 | some (old,tx)=>decide (32 ∉ (zBT (v+1) k).1)&&(zBT (v+1) k).2==tx&&(List.range (zBT (v+1) k).1.length).all fun i=>decide (0≤((zAd v old (zBT (v+1) k).1 0).getD i default).frm)||zBg (v+1) ((zBT (v+1) k).1.getD i 0) ((zAd v old (zBT (v+1) k).1 0).getD i default).plus
theorem fre_b:freB=true:=by decide +kernel
theorem fre_f {v k:Int}{old:List Nat}{tx:Bool}(hv:v=1∨v=2)(h:zAj v k=some (old,tx)):32 ∉ (zBT (v+1) k).1∧(zBT (v+1) k).2=tx∧∀ i,i<(zBT (v+1) k).1.length→0≤((zAd v old (zBT (v+1) k).1 0).getD i default).frm∨zBg (v+1) ((zBT (v+1) k).1.getD i 0) ((zAd v old (zBT (v+1) k).1 0).getD i default).plus=true:=by
 have hk:1≤k∧k≤23:=by
  by_cases g:1≤k∧k≤23
  ·exact g
  ·unfold zAj zBT at h
   rw[if_neg g] at h
   simp at h
 have hb:=fre_b
 unfold freB at hb
 have h1:=List.all_eq_true.1 hb v (by rcases hv with rfl|rfl<;>simp)
 have h2:=List.all_eq_true.1 h1 k.toNat (List.mem_range.2 qO)
 rw[show((k.toNat:Nat):Int)=k by omega] at h2
 simp only[h,Bool.and_eq_true,decide_eq_true_eq,beq_iff_eq,List.all_eq_true,List.mem_range,Bool.or_eq_true] at h2
 exact⟨h2.1.1,h2.1.2,h2.2⟩
theorem zIo {e:Evt}(h:zAm e=true)(hv:e.v=1∨e.v=2):(upF e).2=0∧(upF e).1.v=e.v+1∧zAm (upF e).1=true:=by
 unfold upF
 rw[if_neg (by rw[h];decide)]
 unfold zAm at h
 cases hf:zAj e.v e.kind with
 | none=>rw[hf] at h;cases h
 | some z =>
   obtain⟨old,tx⟩:=z
   rw[hf] at h
   simp only[Bool.and_eq_true] at h
   obtain⟨h1,h2⟩:=h
   obtain⟨t1,t2,t3⟩:=fre_f hv hf
   have hr:zCM e.v e.kind=some (zAd e.v old (zBT (e.v+1) e.kind).1 0):=by
    unfold zCM
    rw[hf]
    simp only
    rw[if_neg qO]
   rw[hr]
   refine⟨rfl,rfl,?_⟩
   have hf2:zAj (e.v+1) e.kind=some ((zBT (e.v+1) e.kind).1,tx):=by
    unfold zAj
    rw[if_pos ⟨by omega,by omega,t1⟩,← t2]
   unfold zAm
   simp only[hf2,Bool.and_eq_true]
   refine⟨?_,h2⟩
   unfold zBL at h1 ⊢
   simp only[Bool.and_eq_true,beq_iff_eq,List.all_eq_true,List.mem_range] at h1 ⊢
   refine⟨by rw[List.length_map,zDz],fun i hi=>?_⟩
   have e1:((zAd e.v old (zBT (e.v+1) e.kind).1 0).map (upN e.nums)).getD i 0=upN e.nums ((zAd e.v old (zBT (e.v+1) e.kind).1 0).getD i default):=by
    rw[List.getD_eq_getElem?_getD,List.getD_eq_getElem?_getD,List.getElem?_map,List.getElem?_eq_getElem (by rw[zDz];exact hi)]
    rfl
   rw[e1]
   rcases zGW e.v old (zBT (e.v+1) e.kind).1 0 i (zzD _) hi with g|⟨j,g1,g2,g3⟩
   ·rcases t3 i hi with g4|g4
    ·rw[g] at g4;exact absurd g4 (by unfold zDg;simp)
    ·have:upN e.nums ((zAd e.v old (zBT (e.v+1) e.kind).1 0).getD i default)=((zAd e.v old (zBT (e.v+1) e.kind).1 0).getD i default).plus:=by
      rw[g];unfold upN zDg;rfl
     rw[this];exact g4
   ·rw[g3]
    have:upN e.nums ⟨(j:Int),(zAy e.v ((zBT (e.v+1) e.kind).1.getD i 0)).1,(zAy e.v ((zBT (e.v+1) e.kind).1.getD i 0)).2⟩=(zAy e.v ((zBT (e.v+1) e.kind).1.getD i 0)).2+(zAy e.v ((zBT (e.v+1) e.kind).1.getD i 0)).1*e.nums.getD j 0:=by
     unfold upN
     simp only
     rw[if_pos qO,Int.toNat_natCast]
    rw[this,← g2]
    exact zVd hv (h1.2 j g1)
end
section
open Go Go.Sk Go.RowKit Go.Proofs.Tryz
attribute [local irreducible] Go.Calls
def Rul.cells (r:Rul):List Value:=[.int .i64 r.frm,.int .i64 r.times,.int .i64 r.plus]
theorem rule_a {v:Int}{c:Nat}(h:v=1)(hc:(c:Int)=112∨(c:Int)=107∨(c:Int)=109∨(c:Int)=98):zAy v c=(100,0):=by unfold zAy;rw[if_pos ⟨h,by omega⟩]
theorem rule_b {v:Int}{c:Nat}(h:v=2)(hc:(c:Int)=116):zAy v c=(10,0):=by unfold zAy;rw[if_neg qO,if_pos ⟨h,by omega⟩]
theorem rule_c {v:Int}{c:Nat}(h:v=2)(hc:(c:Int)=115):zAy v c=(1,1):=by unfold zAy;rw[if_neg qO,if_neg qO,if_pos ⟨h,by omega⟩]
theorem rule_d {v:Int}{c:Nat}(h1:¬ (v=1∧((c:Int)=112∨(c:Int)=107∨(c:Int)=109∨(c:Int)=98)))(h2:¬ (v=2∧(c:Int)=116))(h3:¬ (v=2∧(c:Int)=115)):zAy v c=(1,0):=by unfold zAy;rw[if_neg qO,if_neg qO,if_neg qO]
theorem zVe (v:Int)(c:Nat)(w0:World):Calls prog 142 [.int .u8 v,.int .u8 (c:Int)].toArray w0 (Ret (.agg (Rul.cells ⟨0,(zAy v c).1,(zAy v c).2⟩).toArray) w0):=by
 refine eN func142 ntmps142 ?_
 have H:=zA w0
 repeat' (first|refine yW ?_|(refine yB ?_;intro b w H)|(refine y11 sg H ?_;intro w H)|(refine y17 ?_ ?_;all_goals intro h)|with_reducible apply zC|(refine y23 ?_ ?_;all_goals intro h)|fail)
 all_goals
  refine zA7 (vs:=[_]) ⟨zm sg rfl H.mem qB rfl rfl,trivial⟩ H.cl ?_
  simp only[beq_iff_eq,beq_eq_false_iff_ne,ne_eq] at *
  first
   | rw[rule_a (by assumption) qO];rfl
   | rw[rule_b qO qO];rfl
   | rw[rule_c qO qO];rfl
   | rw[rule_d qO qO qO];rfl
theorem zMS (c:Nat)(w0:World):Calls prog 141 [.int .u8 (c:Int)].toArray w0 (Ret (.agg (zDg c).cells.toArray) w0):=by
 unfold zDg
 by_cases hc:c=122
 ·have d1:((c:Int)==122)=true:=by rw[hc];rfl
  rw[if_pos hc]
  refine eN func141 ntmps141 ?_
  have H:=zA w0
  repeat' (first|refine yW ?_|(refine yB ?_;intro b w H)|(refine y11 sg H ?_;intro w H)|fail)
  exact zA7 (vs:=[_]) ⟨zm sg rfl H.mem qB rfl rfl,trivial⟩ H.cl rfl
 ·have d1:((c:Int)==122)=false:=beq_eq_false_iff_ne.2 qO
  rw[if_neg hc]
  refine eN func141 ntmps141 ?_
  have H:=zA w0
  repeat' (first|refine yW ?_|(refine yB ?_;intro b w H)|(refine y11 sg H ?_;intro w H)|fail)
  exact zA7 (vs:=[_]) ⟨zm sg rfl H.mem qB rfl rfl,trivial⟩ H.cl rfl
theorem ToldR.no {r:KRow}{v:Int}{M:zB}{z:Value}(h:ToldR r v M z)(hn:¬ (1≤v∧v≤3∧32 ∉ zAn r v)):z=.tuple #[.slice none 0 0,.bool false,.bool false]:=by
 unfold ToldR at h
 rw[if_neg hn] at h
 exact h.2
theorem ToldR.yes {r:KRow}{v:Int}{M:zB}{z:Value}(h:ToldR r v M z)(hc:1≤v∧v≤3∧32 ∉ zAn r v)(hl:(zAn r v).length≤100):∃ a cap,z=.tuple #[.slice a (zAn r v).length cap,.bool r.text,.bool true]∧SlA M 1 a (zAn r v).length cap fun j=>[Value.int .u8 ((zAn r v).getD j 0:Nat)]:=by
 rcases h.cases hl with ⟨_,h⟩|⟨hn,_⟩
 ·exact h
 ·exact absurd hc hn
def zNz (l:List Rul):List Value:=l.flatMap Rul.cells
def RulR (r:Option (List Rul))(M:zB)(z:Value):Prop :=
 match r with
 | none=>z=.tuple #[.slice none 0 0,.bool false]
 | some l=>l.length≤100∧∃ a cap,z=.tuple #[.slice a l.length cap,.bool true]∧Go.Sk.Own M 164 3 a l.length cap (zNz l)
structure RuI where
 k:Nat
 j:Nat
 a:Option Addr
 cap:Nat
 M:zB
 o:List Rul
theorem zG6 (o:List Rul)(r:Rul):zNz o++r.cells=zNz (o++[r]):=by unfold zNz;rw[List.flatMap_append,List.flatMap_singleton]
theorem zQk {l:List Nat}{k:Nat}(h:k<l.length):l.drop k=l.getD k 0::l.drop (k+1):=by
 rw[List.drop_eq_getElem_cons h,List.getD_eq_getElem?_getD,List.getElem?_eq_getElem h];rfl
theorem zTu {F:zB}(v kind:Int)(hk:0≤kind∧kind≤255)(w0:World)(hF:Mem w0 F)(hK:KinM F) :
  Calls prog 106 [.int .u8 v,.int .u8 kind].toArray w0 (zf (RulR (zCM v kind)) w0):=by
 have hfl:=fun v w (hG:Mem w F)=>zLV v kind hk w hG hK
 have hfe:=zDo v kind
 by_cases hc:1≤v∧v≤3∧32 ∉ zAn (zAq kind) v
 rotate_left
 ·rw[if_neg hc] at hfe
  have e0:zCM v kind=none:=by unfold zCM;rw[hfe]
  rw[e0]
  refine eN func106 ntmps106 ?_
  have H:=zA w0
  repeat' (first|refine yW ?_|(refine f0 zLF ?_;refine⟨_,hfl v _ (H.memF hF),?_⟩;clear H;intro z M w hR H;(try simp only[zca,zcb] at H);obtain rfl:=hR.no hc)|fail)
  exact zBR (M:=[]) rfl rfl (H.sub (zz9 _)) rfl
 rw[if_pos hc] at hfe
 by_cases h3:3≤v
 ·have d1:decide (v ≥ 3)=true:=decide_eq_true h3
  have e0:zCM v kind=none:=by unfold zCM;rw[hfe];simp only;rw[if_pos h3]
  rw[e0]
  refine eN func106 ntmps106 ?_
  have H:=zA w0
  repeat' (first|refine yW ?_|(refine f0 zLF ?_;refine⟨_,hfl v _ (H.memF hF),?_⟩;clear H;intro z M w hR H;(try simp only[zca,zcb] at H);obtain⟨a0,cx,rfl,hO0⟩:=hR.yes hc (zEN _ _))|fail)
  exact zBR (M:=[]) rfl rfl (H.sub (zz9 _)) rfl
 have d1:decide (v ≥ 3)=false:=decide_eq_false h3
 have hv12:v=1∨v=2:=by omega
 obtain⟨t1,t2,_⟩:=fre_f hv12 hfe
 have hfe2:zAj (v+1) kind=some (zBT (v+1) kind):=by
  unfold zAj;rw[if_pos ⟨by omega,by omega,t1⟩]
 rw[zDo] at hfe2
 have hc2:1≤v+1∧v+1≤3∧32 ∉ zAn (zAq kind) (v+1):=by
  by_cases g:1≤v+1∧v+1≤3∧32 ∉ zAn (zAq kind) (v+1)
  ·exact g
  ·rw[if_neg g] at hfe2;cases hfe2
 rw[if_pos hc2] at hfe2
 have hL:(zBT (v+1) kind).1=zAn (zAq kind) (v+1):=(congrArg (·.1) (Option.some.inj hfe2)).symm
 have e0:zCM v kind=some (zAd v (zAn (zAq kind) v) (zAn (zAq kind) (v+1)) 0):=by
  unfold zCM;rw[hfe];simp only;rw[if_neg h3,hL]
 rw[e0]
 have hl1:=zEN kind v
 have hl2:=zEN kind (v+1)
 have hlr:=zDz v (zAn (zAq kind) v) (zAn (zAq kind) (v+1)) 0
 have ew:IntKind.u8.wrap (v+1)=v+1:=by rcases hv12 with rfl|rfl<;>rfl
 clear hfe hfe2 hL t1 t2 e0
 refine eN func106 ntmps106 ?_
 have H:=zA w0
 repeat' (first|refine yX ?_|(refine f0 zLF ?_;refine⟨_,hfl v _ (H.memF hF),?_⟩;clear H;intro z M1 w hR H;(try simp only[zca,zcb] at H);obtain⟨a0,cx,rfl,hO0⟩:=hR.yes hc (zEN _ _))|fail)
 refine CW.condF (congrArg Value.bool d1) ?_
 repeat' (first|refine yX ?_|(refine f0 zLF ?_;refine⟨_,(by rw[ew];exact hfl (v+1) _ (H.memF hF)),?_⟩;clear H;intro z M2 w hR H;(try simp only[zca,zcb] at H);obtain⟨a2,c2,rfl,hO2⟩:=hR.yes hc2 (zEN _ _))|with_reducible apply zC|fail)
 generalize hold:zAn (zAq kind) v=old at *
 generalize hnew:zAn (zAq kind) (v+1)=L at *
 have hF1:=H.mem
 replace hO0:=SlA.mono hO0 (show M1⊆M1++M2 from List.subset_append_left _ _)
 replace hO2:=SlA.mono hO2 (show M2⊆M1++M2 from zz8 _ _)
 obtain⟨hn0,hc0,b0,off0,cs0,T0,fr0,hs0⟩:=hO0
 obtain⟨hn2,hcc2,b2,off2,cs2,T2,fr2,hs2⟩:=hO2
 have H0:=H
 clear H
 obtain⟨w1,rfl⟩:∃ w1,w1=w:=⟨w,rfl⟩
 have H:=zA w1
 refine zI [(12,13),(15,16),(40,72)] (fun x:RuI=>[(12,.slice x.a x.k x.cap),(13,.int .i64 (x.j:Int)),(40,.int .i64 (x.k:Int))]) (fun x w=>x.k≤L.length∧x.j≤old.length∧x.o.length=x.k∧zAd v old L 0=x.o++zAd v old (L.drop x.k) x.j∧Go.Sk.Own x.M 164 3 x.a x.k x.cap (zNz x.o)∧St w1 x.M w) (fun x=>L.length - x.k) ⟨0,0,none,0,[],[]⟩ ⟨rfl,rfl,rfl,trivial⟩ ⟨zzD _,zzD _,rfl,rfl,zUB _ _ _,H⟩ ?_
 clear H
 rintro⟨k,j,ao,co,M,o⟩ gh w ⟨hkL,hj,ho,hr,hO,H⟩
 simp only at hkL hj ho hr hO H ⊢
 by_cases hlt:k<L.length
 rotate_left
 ·obtain rfl:k=L.length:=by omega
  have d5:decide ((L.length:Int)<(L.length:Int))=false:=decide_eq_false qO
  repeat' (first|refine yW ?_|fail)
  have hro:zAd v old L 0=o:=by rw[hr,List.drop_length,zAd,List.append_nil]
  rw[hro]
  refine zBR (M:=M) rfl rfl ((H0.addR H).sub (List.sublist_append_right _ _)) ⟨by omega,ao,co,by rw[ho],?_⟩
  rw[ho];exact hO
 have d5:decide ((k:Int)<(L.length:Int))=true:=decide_eq_true qO
 rw[zQk hlt] at hr
 have happ:k≤100:=by omega
 by_cases hfr:j=old.length∨old.getD j 0≠L.getD k 0
 ·rw[zAd,if_pos hfr] at hr
  have hr2:zAd v old L 0=(o++[zDg (L.getD k 0)])++zAd v old (L.drop (k+1)) j:=by rw[hr,List.append_assoc];rfl
  clear hr
  by_cases he:j=old.length
  ·have d6:((j:Int)==(old.length:Int))=true:=by rw[he];simp
   repeat' (first|refine yW ?_|refine x40 sg hs2 ?_|refine z13 (Yq.loadB1 sg hs2 (H.memF hF1) rfl rfl rfl rfl hlt rfl) ?_|(refine c0 zRG ?_;refine⟨_,zMS (L.getD k 0) _,?_⟩;clear H;intro w H)|(refine zBA sg H ?_;intro b w H _)|(have hp:=H.perm (List.perm_append_comm (l₁:=[_]) (l₂:=M));refine zc sg 3 24 (M:=M) hp rfl rfl rfl rfl rfl rfl rfl rfl rfl rfl rfl hO (zn hp.mem (zz3 _ (zz2 _))) rfl (zAB rfl) (by unfold maxLen;omega) qO ?_;clear hp hO;intro a1 c1 M3 w hO H;replace H:=H.perm (List.perm_append_comm (l₁:=M3) (l₂:=[_])))|with_reducible apply zC|fail)
   exact zF ⟨k+1,j,a1,c1,M3,o++[zDg (L.getD k 0)]⟩ rfl ⟨rfl,rfl,zd qO,trivial⟩ ⟨hlt,hj,by rw[List.length_append,ho];rfl,hr2,by rw[← zG6];exact hO,H.sub (zz7 _ _)⟩ (by show L.length - (k+1)<L.length - k;omega)
  ·have d6:((j:Int)==(old.length:Int))=false:=beq_eq_false_iff_ne.2 qO
   have hjl:j<old.length:=by omega
   have d7:(((old.getD j 0:Nat):Int) != ((L.getD k 0:Nat):Int))=true:=by
    have:=hfr.resolve_left he
    simp only[bne_iff_ne,ne_eq];omega
   repeat' (first|refine yW ?_|refine x40 sg hs2 ?_|refine z13 (Yq.loadB1 sg hs2 (H.memF hF1) rfl rfl rfl rfl hlt rfl) ?_|refine x40 sg hs0 ?_|refine z13 (Yq.loadB1 sg hs0 (H.memF hF1) rfl rfl rfl rfl hjl rfl) ?_|(refine c0 zRG ?_;refine⟨_,zMS (L.getD k 0) _,?_⟩;clear H;intro w H)|(refine zBA sg H ?_;intro b w H _)|(have hp:=H.perm (List.perm_append_comm (l₁:=[_]) (l₂:=M));refine zc sg 3 24 (M:=M) hp rfl rfl rfl rfl rfl rfl rfl rfl rfl rfl rfl hO (zn hp.mem (zz3 _ (zz2 _))) rfl (zAB rfl) (by unfold maxLen;omega) qO ?_;clear hp hO;intro a1 c1 M3 w hO H;replace H:=H.perm (List.perm_append_comm (l₁:=M3) (l₂:=[_])))|with_reducible apply zC|fail)
   exact zF ⟨k+1,j,a1,c1,M3,o++[zDg (L.getD k 0)]⟩ rfl ⟨rfl,rfl,zd qO,trivial⟩ ⟨hlt,hj,by rw[List.length_append,ho];rfl,hr2,by rw[← zG6];exact hO,H.sub (zz7 _ _)⟩ (by show L.length - (k+1)<L.length - k;omega)
 ·rw[zAd,if_neg hfr] at hr
  have hr2:zAd v old L 0=(o++[⟨(j:Int),(zAy v (L.getD k 0)).1,(zAy v (L.getD k 0)).2⟩])++zAd v old (L.drop (k+1)) (j+1):=by rw[hr,List.append_assoc];rfl
  clear hr
  have hjl:j<old.length:=by
   have:¬ j=old.length:=fun e=>hfr (.inl e)
   omega
  have hje:old.getD j 0=L.getD k 0:=Decidable.of_not_not fun e=>hfr (.inr e)
  have d6:((j:Int)==(old.length:Int))=false:=beq_eq_false_iff_ne.2 qO
  have d7:(((old.getD j 0:Nat):Int) != ((L.getD k 0:Nat):Int))=false:=by rw[hje];simp
  repeat' (first|refine yW ?_|(refine yB ?_;intro b w H)|(refine y11 sg H ?_;intro w H)|refine x40 sg hs2 ?_|refine z13 (Yq.loadB1 sg hs2 (H.memF hF1) rfl rfl rfl rfl hlt rfl) ?_|refine x40 sg hs0 ?_|refine z13 (Yq.loadB1 sg hs0 (H.memF hF1) rfl rfl rfl rfl hjl rfl) ?_|(refine c0 ent142 ?_;refine⟨_,zVe v (L.getD k 0) _,?_⟩;clear H;intro w H)|(refine zBA sg H ?_;intro b w H _)|(have hp:=H.perm (List.perm_append_comm (l₁:=[_,_]) (l₂:=M));refine zc sg 3 24 (M:=M) hp rfl rfl rfl rfl rfl rfl rfl rfl rfl rfl rfl hO (zn hp.mem (zz3 _ (zz2 _))) rfl (zAB rfl) (by unfold maxLen;omega) qO ?_;clear hp hO;intro a1 c1 M3 w hO H;replace H:=H.perm (List.perm_append_comm (l₁:=M3) (l₂:=[_,_])))|with_reducible apply zC|fail)
  exact zF ⟨k+1,j+1,a1,c1,M3,o++[⟨(j:Int),(zAy v (L.getD k 0)).1,(zAy v (L.getD k 0)).2⟩]⟩ rfl ⟨rfl,zd qO,zd qO,trivial⟩ ⟨hlt,hjl,by rw[List.length_append,ho];rfl,hr2,by rw[← zG6];exact hO,H.sub ((zz7 _ _).trans (zz7 _ _))⟩ (by show L.length - (k+1)<L.length - k;omega)
theorem zVf {v:Int}{c:Nat}{n:Int}(h:zBg v c n=true):0≤n∧n≤1125899906842624:=by
 unfold zBg zC6 zJL at h
 by_cases hv:1≤v∧v≤3
 rotate_left
 ·rw[if_neg hv] at h;cases h
 rw[if_pos hv] at h
 by_cases h97:c=97
 ·subst h97;simp at h;omega
 by_cases h105:c=105
 ·subst h105;simp at h;omega
 by_cases h111:c=111
 ·subst h111;simp at h;omega
 by_cases h99:c=99
 ·subst h99;simp at h;omega
 by_cases h113:c=113
 ·subst h113;simp at h;omega
 by_cases h109:c=109
 ·subst h109;simp at h;split at h<;>omega
 by_cases h122:c=122
 ·subst h122;simp at h;split at h<;>omega
 by_cases h112:c=112
 ·subst h112;simp at h;split at h<;>omega
 by_cases h107:c=107
 ·subst h107;simp at h;split at h<;>omega
 by_cases h98:c=98
 ·subst h98;simp at h;split at h<;>omega
 by_cases h116:c=116
 ·subst h116;simp at h;split at h<;>omega
 by_cases h115:c=115
 ·subst h115;by_cases g:v<3<;>simp[g] at h<;>omega
 simp[h97,h105,h111,h99,h113,h109,h122,h112,h107,h98,h116,h115] at h
structure RulOk (e:Evt)(r:Rul):Prop where
 plus:0≤r.plus∧r.plus≤100
 times:0≤r.times∧r.times≤100
 frm:r.frm<0∨(0≤r.frm∧r.frm.toNat<e.nums.length∧0≤e.nums.getD r.frm.toNat 0∧e.nums.getD r.frm.toNat 0≤1125899906842624)
theorem zFu {e:Evt}(h:zAm e=true):∃ old tx,zAj e.v e.kind=some (old,tx)∧e.nums.length=old.length∧(∀ j,j<old.length→0≤e.nums.getD j 0∧e.nums.getD j 0≤1125899906842624)∧e.texts.length≤1:=by
 unfold zAm at h
 cases hf:zAj e.v e.kind with
 | none=>rw[hf] at h;cases h
 | some z =>
   obtain⟨old,tx⟩:=z
   rw[hf] at h
   simp only[Bool.and_eq_true] at h
   obtain⟨h1,h2⟩:=h
   unfold zBL at h1
   simp only[Bool.and_eq_true,beq_iff_eq,List.all_eq_true,List.mem_range] at h1
   refine⟨old,tx,rfl,h1.1.symm,fun j hj=>zVf (h1.2 j hj),?_⟩
   split at h2
   ·simp only[Bool.and_eq_true,beq_iff_eq] at h2;omega
   ·simp only[beq_iff_eq] at h2;omega
theorem zTv (v:Int)(c:Nat):(0≤(zAy v c).1∧(zAy v c).1≤100)∧0≤(zAy v c).2∧(zAy v c).2≤100:=by
 unfold zAy
 split
 ·decide
 ·split
  ·decide
  ·split<;>decide
theorem zTw {e:Evt}{l:List Rul}(h:zAm e=true)(hr:zCM e.v e.kind=some l):∀ i,i<l.length→RulOk e (l.getD i default):=by
 obtain⟨old,tx,hf,hn,hb,_⟩:=zFu h
 unfold zCM at hr
 rw[hf] at hr
 simp only at hr
 split at hr
 ·cases hr
 obtain rfl:=Option.some.inj hr
 intro i hi
 rw[zDz] at hi
 rcases zGW e.v old (zBT (e.v+1) e.kind).1 0 i (zzD _) hi with g|⟨j,g1,g2,g3⟩
 ·rw[g]
  refine⟨?_,⟨Int.le_refl _,show(0:Int)≤100 by decide⟩,.inl (show(-1:Int)<0 by decide)⟩
  unfold zDg
  simp only
  split<;>decide
 ·rw[g3]
  have:=zTv e.v ((zBT (e.v+1) e.kind).1.getD i 0)
  refine⟨this.2,this.1,.inr ⟨by simp only;omega,?_⟩⟩
  simp only[Int.toNat_natCast]
  exact⟨by omega,hb j g1⟩
structure UI where
 k:Nat
 a:Option Addr
 cap:Nat
 M:zB
theorem zVg (n:List Int)(l:List Rul){k:Nat}(hk:k<l.length):(l.take k).map (fun r=>Value.int .i64 (upN n r))++[.int .i64 (upN n (l.getD k default))]=(l.take (k+1)).map (fun r=>Value.int .i64 (upN n r)):=by
 rw[List.take_succ_eq_append_getElem hk,List.map_append]
 simp[List.getElem?_eq_getElem hk]
theorem zTx (l:List Rul):zNz l=(List.range l.length).flatMap fun j=>(l.getD j default).cells:=by
 unfold zNz
 have:∀ k,k≤l.length→(l.take k).flatMap Rul.cells=(List.range k).flatMap fun j=>(l.getD j default).cells:=by
  intro k
  induction k with
  | zero=>intro _;rfl
  | succ k ih =>
    intro hk
    rw[List.range_succ,List.flatMap_append,List.flatMap_singleton,← ih qO,List.take_succ_eq_append_getElem qO,List.flatMap_append]
    simp[List.getElem?_eq_getElem (show k<l.length by omega)]
 rw[← this _ (Nat.le_refl _),List.take_length]
theorem zKx (k:Int):zNq (⟨0,0,[],[]⟩,k) [] (.tuple #[.agg (Evt.cells ⟨0,0,[],[]⟩ zFA).toArray,.int .i64 k]):=⟨zFA,rfl,SlA.nil,SlA.nil⟩
theorem u8w_id {x:Int}(h0:0≤x)(h1:x≤255):IntKind.u8.wrap x=x:=by
 obtain⟨m,rfl⟩:∃ m:Nat,x=(m:Int):=⟨x.toNat,by omega⟩
 exact w8n qO
theorem c_uUp {F:zB}(e:Evt)(q:EPt)(he:zCq e)(w0:World)(hF:Mem w0 F)(hK:KinM F)(hE:EvtM F e q) :
  Calls prog 70 [.agg (e.cells q).toArray].toArray w0 (zf (zNq (upF e)) w0):=by
 have hmay:=fun w (hG:Mem w F)=>zHX e q he w hG hK hE
 have hru:=fun w (hG:Mem w F)=>zTu e.v e.kind he.2.1 w hG hK
 unfold upF
 cases hm:zAm e with
 | false =>
   rw[hm] at hmay
   rw[if_pos rfl]
   refine eN func70 ntmps70 ?_
   have H:=zA w0
   repeat' (first|refine yW ?_|(refine yB ?_;intro b w H)|(refine y11 sg H ?_;intro w H)|(refine c0 zHA ?_;refine⟨_,hmay _ (H.memF hF),?_⟩;clear H;intro w H)|fail)
   exact zi (vs:=[_,_]) (M:=[]) ⟨zm sg rfl H.mem (zz2 _) rfl rfl,zW rfl,trivial⟩ (H.sub (zz9 _)) (zKx 4)
 | true =>
 rw[hm] at hmay
 rw[if_neg (by decide)]
 cases hrl:zCM e.v e.kind with
 | none =>
   rw[hrl] at hru
   refine eN func70 ntmps70 ?_
   have H:=zA w0
   repeat' (first|refine yW ?_|(refine yB ?_;intro b w H)|(refine y11 sg H ?_;intro w H)|(refine c0 zHA ?_;refine⟨_,hmay _ (H.memF hF),?_⟩;clear H;intro w H)|(refine f0 zRC ?_;refine⟨_,hru _ (H.memF hF),?_⟩;clear H;intro z M w hR H;(try simp only[zca,zcb] at H);obtain rfl:z=_:=hR)|fail)
   exact zi (vs:=[_,_]) (M:=[]) ⟨zm sg rfl H.mem (zz2 _) rfl rfl,zW rfl,trivial⟩ (H.sub (zz9 _)) (zKx 43)
 | some l =>
 rw[hrl] at hru
 have hok:=zTw hm hrl
 obtain⟨old,tx,hfe,hnl,_,htl⟩:=zFu hm
 have hv3:1≤e.v∧e.v<3:=by
  unfold zCM at hrl
  unfold zAj at hfe
  split at hfe
  ·rename_i g
   unfold zAj at hrl
   rw[if_pos g] at hrl
   simp only at hrl
   split at hrl
   ·cases hrl
   ·omega
  ·cases hfe
 have ew:IntKind.u8.wrap (e.v+1)=e.v+1:=u8w_id qO qO
 have hclo:=fun w (hG:Mem w F)=>zH5 (a:=q.ta) (n:=e.texts.length) (cap:=q.tc) (fun j=>e.texts.getD j ByteArray.empty) w hG hE.texts qO
 clear hnl hfe hrl
 refine eN func70 ntmps70 ?_
 have H:=zA w0
 repeat' (first|refine yX ?_|(refine yB ?_;intro b w H)|(refine c0 zHA ?_;refine⟨_,hmay _ (H.memF hF),?_⟩;clear H;intro w H)|(refine f0 zRC ?_;refine⟨_,hru _ (H.memF hF),?_⟩;clear H;intro z M1 w hR H;(try simp only[zca,zcb] at H);obtain⟨hl100,a1,c1,rfl,hO1⟩:=hR)|fail)
 refine CW.cutT (fun en1 w=>∃ b1 b2 b6 ta tc M2 en',en1=ovl [(1,.pointer (some ⟨b1,0,none⟩)),(2,.pointer (some ⟨b2,0,none⟩)),(4,.slice a1 l.length c1),(6,.pointer (some ⟨b6,0,none⟩))] en'∧SlA M2 1 ta e.texts.length tc (fun j=>[Value.string (e.texts.getD j ByteArray.empty)])∧St w0 (cb b6 [.int .u8 (e.v+1),.int .u8 e.kind,.slice none 0 0,.slice ta e.texts.length tc] 61::cb b2 [.int .u8 0,.int .u8 0,.slice none 0 0,.slice none 0 0] 61::cb b1 (e.cells q) 61::(M1++M2)) w) ?_ ?_
 ·repeat' (first|refine yX ?_|(refine yB ?_;intro b w H)|(refine y11 sg H ?_;intro w H)|(refine CW.regionL mixed 11 (z6s (x:=cb _ (e.cells q) 61) H hF) [] ?_ ?_;exact rfl;refine wQ H ?_;clear H;intro w H;have qh:=z6s (x:=cb _ (e.cells q) 61) H hF;refine lT sg 0 qh ?_;refine' l1 1 qh ?_ ?_;rotate_left;(exact z3 sg);refine lT sg 2 qh ?_;refine lT sg 3 qh ?_;refine' l1 4 qh ?_ ?_;rotate_left;(exact z3 sg);refine lT sg 5 qh ?_;refine' l1 6 qh ?_ ?_;rotate_left;(exact z3 sg))|refine lN ?_|(refine lT sg 8 (z6s H hF) ?_)|refine l2 7 ?_|refine l2 9 ?_|refine l2 10 ?_|refine l4 7 9 ?_ ?_|(refine l5 (z6s H hF) ?_)|(refine f0 zMd ?_;refine⟨_,hclo _ (H.memF hF),?_⟩;clear H;intro v M2 w hR H;(try simp only[zca,zcb] at H);obtain⟨ta,tc,rfl,hO2⟩:=hR)|fail)
  all_goals
   rw[ew] at H
   exact⟨_,_,_,ta,tc,M2,_,zAc rfl (zBG rfl rfl rfl),hO2.sl (fun _ h=>h) (fun _ _=>rfl) qO,H⟩
 clear H
 rintro _ w ⟨b1,b2,b6,ta,tc,M2,en',rfl,hT2,H⟩
 rw[zTx] at hO1
 have hsl:=hO1.sl (F:=M1) (fun _ h=>h) (fun _ _=>rfl) qO
 obtain⟨hn1,hc1,bl,offl,csl,Tl,frl,hsl⟩:=hsl
 obtain⟨⟨hnn,hcn,bn,offn,csn,Tn,frn,hsn⟩,_⟩:=hE
 repeat' (first|refine yX ?_|with_reducible apply zC|fail)
 refine zI [(8,9),(36,62)] (fun x:UI=>[(36,.int .i64 (x.k:Int))]) (fun x w=>x.k≤l.length∧Go.Sk.Own x.M 2 1 x.a x.k x.cap ((l.take x.k).map (fun r=>Value.int .i64 (upN e.nums r)))∧St w0 (cb b6 [.int .u8 (e.v+1),.int .u8 e.kind,.slice x.a x.k x.cap,.slice ta e.texts.length tc] 61::cb b2 [.int .u8 0,.int .u8 0,.slice none 0 0,.slice none 0 0] 61::cb b1 (e.cells q) 61::(x.M++(M1++M2))) w) (fun x=>l.length - x.k) ⟨0,none,0,[]⟩ ⟨rfl,trivial⟩ ⟨zzD _,zUB _ _ _,H⟩ ?_
 clear H
 rintro⟨k,ao,co,M⟩ gh w ⟨hk,hO,H⟩
 simp only at hk hO H ⊢
 by_cases hlt:k<l.length
 rotate_left
 ·obtain rfl:k=l.length:=by omega
  have d5:decide ((l.length:Int)<(l.length:Int))=false:=decide_eq_false qO
  repeat' (first|refine yW ?_|(refine y11 sg H ?_;intro w H)|fail)
  rw[List.take_length,show l.map (fun r=>Value.int .i64 (upN e.nums r))=(l.map (upN e.nums)).map (Value.int .i64) by rw[List.map_map];rfl] at hO
  refine zi (vs:=[_,_]) (M:=M++(M1++M2)) ⟨zm sg rfl H.mem (zz5 _ (zz2 _)) rfl rfl,zW rfl,trivial⟩ (H.sub (List.Sublist.cons _ (List.Sublist.cons _ (List.Sublist.cons _ (List.Sublist.refl _))))) ⟨⟨ao,co,ta,tc⟩,?_,?_,?_⟩
  ·simp only[Evt.cells,List.length_map];rfl
  ·exact zGU _ hO (List.subset_append_left _ _) (by simp) (by simp;omega)
  ·exact SlA.mono hT2 (fun z hz=>zz3 _ (zz3 _ hz))
 have d5:decide ((k:Int)<(l.length:Int))=true:=decide_eq_true qO
 obtain⟨⟨hp0,hp1⟩,⟨ht0,ht1⟩,hfr⟩:=hok k hlt
 have hsnoc:=zVg e.nums l hlt
 by_cases hf0:(l.getD k default).frm<0
 ·have d6:decide ((l.getD k default).frm ≥ 0)=false:=decide_eq_false qO
  have eup:upN e.nums (l.getD k default)=(l.getD k default).plus:=by unfold upN;rw[if_neg qO]
  rw[eup] at hsnoc
  repeat' (first|refine yW ?_|(refine yB ?_;intro b w H)|(refine y11 sg H ?_;intro w H)|refine x40 sg hsl ?_|(refine y42 sg (hsl) ((H.mem.sub (by intro z hz;simp[hz]))) ?_ ?_;(omega))|(have hp:=H.perm (List.perm_append_comm_assoc [_,_,_,_,_] M (M1++M2));refine zc sg 1 8 (M:=M) hp rfl rfl rfl rfl rfl rfl rfl rfl rfl rfl rfl hO (zn hp.mem (zz3 _ (zz2 _))) rfl (zAB rfl) (by unfold maxLen;omega) qO ?_;clear hp hO;intro ao2 co2 M3 w hO H;replace H:=H.perm (List.perm_append_comm_assoc M3 [_,_,_,_,_] (M1++M2)))|with_reducible apply zC|fail)
  exact zF ⟨k+1,ao2,co2,M3⟩ rfl ⟨zd qO,trivial⟩ ⟨hlt,by rw[← hsnoc];exact hO,H.sub (List.Sublist.cons _ (List.Sublist.cons _ (List.Sublist.refl _)))⟩ (by show l.length - (k+1)<l.length - k;omega)
 ·have d6:decide ((l.getD k default).frm ≥ 0)=true:=decide_eq_true qO
  obtain⟨hr0,hrn,hb0,hb1⟩:=hfr.resolve_left hf0
  have eup:upN e.nums (l.getD k default)=(l.getD k default).plus+(l.getD k default).times*e.nums.getD (l.getD k default).frm.toNat 0:=by unfold upN;rw[if_pos hr0]
  have hm1:0≤(l.getD k default).times*e.nums.getD (l.getD k default).frm.toNat 0:=Int.mul_nonneg ht0 hb0
  have hm2:(l.getD k default).times*e.nums.getD (l.getD k default).frm.toNat 0≤100*1125899906842624:=Int.mul_le_mul ht1 hb1 hb0 (by decide)
  have ew1:IntKind.i64.wrap ((l.getD k default).times*e.nums.getD (l.getD k default).frm.toNat 0)=(l.getD k default).times*e.nums.getD (l.getD k default).frm.toNat 0:=w64 qO qO
  have ew2:IntKind.i64.wrap ((l.getD k default).plus+IntKind.i64.wrap ((l.getD k default).times*e.nums.getD (l.getD k default).frm.toNat 0))=(l.getD k default).plus+(l.getD k default).times*e.nums.getD (l.getD k default).frm.toNat 0:=by rw[ew1];exact w64 qO qO
  rw[eup] at hsnoc
  repeat' (first|refine yW ?_|(refine yB ?_;intro b w H)|(refine y11 sg H ?_;intro w H)|refine x40 sg hsl ?_|(refine y42 sg (hsl) ((H.mem.sub (by intro z hz;simp[hz]))) ?_ ?_;(omega))|refine x41 sg hsn ?_|refine zq (Yq.loadB1 sg hsn (H.memF hF) rfl rfl rfl rfl hrn rfl) ?_|(have hp:=H.perm (List.perm_append_comm_assoc [_,_,_,_,_] M (M1++M2));refine zc sg 1 8 (M:=M) hp rfl rfl rfl rfl rfl rfl rfl rfl rfl rfl rfl hO (zn hp.mem (zz3 _ (zz2 _))) rfl (zAB rfl) (by unfold maxLen;omega) qO ?_;clear hp hO;intro ao2 co2 M3 w hO H;replace H:=H.perm (List.perm_append_comm_assoc M3 [_,_,_,_,_] (M1++M2)))|(refine qN H ?_;clear H;intro w H)|refine y20 mixed ?_|with_reducible apply zC|fail)
  rw[ew2] at hO
  exact zF ⟨k+1,ao2,co2,M3⟩ rfl ⟨zd qO,trivial⟩ ⟨hlt,by rw[← hsnoc];exact hO,H.sub (List.Sublist.cons _ (List.Sublist.cons _ (List.Sublist.refl _)))⟩ (by show l.length - (k+1)<l.length - k;omega)
end
section
open Go Go.Sk Go.RowKit Go.Proofs.Tryz
theorem may_v {e:Evt}(h:zAm e=true):e.v=1∨e.v=2∨e.v=3:=by
 unfold zAm at h
 cases hf:zAj e.v e.kind with
 | none=>rw[hf] at h;cases h
 | some z =>
   unfold zAj at hf
   split at hf
   ·rename_i g;omega
   ·cases hf
theorem zN0 {e:Evt}(h:zAm e=true):(zG0 e).2=0∧(zG0 e).1.v=3∧zAm (zG0 e).1=true:=by
 unfold zG0
 rw[if_neg (by rw[h];decide)]
 rcases may_v h with g|g|g
 ·rw[if_pos g]
  obtain⟨_,h2,h3⟩:=zIo h (.inl g)
  obtain⟨_,h5,h6⟩:=zIo h3 (.inr (by rw[h2,g];rfl))
  exact⟨rfl,by rw[h5,h2,g];rfl,h6⟩
 ·rw[if_neg qO,if_pos g]
  obtain⟨_,h2,h3⟩:=zIo h (.inr g)
  exact⟨rfl,by rw[h2,g];rfl,h3⟩
 ·rw[if_neg qO,if_neg qO]
  exact⟨rfl,g,h⟩
theorem zPJ:∀ (l o:List Evt),(∀ e∈l,zAm e=true)→zDK l o=(o++l.map (fun e=>(zG0 e).1),0)
 | [],o,_=>by unfold zDK;rw[List.map_nil,List.append_nil]
 | e::l,o,h=>by
   unfold zDK
   rw[if_neg (fun g=>g (zN0 (h e (List.Mem.head _))).1),zPJ l _ fun x hx=>h x (List.mem_cons_of_mem _ hx),List.map_cons,List.append_assoc]
   rfl
abbrev ev0 (l:List Evt):Evt:=l.getD 0 ⟨0,0,[],[]⟩
theorem zVh {l:List Evt}:zKo l=true↔(0<l.length∧l.length≤40)∧∀ e∈l,e.v=(ev0 l).v∧zAm e=true:=by
 unfold zKo
 simp only[Bool.and_eq_true,decide_eq_true_eq,Bool.not_eq_true',List.any_eq_false,Bool.or_eq_true,not_or,bne_iff_ne,ne_eq,Decidable.not_not,Bool.not_eq_false]
end
section
open Go Go.Sk Go.RowKit Go.Proofs.Tryz
attribute [local irreducible] Go.Calls
theorem zTy {n cap:Nat}{a:Option Addr}{el:Nat→List Value}{F:zB}(w0:World)(hF:Mem w0 F)(hs:SlA F 1 a n cap el)(h1:∀ j,j<n→∀ u∈el j,u.oneCell'=true)(hel:∀ j,j<n→(el j).length=1)(hn:n*8≤140737488355328) :
  Calls prog 103 [.slice a n cap].toArray w0 (zf (fun M v=>∃ a' cap',v=.slice a' n cap'∧Go.Sk.Own M 2 1 a' n cap' ((List.range n).flatMap el)) w0):=by
 obtain⟨hnc,hcb,b,off,cs,T,fr,hs⟩:=hs
 refine eN func103 ntmps103 ?_
 have H:=zA w0
 repeat' (first|refine yX ?_|(refine zb rfl rfl (Yq.nilS sg rfl rfl rfl rfl) ?_)|fail)
 refine zD rfl (fun h=>?_) (fun h=>?_)
 ·have hn0:n=0:=by
   rcases Nat.eq_zero_or_pos n with h0|h0
   ·exact h0
   ·rw[(hs h0).1] at h;cases h
  subst hn0
  repeat' (first|refine yX ?_|fail)
  exact zO rfl H ⟨_,_,rfl,zUB _ _ _⟩
 ·repeat' (first|refine yX ?_|(refine zB4 sg H rfl rfl rfl rfl rfl rfl ?_;intro b w H _)|(refine zc sg 1 8 (M:=[]) (G:=[]) H rfl rfl rfl rfl rfl rfl rfl rfl rfl rfl rfl (zUB _ _ _) (zIG hs hel (H.memF hF)) (zEO hel) (zGG h1) (by unfold maxLen;omega) qO ?_;intro a' cap' M w hO H;simp only[Nat.zero_add,List.nil_append] at hO;rw[List.append_nil] at H;rw[Nat.zero_add])|fail)
  exact zO rfl H ⟨_,_,rfl,hO⟩
theorem c_uTo0 {F:zB}(e:Evt)(q:EPt)(he:zCq e)(w0:World)(hF:Mem w0 F)(hK:KinM F)(hE:EvtM F e q) :
  Calls prog 69 [.agg (e.cells q).toArray,.int .u8 e.v].toArray w0 (zf (zNq (if zAm e=false then(⟨0,0,[],[]⟩,4) else(e,0))) w0):=by
 have hmay:=fun w (hG:Mem w F)=>zHX e q he w hG hK hE
 cases hm:zAm e with
 | false =>
   rw[hm] at hmay
   rw[if_pos rfl]
   refine eN func69 ntmps69 ?_
   have H:=zA w0
   repeat' (first|refine yW ?_|(refine yB ?_;intro b w H)|(refine y11 sg H ?_;intro w H)|(refine c0 zHA ?_;refine⟨_,hmay _ (H.memF hF),?_⟩;clear H;intro w H)|fail)
   exact zi (vs:=[_,_]) (M:=[]) ⟨zm sg rfl H.mem (zz2 _) rfl rfl,zW rfl,trivial⟩ (H.sub (zz9 _)) (zKx 4)
 | true =>
 rw[hm] at hmay
 rw[if_neg (by decide)]
 obtain⟨old,tx,hfe,hnl,_,htl⟩:=zFu hm
 have hv3:1≤e.v∧e.v≤3:=by
  unfold zAj at hfe
  split at hfe
  ·rename_i g;exact⟨g.1,g.2.1⟩
  ·cases hfe
 have hn1:e.nums.length≤100:=by
  rw[zDo] at hfe
  split at hfe
  ·have:=zEN e.kind e.v
   have:=congrArg (fun x:List Nat × Bool=>x.1.length) (Option.some.inj hfe)
   simp only at this
   omega
  ·cases hfe
 have d1:decide (e.v<1)=false:=decide_eq_false qO
 have d2:decide (e.v>3)=false:=decide_eq_false qO
 have d3:decide (e.v<e.v)=false:=decide_eq_false qO
 have d4:decide (e.v>e.v)=false:=decide_eq_false qO
 have hclo:=fun w (hG:Mem w F)=>zH5 (a:=q.ta) (n:=e.texts.length) (cap:=q.tc) (fun j=>e.texts.getD j ByteArray.empty) w hG hE.texts qO
 have hcli:=fun w (hG:Mem w F)=>zTy (a:=q.na) (n:=e.nums.length) (cap:=q.nc) (el:=iel e.nums) w hG hE.nums (fun j _=>zAB rfl) (fun j _=>rfl) qO
 clear hfe
 refine eN func69 ntmps69 ?_
 have H:=zA w0
 repeat' (first|refine yW ?_|(refine yB ?_;intro b w H)|(refine c0 zHA ?_;refine⟨_,hmay _ (H.memF hF),?_⟩;clear H;intro w H)|fail)
 refine CW.cutT (fun en1 w=>∃ b2 b4 b6 qc M2 en',en1=ovl [(1,.int .u8 e.v),(2,.pointer (some ⟨b2,0,none⟩)),(4,.pointer (some ⟨b4,0,none⟩)),(6,.pointer (some ⟨b6,0,none⟩))] en'∧EvtM M2 e qc∧St w0 (cb b6 (e.cells qc) 61::cb b4 [.int .u8 0,.int .u8 0,.slice none 0 0,.slice none 0 0] 61::cb b2 (e.cells q) 61::M2) w) ?_ ?_
 ·repeat' (first|refine yX ?_|(refine yB ?_;intro b w H)|(refine y11 sg H ?_;intro w H)|(refine CW.regionL mixed 13 (z6s (x:=cb _ (e.cells q) 61) H hF) [] ?_ ?_;exact rfl;refine wQ H ?_;clear H;intro w H;have qh:=z6s (x:=cb _ (e.cells q) 61) H hF;refine lT sg 0 qh ?_;refine' l1 1 qh ?_ ?_;rotate_left;(exact z3 sg);refine lT sg 2 qh ?_;refine' l1 3 qh ?_ ?_;rotate_left;(exact z3 sg);refine lT sg 4 qh ?_;refine' l1 5 qh ?_ ?_;rotate_left;(exact z3 sg);refine lT sg 7 qh ?_;refine' l1 8 qh ?_ ?_;rotate_left;(exact z3 sg))|refine lN ?_|(refine lT sg 10 (z6s H hF) ?_)|refine l2 6 ?_|refine l2 9 ?_|refine l2 11 ?_|refine l2 12 ?_|refine l4 6 11 ?_ ?_|refine l4 9 11 ?_ ?_|(refine l5 (z6s H hF) ?_)|(refine f0 ent103 ?_;refine⟨_,hcli _ (H.memF hF),?_⟩;clear H;intro v M2 w hR H;(try simp only[zca,zcb] at H);obtain⟨ia,ic,rfl,hO1⟩:=hR)|(refine f0 zMd ?_;refine⟨_,hclo _ (H.memF hF),?_⟩;clear H;intro v M3 w hR H;(try simp only[zca,zcb] at H);obtain⟨ta,tc,rfl,hO2⟩:=hR)|fail)
  all_goals
   exact⟨_,_,_,⟨ia,ic,ta,tc⟩,M2++M3,_,zAc rfl (zBG rfl rfl rfl),⟨hO1.sl (List.subset_append_left _ _) (fun _ _=>rfl) qO,hO2.sl (zz8 _ _) (fun _ _=>rfl) qO⟩,H⟩
 clear H
 rintro _ w ⟨b2,b4,b6,qc,M2,en',rfl,hE2,H⟩
 repeat' (first|refine yX ?_|with_reducible apply zC|fail)
 refine zI [(5,5),(7,7),(30,42)] (fun _:Unit=>[]) (fun _ w=>St w0 (cb b6 (e.cells qc) 61::cb b4 [.int .u8 0,.int .u8 0,.slice none 0 0,.slice none 0 0] 61::cb b2 (e.cells q) 61::M2) w) (fun _=>0) () trivial H ?_
 clear H
 rintro _ gh w H
 repeat' (first|refine yX ?_|fail)
 refine CW.condF (congrArg Value.bool d3) ?_
 repeat' (first|refine yX ?_|with_reducible apply zC|fail)
 refine zI [(5,5),(7,7),(43,55)] (fun _:Unit=>[]) (fun _ w=>St w0 (cb b6 (e.cells qc) 61::cb b4 [.int .u8 0,.int .u8 0,.slice none 0 0,.slice none 0 0] 61::cb b2 (e.cells q) 61::M2) w) (fun _=>0) () trivial H ?_
 clear H
 rintro _ gh2 w H
 repeat' (first|refine yX ?_|fail)
 refine CW.condF (congrArg Value.bool d4) ?_
 repeat' (first|refine yX ?_|(refine y11 sg H ?_;intro w H)|fail)
 exact zi (vs:=[_,_]) (M:=M2) ⟨zm sg rfl H.mem (zz5 _ (zz2 _)) rfl rfl,zW rfl,trivial⟩ (H.sub (List.Sublist.cons _ (List.Sublist.cons _ (List.Sublist.cons _ (List.Sublist.refl _))))) ⟨qc,rfl,hE2⟩
theorem up_t {e:Evt}(he:zCq e)(hm:zAm e=true)(hv:e.v=1∨e.v=2):zCq (upF e).1:=by
 obtain⟨_,h1,h2⟩:=zIo hm hv
 refine⟨by rw[h1];omega,?_,?_⟩
 ·unfold upF;rw[if_neg (by rw[hm];decide)]
  split
  ·exact⟨Int.le_refl _,by decide⟩
  ·exact he.2.1
 ·unfold upF;rw[if_neg (by rw[hm];decide)]
  split
  ·intro t ht;cases ht
  ·exact he.2.2
theorem zQl {F:zB}(e:Evt)(q:EPt)(he:zCq e)(w0:World)(hF:Mem w0 F)(hK:KinM F)(hE:EvtM F e q) :
  Calls prog 31 [.agg (e.cells q).toArray].toArray w0 (zf (zNq (zG0 e)) w0):=by
 have hto:=fun w (hG:Mem w F)=>c_uTo0 e q he w hG hK hE
 have hup:=fun(e:Evt) (he:zCq e) {G:zB} {q:EPt} {M:zB} (hE:EvtM M e q) w (hG:Mem w (G++F)) (hs:M⊆G)=>c_uUp e q he w hG (hK.mono (zz8 _ _)) (hE.mono (fun z hz=>zz6 _ (hs hz)))
 unfold zG0
 cases hm:zAm e with
 | false =>
   rw[hm,if_pos rfl] at hto
   rw[if_pos rfl]
   refine eN func31 ntmps31 ?_
   have H:=zA w0
   repeat' (first|refine yW ?_|(refine yB ?_;intro b w H)|(refine y11 sg H ?_;intro w H)|(refine f0 zOG ?_;refine⟨_,hto _ (H.memF hF),?_⟩;clear H;intro v M w hR H;(try simp only[zca,zcb] at H);obtain⟨q1,rfl,hE1⟩:=hR)|fail)
   exact zi (vs:=[_,_]) (M:=[]) ⟨zm sg rfl H.mem qB rfl rfl,zW rfl,trivial⟩ (H.sub (zz9 _)) (zKx 4)
 | true =>
 rw[hm,if_neg (by decide)] at hto
 rw[if_neg (by decide)]
 rcases may_v hm with hv|hv|hv
 ·have d1:(e.v==1)=true:=by rw[hv];rfl
  have t1:=up_t he hm (.inl hv)
  have u1:=@hup e he
  have u2:=@hup (upF e).1 t1
  have e2:(upF (upF e).1).2=0:=by
   obtain⟨_,h1,h2⟩:=zIo hm (.inl hv)
   exact(zIo h2 (.inr (by rw[h1,hv];rfl))).1
  have e1:=(zIo hm (.inl hv)).1
  rw[if_pos hv]
  obtain⟨⟨x1,k1⟩,hx1⟩:∃ r,upF e=r:=⟨_,rfl⟩
  rw[hx1] at u1 u2 e2 e1 ⊢
  simp only at u2 e2 e1 ⊢
  obtain⟨⟨x2,k2⟩,hx2⟩:∃ r,upF x1=r:=⟨_,rfl⟩
  rw[hx2] at u2 e2 ⊢
  refine eN func31 ntmps31 ?_
  have H:=zA w0
  repeat' (first|refine yW ?_|(refine yB ?_;intro b w H)|(refine y11 sg H ?_;intro w H)|(refine f0 zOG ?_;refine⟨_,hto _ (H.memF hF),?_⟩;clear H;intro v M w hR H;(try simp only[zca,zcb] at H);obtain⟨q1,rfl,hE1⟩:=hR)|(refine f0 zQ7 ?_;refine⟨_,u1 hE1 _ (H.all hF) (by intro z hz;simp[hz]),?_⟩;clear H;intro v M2 w hR H;(try simp only[zca,zcb] at H);obtain⟨q2,rfl,hE2⟩:=hR)|(refine f0 zQ7 ?_;refine⟨_,u2 hE2 _ (H.all hF) (by intro z hz;simp[hz]),?_⟩;clear H;intro v M3 w hR H;(try simp only[zca,zcb] at H);obtain⟨q3,rfl,hE3⟩:=hR)|with_reducible apply zC|fail)
  exact zi (vs:=[_,_]) (M:=M3) ⟨zm sg rfl H.mem qB rfl rfl,zW rfl,trivial⟩ (H.sub ((List.sublist_append_right _ M3).trans (List.Sublist.cons _ (List.Sublist.cons _ (List.Sublist.cons _ (List.Sublist.refl _)))))) ⟨q3,rfl,hE3⟩
 ·have d1:(e.v==1)=false:=by rw[hv];rfl
  have d2:(e.v==2)=true:=by rw[hv];rfl
  have u1:=@hup e he
  rw[if_neg qO,if_pos hv]
  obtain⟨⟨x1,k1⟩,hx1⟩:∃ r,upF e=r:=⟨_,rfl⟩
  rw[hx1] at u1 ⊢
  refine eN func31 ntmps31 ?_
  have H:=zA w0
  repeat' (first|refine yW ?_|(refine yB ?_;intro b w H)|(refine y11 sg H ?_;intro w H)|(refine f0 zOG ?_;refine⟨_,hto _ (H.memF hF),?_⟩;clear H;intro v M w hR H;(try simp only[zca,zcb] at H);obtain⟨q1,rfl,hE1⟩:=hR)|(refine f0 zQ7 ?_;refine⟨_,u1 hE1 _ (H.all hF) (by intro z hz;simp[hz]),?_⟩;clear H;intro v M3 w hR H;(try simp only[zca,zcb] at H);obtain⟨q3,rfl,hE3⟩:=hR)|with_reducible apply zC|fail)
  exact zi (vs:=[_,_]) (M:=M3) ⟨zm sg rfl H.mem qB rfl rfl,zW rfl,trivial⟩ (H.sub ((List.sublist_append_right _ M3).trans (List.Sublist.cons _ (List.Sublist.cons _ (List.Sublist.cons _ (List.Sublist.refl _)))))) ⟨q3,rfl,hE3⟩
 ·have d1:(e.v==1)=false:=by rw[hv];rfl
  have d2:(e.v==2)=false:=by rw[hv];rfl
  rw[if_neg qO,if_neg qO]
  refine eN func31 ntmps31 ?_
  have H:=zA w0
  repeat' (first|refine yW ?_|(refine yB ?_;intro b w H)|(refine y11 sg H ?_;intro w H)|(refine f0 zOG ?_;refine⟨_,hto _ (H.memF hF),?_⟩;clear H;intro v M w hR H;(try simp only[zca,zcb] at H);obtain⟨q1,rfl,hE1⟩:=hR)|with_reducible apply zC|fail)
  exact zi (vs:=[_,_]) (M:=M) ⟨zm sg rfl H.mem qB rfl rfl,zW rfl,trivial⟩ (H.sub (List.Sublist.cons _ (List.Sublist.cons _ (List.Sublist.cons _ (List.Sublist.refl _))))) ⟨q1,rfl,hE1⟩
def zGX (g:Evt→Evt × Int):List Evt→List Evt→List Evt × Int
 | [],o=>(o,0)
 | e::l,o=>if (g e).2≠0 then([],(g e).2) else zGX g l (o++[(g e).1])
theorem zJf:∀ (l o:List Evt),zDK l o=zGX zG0 l o
 | [],o=>rfl
 | e::l,o=>by unfold zDK zGX;rw[zJf l]
theorem zVi {l:List Evt}{k:Nat}(h:k<l.length):l.drop k=ev_ l k::l.drop (k+1):=by
 rw[List.drop_eq_getElem_cons h];unfold ev_;rw[List.getD_eq_getElem?_getD,List.getElem?_eq_getElem h];rfl
structure EI where
 k:Nat
 a:Option Addr
 cap:Nat
 M:zB
 R:zB
 o:List Evt
 q:Nat→EPt
theorem zKy {F:zB}{a:Option Addr}{cap:Nat}(g:Evt→Evt × Int){f:FuncId}{caps:List Value}(hf:Ent prog f)(l:List Evt)(q:Nat→EPt)(hl:l.length≤1000)(w0:World)(hF:Mem w0 F)(hM:EvsM F a cap l q)
  (hg:∀ j,j<l.length→∀ w,Mem w F→Calls prog f ([Value.agg ((ev_ l j).cells (q j)).toArray]++caps).toArray w (zf (zNq (g (ev_ l j))) w)) :
  Calls prog 60 [.slice a l.length cap,.func (.func f) #[] caps.toArray].toArray w0 (zf (CmdR (zGX g l [])) w0):=by
 obtain⟨⟨hnl,hcl,bl,offl,csl,Tl,frl,hsl⟩,hev⟩:=hM
 refine eN func60 ntmps60 ?_
 have H:=zA w0
 repeat' (first|refine yX ?_|with_reducible apply zC|fail)
 refine zI [(4,6),(8,10),(13,30)] (fun x:EI=>[(6,.slice x.a x.k x.cap),(13,.int .i64 (x.k:Int))]) (fun x w=>x.k≤l.length∧x.o.length=x.k∧zGX g l []=zGX g (l.drop x.k) x.o∧Go.Sk.Own x.M 61 4 x.a x.k x.cap (evX x.o x.q)∧(∀ j,j<x.k→EvtM x.R (ev_ x.o j) (x.q j))∧St w0 (x.M++x.R) w) (fun x=>l.length - x.k) ⟨0,none,0,[],[],[],fun _=>zFA⟩ ⟨rfl,rfl,trivial⟩ ⟨zzD _,rfl,rfl,zUB _ _ _,fun j hj=>absurd hj (zzE _),H⟩ ?_
 clear H
 rintro⟨k,ao,co,M,R,o,qo⟩ gh w ⟨hk,ho,hr,hO,hQ,H⟩
 simp only at hk ho hr hO hQ H ⊢
 by_cases hlt:k<l.length
 rotate_left
 ·obtain rfl:k=l.length:=by omega
  have d5:decide ((l.length:Int)<(l.length:Int))=false:=decide_eq_false qO
  repeat' (first|refine yW ?_|fail)
  have hro:zGX g l []=(o,0):=by rw[hr,List.drop_length,zGX]
  rw[hro]
  refine zBR (M:=M++R) rfl rfl H ⟨ao,co,qo,by simp only[ho],?_,fun j hj=>?_⟩
  ·simp only
   rw[ho]
   unfold evX at hO
   rw[ho] at hO
   exact hO.sl (List.subset_append_left _ _) (fun _ _=>rfl) qO
  ·exact(hQ j (by simp only at hj;omega)).mono (zz8 _ _)
 have d5:decide ((k:Int)<(l.length:Int))=true:=decide_eq_true qO
 rw[zVi hlt,zGX] at hr
 have hc:=hg k hlt
 obtain⟨⟨x,n⟩,hx⟩:∃ r,g (ev_ l k)=r:=⟨_,rfl⟩
 rw[hx] at hr hc
 simp only at hr
 by_cases hn:n=0
 rotate_left
 ·have d6:(n != 0)=true:=by simpa using hn
  rw[if_pos hn] at hr
  rw[hr]
  repeat' (first|refine yW ?_|(refine yB ?_;intro b w H)|(refine y11 sg H ?_;intro w H)|refine x40 sg hsl ?_|refine x42 sg hsl (H.memF hF) ?_|(refine OX.callF rfl rfl (zA3 hf rfl rfl rfl) (hc _ (H.memF hF)) ?_;intro v M3 w hR hS;replace H:=H.addR hS;clear hS;obtain⟨q3,rfl,hE3⟩:=hR;(try simp only[zca,zcb] at H))|with_reducible apply zC|fail)
  exact zBR (M:=[]) rfl rfl (H.sub (zz9 _)) (zKu n)
 ·subst hn
  rw[if_neg (fun h=>h rfl)] at hr
  repeat' (first|refine yW ?_|(refine yB ?_;intro b w H)|(refine y11 sg H ?_;intro w H)|refine x40 sg hsl ?_|refine x42 sg hsl (H.memF hF) ?_|(refine OX.callF rfl rfl (zA3 hf rfl rfl rfl) (hc _ (H.memF hF)) ?_;intro v M3 w hR hS;replace H:=H.addR hS;clear hS;obtain⟨q3,rfl,hE3⟩:=hR;(try simp only[List.cons_append,List.nil_append,List.append_assoc] at H))|(refine zBA sg H ?_;intro b w H _)|(have hp:=H.perm (List.perm_append_comm_assoc [_,_,_] M (R++M3));refine zc sg 4 56 (M:=M) hp rfl rfl rfl rfl rfl rfl rfl rfl rfl rfl rfl hO (zn hp.mem (zz3 _ (zz2 _))) rfl (zAB rfl) (by unfold maxLen;omega) qO ?_;clear hp hO;intro a1 c1 M4 w hO H;replace H:=H.perm (List.perm_append_comm_assoc M4 [_,_,_] (R++M3)))|with_reducible apply zC|fail)
  have hO2:Go.Sk.Own M4 61 4 a1 (k+1) c1 (evX o qo++x.cells q3):=hO
  rw[zMK,ho] at hO2
  refine zF ⟨k+1,a1,c1,M4,R++M3,o++[x],zIl k qo q3⟩ rfl ⟨rfl,zd qO,trivial⟩ ⟨hlt,by rw[List.length_append,ho];rfl,hr,hO2,fun j hj=>?_,H.sub (List.Sublist.cons _ (List.Sublist.cons _ (List.Sublist.cons _ (List.Sublist.refl _))))⟩ (by show l.length - (k+1)<l.length - k;omega)
  show EvtM (R++M3) (ev_ (o++[x]) j) (if j<k then qo j else q3)
  by_cases hjk:j<k
  ·rw[if_pos hjk,zKq (by rw[ho];exact hjk)]
   exact(hQ j hjk).mono (List.subset_append_left _ _)
  ·obtain rfl:j=k:=by have:j<k+1:=hj;omega
   rw[if_neg hjk]
   have:ev_ (o++[x]) j=x:=by rw[← ho];exact zKr
   rw[this]
   exact hE3.mono (zz8 _ _)
theorem EvsM.pre {F:zB}{a:Option Addr}{cap:Nat}{l:List Evt}{q:Nat→EPt}(h:EvsM F a cap l q){k:Nat}(hk:k≤l.length):EvsM F a cap (l.take k) q:=by
 obtain⟨⟨hn,hc,b,off,cs,T,fr,hs⟩,hev⟩:=h
 have hl:(l.take k).length=k:=by rw[List.length_take];omega
 have he:∀ j,j<k→ev_ (l.take k) j=ev_ l j:=fun j hj=>by
  unfold ev_;rw[List.getD_eq_getElem?_getD,List.getD_eq_getElem?_getD,List.getElem?_take_of_lt hj]
 refine⟨⟨by omega,by omega,b,off,cs,T,fr,fun h0=>?_⟩,fun j hj=>?_⟩
 ·obtain⟨h1,h2,h3⟩:=hs qO
  refine⟨h1,h2,fun j hj=>?_⟩
  show _∧_=(ev_ (l.take k) j).cells (q j)
  rw[he j qO]
  exact h3 j qO
 ·rw[he j qO];exact hev j qO
theorem zTz:∀ (l:List Evt) (s:Sta) (i:Int),Good s→Good (zAt s l i).1∨(zAt s l i).1=zCp
 | [],s,i,h=>.inl h
 | e::l,s,i,h=>by
   rw[all_cons]
   split
   ·rename_i g
    exact zTz l _ _ (zET h (Prod.ext rfl g))
   ·exact .inr rfl
theorem zVj (s:Sta)(l:List Evt):LtS (zCg s l).1:=by
 unfold zCg
 split
 ·rename_i h
  rcases zTz l s 0 (zAp.1 h) with g|g
  ·exact zCd g
  ·rw[g];exact lt_z
 ·exact lt_z
end
end Go.Proofs.YtejhijhnlogikaaGreatDoor
