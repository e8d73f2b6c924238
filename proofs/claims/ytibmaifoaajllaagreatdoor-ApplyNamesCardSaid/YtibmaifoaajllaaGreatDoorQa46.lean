/- Texts of ours, joined: the steps of the proof, or the claim's theorem. -/
import Derived.Test.YtibmaifoaajllaaGreatDoorQa45
set_option linter.unusedSimpArgs false
set_option linter.unusedVariables false
set_option maxHeartbeats 16000000
namespace Go.Proofs.YtibmaifoaajllaaGreatDoor
open Go Go.Sk Go.RowKit
attribute [local irreducible] Go.Calls
theorem zUO (a b:ByteArray):(a.toList==b.toList)=true↔a=b:=by
 rw[str_eq,decide_eq_true_iff]
 exact⟨zLk,fun h=>by rw[h]⟩
theorem zHf (a b:ByteArray):a.toList=b.toList↔a=b:=by rw[← beq_iff_eq (a:=a.toList),zUO]
theorem zGY {α:Type}[Inhabited α]{l l':List α}(hlen:l.length=l'.length)(h:∀ j,j<l.length→l.getD j default=l'.getD j default):l=l' :=
 List.ext_getElem hlen fun j h1 h2=>by
  have:=h j h1
  simpa [List.getD,h1,h2] using this
theorem st_Acc:Tryz.prog.stoodInHeld 74=false:=by kernel_rfl
theorem eg_Acc:Tryz.prog.eqGuardType Tryz.prog.depth 74=false:=by kernel_rfl
theorem zOT (c d:Ac):((c.name.toList==d.name.toList)&&((c.opn==d.opn)&&true))=true↔c=d:=by
 cases c;cases d
 simp only[Bool.and_eq_true,beq_iff_eq,zHf,and_true,Ac.mk.injEq]
theorem zNC {a a':Option Addr}{cap cap':Nat}(l l':List Ac){F:zH}(w0:World)(hF:Mem w0 F)(hs:SlA F 2 a l.length cap (acl l))(hs':SlA F 2 a' l'.length cap' (acl l')) :
  Calls Tryz.prog 46 [.slice a l.length cap,.slice a' l'.length cap'].toArray w0 (Ret (.bool (@decide (l=l') (Classical.propDecidable _))) w0):=by
 obtain⟨hn,hc,b,off,cs,T,fr,hs⟩:=hs
 obtain⟨hn',hc',b',off',cs',T',fr',hs'⟩:=hs'
 refine enter [.tmp 4] Tryz.func46 rfl Tryz.ntmps46 rfl rfl ?_
 have H:=zB w0
 repeat' (first|refine yT ?_|refine yU ?_|fail)
 refine zJ rfl (fun h=>?_) (fun h=>?_)
 ·repeat' (first|refine yT ?_|refine yU ?_|fail)
  exact zQ rfl H.cl (by
   have:l≠l':=fun he=>by subst he;simp at h
   simp[this])
 ·have hlen:l.length=l'.length:=by simp at h;omega
  repeat' (first|refine yT ?_|refine yU ?_|with_reducible apply zA|fail)
  refine zM [(4,5),(13,25)] (fun k:Nat=>[(13,.int .i64 (k:Int))]) (fun k w=>k≤l.length∧(∀ j,j<k→l.getD j default=l'.getD j default)∧St w0 [] w) (fun k=>l.length - k) 0 ⟨rfl,trivial⟩ ⟨zzD _,fun j hj=>by omega,H⟩ ?_
  clear H
  rintro k g w ⟨hk,hpk,H⟩
  repeat' (first|refine yT ?_|refine yU ?_|fail)
  refine zJ rfl (fun h=>?_) (fun h=>?_)
  ·have hlt:k<l.length:=by simpa using h
   repeat' (first|refine yT ?_|(refine y41 sg (hs) ?_ ?_ ?_;(omega);(omega))|(refine y41 sg (hs') ?_ ?_ ?_;(omega);(omega))|(refine y43 sg (hs) ((H.memF hF)) ?_ ?_;(omega))|(refine y43 sg (hs') ((H.memF hF)) ?_ ?_;(omega))|(refine zP rfl rfl (zEF sg (cs:=(ac_ l k).cells) (ds:=(ac_ l' k).cells) st_Acc eg_Acc rfl rfl rfl rfl rfl rfl rfl) ?_)|refine yU ?_|(with_reducible apply zL;intro w hcl;replace H:=H.ext hcl;clear hcl)|refine y20 mixed ?_|with_reducible apply zA|fail)
   refine zJ rfl (fun h2=>?_) (fun h2=>?_)
   ·rw[Bool.not_eq_true'] at h2
    have hne:=mt (zOT (ac_ l k) (ac_ l' k)).2 (by intro h3;exact absurd (h2.symm.trans h3) (by simp))
    repeat' (first|refine yT ?_|refine yU ?_|fail)
    exact zQ rfl H.cl (by
     have:l≠l':=fun he=>by subst he;exact hne rfl
     simp[this])
   ·rw[Bool.not_eq_false'] at h2
    have heq:ac_ l k=ac_ l' k:=(zOT _ _).1 h2
    repeat' (first|refine yT ?_|refine yU ?_|fail)
    refine zK (k+1) rfl ⟨zZ (by omega),trivial⟩ ⟨hlt,fun j hj=>?_,H⟩ (by omega)
    by_cases hj':j=k
    ·rw[hj'];exact heq
    ·exact hpk j (by omega)
  ·repeat' (first|refine yT ?_|refine yU ?_|fail)
   have hkn:k=l.length:=by simp at h;omega
   subst hkn
   exact zQ rfl H.cl (by
    have:l=l':=zGY hlen hpk
    simp[this])
theorem st_Ins:Tryz.prog.stoodInHeld 76=false:=by kernel_rfl
theorem eg_Ins:Tryz.prog.eqGuardType Tryz.prog.depth 76=false:=by kernel_rfl
theorem zOU (c d:Ins):((c.name.toList==d.name.toList)&&((c.tick==d.tick)&&((c.halted==d.halted)&&true)))=true↔c=d:=by
 cases c;cases d
 simp only[Bool.and_eq_true,beq_iff_eq,zHf,and_true,Ins.mk.injEq]
theorem zND {a a':Option Addr}{cap cap':Nat}(l l':List Ins){F:zH}(w0:World)(hF:Mem w0 F)(hs:SlA F 3 a l.length cap (ing l))(hs':SlA F 3 a' l'.length cap' (ing l')) :
  Calls Tryz.prog 47 [.slice a l.length cap,.slice a' l'.length cap'].toArray w0 (Ret (.bool (@decide (l=l') (Classical.propDecidable _))) w0):=by
 obtain⟨hn,hc,b,off,cs,T,fr,hs⟩:=hs
 obtain⟨hn',hc',b',off',cs',T',fr',hs'⟩:=hs'
 refine enter [.tmp 4] Tryz.func47 rfl Tryz.ntmps47 rfl rfl ?_
 have H:=zB w0
 repeat' (first|refine yT ?_|refine yU ?_|fail)
 refine zJ rfl (fun h=>?_) (fun h=>?_)
 ·repeat' (first|refine yT ?_|refine yU ?_|fail)
  exact zQ rfl H.cl (by
   have:l≠l':=fun he=>by subst he;simp at h
   simp[this])
 ·have hlen:l.length=l'.length:=by simp at h;omega
  repeat' (first|refine yT ?_|refine yU ?_|with_reducible apply zA|fail)
  refine zM [(4,5),(13,25)] (fun k:Nat=>[(13,.int .i64 (k:Int))]) (fun k w=>k≤l.length∧(∀ j,j<k→l.getD j default=l'.getD j default)∧St w0 [] w) (fun k=>l.length - k) 0 ⟨rfl,trivial⟩ ⟨zzD _,fun j hj=>by omega,H⟩ ?_
  clear H
  rintro k g w ⟨hk,hpk,H⟩
  repeat' (first|refine yT ?_|refine yU ?_|fail)
  refine zJ rfl (fun h=>?_) (fun h=>?_)
  ·have hlt:k<l.length:=by simpa using h
   repeat' (first|refine yT ?_|(refine y41 sg (hs) ?_ ?_ ?_;(omega);(omega))|(refine y41 sg (hs') ?_ ?_ ?_;(omega);(omega))|(refine y43 sg (hs) ((H.memF hF)) ?_ ?_;(omega))|(refine y43 sg (hs') ((H.memF hF)) ?_ ?_;(omega))|(refine zP rfl rfl (zEF sg (cs:=(in_ l k).cells) (ds:=(in_ l' k).cells) st_Ins eg_Ins rfl rfl rfl rfl rfl rfl rfl) ?_)|refine yU ?_|(with_reducible apply zL;intro w hcl;replace H:=H.ext hcl;clear hcl)|refine y20 mixed ?_|with_reducible apply zA|fail)
   refine zJ rfl (fun h2=>?_) (fun h2=>?_)
   ·rw[Bool.not_eq_true'] at h2
    have hne:=mt (zOU (in_ l k) (in_ l' k)).2 (by intro h3;exact absurd (h2.symm.trans h3) (by simp))
    repeat' (first|refine yT ?_|refine yU ?_|fail)
    exact zQ rfl H.cl (by
     have:l≠l':=fun he=>by subst he;exact hne rfl
     simp[this])
   ·rw[Bool.not_eq_false'] at h2
    have heq:in_ l k=in_ l' k:=(zOU _ _).1 h2
    repeat' (first|refine yT ?_|refine yU ?_|fail)
    refine zK (k+1) rfl ⟨zZ (by omega),trivial⟩ ⟨hlt,fun j hj=>?_,H⟩ (by omega)
    by_cases hj':j=k
    ·rw[hj'];exact heq
    ·exact hpk j (by omega)
  ·repeat' (first|refine yT ?_|refine yU ?_|fail)
   have hkn:k=l.length:=by simp at h;omega
   subst hkn
   exact zQ rfl H.cl (by
    have:l=l':=zGY hlen hpk
    simp[this])
theorem zSj:Tryz.prog.stoodInHeld 70=false:=by kernel_rfl
theorem zSk:Tryz.prog.eqGuardType Tryz.prog.depth 70=false:=by kernel_rfl
theorem zOV (c d:Row4):((c.acct==d.acct)&&((c.asset==d.asset)&&((c.free==d.free)&&((c.held==d.held)&&true))))=true↔c=d:=by
 cases c;cases d
 simp only[Bool.and_eq_true,beq_iff_eq,zHf,and_true,Row4.mk.injEq]
theorem zNE {a a':Option Addr}{cap cap':Nat}(l l':List Row4){F:zH}(w0:World)(hF:Mem w0 F)(hs:SlA F 4 a l.length cap (rwl l))(hs':SlA F 4 a' l'.length cap' (rwl l')) :
  Calls Tryz.prog 48 [.slice a l.length cap,.slice a' l'.length cap'].toArray w0 (Ret (.bool (@decide (l=l') (Classical.propDecidable _))) w0):=by
 obtain⟨hn,hc,b,off,cs,T,fr,hs⟩:=hs
 obtain⟨hn',hc',b',off',cs',T',fr',hs'⟩:=hs'
 refine enter [.tmp 4] Tryz.func48 rfl Tryz.ntmps48 rfl rfl ?_
 have H:=zB w0
 repeat' (first|refine yT ?_|refine yU ?_|fail)
 refine zJ rfl (fun h=>?_) (fun h=>?_)
 ·repeat' (first|refine yT ?_|refine yU ?_|fail)
  exact zQ rfl H.cl (by
   have:l≠l':=fun he=>by subst he;simp at h
   simp[this])
 ·have hlen:l.length=l'.length:=by simp at h;omega
  repeat' (first|refine yT ?_|refine yU ?_|with_reducible apply zA|fail)
  refine zM [(4,5),(13,25)] (fun k:Nat=>[(13,.int .i64 (k:Int))]) (fun k w=>k≤l.length∧(∀ j,j<k→l.getD j default=l'.getD j default)∧St w0 [] w) (fun k=>l.length - k) 0 ⟨rfl,trivial⟩ ⟨zzD _,fun j hj=>by omega,H⟩ ?_
  clear H
  rintro k g w ⟨hk,hpk,H⟩
  repeat' (first|refine yT ?_|refine yU ?_|fail)
  refine zJ rfl (fun h=>?_) (fun h=>?_)
  ·have hlt:k<l.length:=by simpa using h
   repeat' (first|refine yT ?_|(refine y41 sg (hs) ?_ ?_ ?_;(omega);(omega))|(refine y41 sg (hs') ?_ ?_ ?_;(omega);(omega))|(refine y43 sg (hs) ((H.memF hF)) ?_ ?_;(omega))|(refine y43 sg (hs') ((H.memF hF)) ?_ ?_;(omega))|(refine zP rfl rfl (zEF sg (cs:=(rw_ l k).cells) (ds:=(rw_ l' k).cells) zSj zSk rfl rfl rfl rfl rfl rfl rfl) ?_)|refine yU ?_|(with_reducible apply zL;intro w hcl;replace H:=H.ext hcl;clear hcl)|refine y20 mixed ?_|with_reducible apply zA|fail)
   refine zJ rfl (fun h2=>?_) (fun h2=>?_)
   ·rw[Bool.not_eq_true'] at h2
    have hne:=mt (zOV (rw_ l k) (rw_ l' k)).2 (by intro h3;exact absurd (h2.symm.trans h3) (by simp))
    repeat' (first|refine yT ?_|refine yU ?_|fail)
    exact zQ rfl H.cl (by
     have:l≠l':=fun he=>by subst he;exact hne rfl
     simp[this])
   ·rw[Bool.not_eq_false'] at h2
    have heq:rw_ l k=rw_ l' k:=(zOV _ _).1 h2
    repeat' (first|refine yT ?_|refine yU ?_|fail)
    refine zK (k+1) rfl ⟨zZ (by omega),trivial⟩ ⟨hlt,fun j hj=>?_,H⟩ (by omega)
    by_cases hj':j=k
    ·rw[hj'];exact heq
    ·exact hpk j (by omega)
  ·repeat' (first|refine yT ?_|refine yU ?_|fail)
   have hkn:k=l.length:=by simp at h;omega
   subst hkn
   exact zQ rfl H.cl (by
    have:l=l':=zGY hlen hpk
    simp[this])
theorem zKW:Tryz.prog.stoodInHeld 43=false:=by kernel_rfl
theorem zKX:Tryz.prog.eqGuardType Tryz.prog.depth 43=false:=by kernel_rfl
theorem zOW (c d:Odr):((c.id==d.id)&&((c.acct==d.acct)&&((c.inst==d.inst)&&((c.side==d.side)&&((c.price==d.price)&&((c.left==d.left)&&true))))))=true↔c=d:=by
 cases c;cases d
 simp only[Bool.and_eq_true,beq_iff_eq,zHf,and_true,Odr.mk.injEq]
theorem zNF {a a':Option Addr}{cap cap':Nat}(l l':List Odr){F:zH}(w0:World)(hF:Mem w0 F)(hs:SlA F 6 a l.length cap (odl l))(hs':SlA F 6 a' l'.length cap' (odl l')) :
  Calls Tryz.prog 49 [.slice a l.length cap,.slice a' l'.length cap'].toArray w0 (Ret (.bool (@decide (l=l') (Classical.propDecidable _))) w0):=by
 obtain⟨hn,hc,b,off,cs,T,fr,hs⟩:=hs
 obtain⟨hn',hc',b',off',cs',T',fr',hs'⟩:=hs'
 refine enter [.tmp 4] Tryz.func49 rfl Tryz.ntmps49 rfl rfl ?_
 have H:=zB w0
 repeat' (first|refine yT ?_|refine yU ?_|fail)
 refine zJ rfl (fun h=>?_) (fun h=>?_)
 ·repeat' (first|refine yT ?_|refine yU ?_|fail)
  exact zQ rfl H.cl (by
   have:l≠l':=fun he=>by subst he;simp at h
   simp[this])
 ·have hlen:l.length=l'.length:=by simp at h;omega
  repeat' (first|refine yT ?_|refine yU ?_|with_reducible apply zA|fail)
  refine zM [(4,5),(13,25)] (fun k:Nat=>[(13,.int .i64 (k:Int))]) (fun k w=>k≤l.length∧(∀ j,j<k→l.getD j default=l'.getD j default)∧St w0 [] w) (fun k=>l.length - k) 0 ⟨rfl,trivial⟩ ⟨zzD _,fun j hj=>by omega,H⟩ ?_
  clear H
  rintro k g w ⟨hk,hpk,H⟩
  repeat' (first|refine yT ?_|refine yU ?_|fail)
  refine zJ rfl (fun h=>?_) (fun h=>?_)
  ·have hlt:k<l.length:=by simpa using h
   repeat' (first|refine yT ?_|(refine y41 sg (hs) ?_ ?_ ?_;(omega);(omega))|(refine y41 sg (hs') ?_ ?_ ?_;(omega);(omega))|(refine y43 sg (hs) ((H.memF hF)) ?_ ?_;(omega))|(refine y43 sg (hs') ((H.memF hF)) ?_ ?_;(omega))|(refine zP rfl rfl (zEF sg (cs:=(od_ l k).cells) (ds:=(od_ l' k).cells) zKW zKX rfl rfl rfl rfl rfl rfl rfl) ?_)|refine yU ?_|(with_reducible apply zL;intro w hcl;replace H:=H.ext hcl;clear hcl)|refine y20 mixed ?_|with_reducible apply zA|fail)
   refine zJ rfl (fun h2=>?_) (fun h2=>?_)
   ·rw[Bool.not_eq_true'] at h2
    have hne:=mt (zOW (od_ l k) (od_ l' k)).2 (by intro h3;exact absurd (h2.symm.trans h3) (by simp))
    repeat' (first|refine yT ?_|refine yU ?_|fail)
    exact zQ rfl H.cl (by
     have:l≠l':=fun he=>by subst he;exact hne rfl
     simp[this])
   ·rw[Bool.not_eq_false'] at h2
    have heq:od_ l k=od_ l' k:=(zOW _ _).1 h2
    repeat' (first|refine yT ?_|refine yU ?_|fail)
    refine zK (k+1) rfl ⟨zZ (by omega),trivial⟩ ⟨hlt,fun j hj=>?_,H⟩ (by omega)
    by_cases hj':j=k
    ·rw[hj'];exact heq
    ·exact hpk j (by omega)
  ·repeat' (first|refine yT ?_|refine yU ?_|fail)
   have hkn:k=l.length:=by simp at h;omega
   subst hkn
   exact zQ rfl H.cl (by
    have:l=l':=zGY hlen hpk
    simp[this])
noncomputable def zFy {α:Type} (x y:α):Bool:=@decide (x=y) (Classical.propDecidable _)
theorem zD1 {α:Type}{x y:α}:zFy x y=true↔x=y:=by unfold zFy;exact @decide_eq_true_iff _ (Classical.propDecidable _)
theorem zOX {α:Type}{x y:α}(h:x≠y):zFy x y=false:=by cases hb:zFy x y;rfl;exact absurd (zD1.1 hb) h
theorem zJQ (x y:Auc):zNh x y=true↔x=y:=by
 cases x;cases y
 simp only[zNh,Bool.and_eq_true,beq_iff_eq,decide_eq_true_iff,Auc.mk.injEq,and_assoc]
theorem zNG {a a':Option Addr}{cap cap':Nat}(l l':List Auc){ad ad':Nat→Option Addr × Nat}{F:zH}(w0:World)(hF:Mem w0 F)(hs:Aucs F a cap l ad)(hs':Aucs F a' cap' l' ad') :
  Calls Tryz.prog 50 [.slice a l.length cap,.slice a' l'.length cap',.func (.func 51) #[] #[]].toArray w0 (Ret (.bool (zFy l l')) w0):=by
 obtain⟨⟨hn,hc,b,off,cs,T,fr,hs⟩,hb⟩:=hs
 obtain⟨⟨hn',hc',b',off',cs',T',fr',hs'⟩,hb'⟩:=hs'
 refine enter [.tmp 6] Tryz.func50 rfl Tryz.ntmps50 rfl rfl ?_
 have H:=zB w0
 repeat' (first|refine yT ?_|refine yU ?_|fail)
 refine zJ rfl (fun h=>?_) (fun h=>?_)
 ·repeat' (first|refine yT ?_|refine yU ?_|fail)
  exact zQ rfl H.cl (by
   have:l≠l':=fun he=>by subst he;simp at h
   rw[zOX this])
 ·have hlen:l.length=l'.length:=by simp at h;omega
  repeat' (first|refine yT ?_|refine yU ?_|with_reducible apply zA|fail)
  refine zM [(6,9),(17,31)] (fun k:Nat=>[(17,.int .i64 (k:Int))]) (fun k w=>k≤l.length∧(∀ j,j<k→l.getD j default=l'.getD j default)∧St w0 [] w) (fun k=>l.length - k) 0 ⟨rfl,trivial⟩ ⟨zzD _,fun j hj=>by omega,H⟩ ?_
  clear H
  rintro k g w ⟨hk,hpk,H⟩
  repeat' (first|refine yT ?_|refine yU ?_|fail)
  refine zJ rfl (fun h=>?_) (fun h=>?_)
  ·have hlt:k<l.length:=by simpa using h
   repeat' (first|refine yT ?_|refine y7 sg H ?_|(refine y10 sg H ?_;intro b w H)|(refine y11 sg H ?_;intro w H)|(refine y40 sg (hs) ?_ ?_ ?_;(omega);(omega))|(refine y40 sg (hs') ?_ ?_ ?_;(omega);(omega))|(refine y42 sg (hs) ((H.memF hF)) ?_ ?_;(omega))|(refine y42 sg (hs') ((H.memF hF)) ?_ ?_;(omega))|(refine' y34 ent51 ?_ ?_;rotate_left;exact c_Same (l.getD k default) (l'.getD k default) _ (H.memF hF) (hb k hlt) (hb' k (by omega));intro w hcl;replace H:=H.ext hcl;clear hcl)|refine yU ?_|with_reducible apply zA|fail)
   refine zJ rfl (fun h2=>?_) (fun h2=>?_)
   ·have hne:l.getD k default≠l'.getD k default:=fun he=>by rw[(zJQ _ _).2 he] at h2;cases h2
    repeat' (first|refine yT ?_|refine yU ?_|fail)
    exact zQ rfl H.cl (by
     have:l≠l':=fun he=>by subst he;exact hne rfl
     rw[zOX this])
   ·have heq:=(zJQ (l.getD k default) (l'.getD k default)).1 (by simpa using h2)
    repeat' (first|refine yT ?_|refine yU ?_|fail)
    refine zK (k+1) rfl ⟨zZ (by omega),trivial⟩ ⟨hlt,fun j hj=>?_,(H.sub (zz7 _ _)).sub (zz7 _ _)⟩ (by omega)
    by_cases hj':j=k
    ·rw[hj'];exact heq
    ·exact hpk j (by omega)
  ·repeat' (first|refine yT ?_|refine yU ?_|fail)
   have hkn:k=l.length:=by simp at h;omega
   subst hkn
   exact zQ rfl H.cl (by
    have:l=l':=zGY hlen hpk
    rw[zD1.2 this])
theorem zId {F:zH}(s t:Sta)(p q:SPt)(w0:World)(hF:Mem w0 F)(hs:StaM F s p)(ht:StaM F t q) :
  Calls Tryz.prog 28 [.agg (s.cells p).toArray,.agg (t.cells q).toArray].toArray w0 (Ret (.bool (zFy s t)) w0):=by
 have hq:zFy s t=(s.clock==t.clock&&s.fee==t.fee&&s.nextO==t.nextO&&s.nextA==t.nextA&&zFy s.accts t.accts&&zFy s.insts t.insts&&zFy s.rows t.rows&&zFy s.orders t.orders&&zFy s.aucs t.aucs):=by
  rw[Bool.eq_iff_iff,zD1]
  cases s;cases t
  simp only[Bool.and_eq_true,beq_iff_eq,zD1,Sta.mk.injEq,and_assoc]
 rw[hq]
 refine enter [.tmp 4] Tryz.func28 rfl Tryz.ntmps28 rfl rfl ?_
 have H:=zB w0
 repeat' (first|refine yT ?_|refine y7 sg H ?_|(refine y9 H ?_;intro b w H)|(refine' y30 ent46 ?_ ?_;rotate_left;exact zNC s.accts t.accts _ (H.memF hF) hs.ac ht.ac;intro w hcl;replace H:=H.ext hcl;clear hcl)|(refine' y30 ent47 ?_ ?_;rotate_left;exact zND s.insts t.insts _ (H.memF hF) hs.ins ht.ins;intro w hcl;replace H:=H.ext hcl;clear hcl)|(refine' y30 ent48 ?_ ?_;rotate_left;exact zNE s.rows t.rows _ (H.memF hF) hs.rw ht.rw;intro w hcl;replace H:=H.ext hcl;clear hcl)|(refine' y30 ent49 ?_ ?_;rotate_left;exact zNF s.orders t.orders _ (H.memF hF) hs.od ht.od;intro w hcl;replace H:=H.ext hcl;clear hcl)|(refine' y30 ent50 ?_ ?_;rotate_left;exact zNG s.aucs t.aucs _ (H.memF hF) hs.au ht.au;intro w hcl;replace H:=H.ext hcl;clear hcl)|refine yU ?_|(refine y17 ?_ ?_;all_goals intro h)|fail)
 all_goals exact zQ rfl H.cl (congrArg Value.bool (by unfold zFy at *;simp only[*,Bool.true_and,Bool.and_true,Bool.false_and,Bool.and_false]))
end Go.Proofs.YtibmaifoaajllaaGreatDoor
