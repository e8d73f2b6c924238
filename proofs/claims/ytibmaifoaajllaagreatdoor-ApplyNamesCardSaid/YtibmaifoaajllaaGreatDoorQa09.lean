/- Texts of ours, joined: the steps of the proof, or the claim's theorem. -/
import Derived.Test.YtibmaifoaajllaaGreatDoorQa04
set_option linter.unusedSimpArgs false
set_option linter.unusedVariables false
set_option maxHeartbeats 16000000
namespace Go.Proofs.YtibmaifoaajllaaGreatDoor
open Go Go.Sk Go.RowKit
theorem und26:Tryz.prog.underlying 91=some (.struct (Tryz.prog.fieldsOf 91)):=by kernel_rfl
theorem fs26:(Tryz.prog.fieldsOf 91).toList=[⟨ "Acct",3,0,false,"","",0⟩,⟨ "Amount",2,1,false,"","",8⟩]:=by kernel_rfl
theorem st26:Tryz.prog.stoodInHeld 91=false:=by kernel_rfl
theorem eg26:Tryz.prog.eqGuardType Tryz.prog.depth 91=false:=by kernel_rfl
theorem zOv (c d:Bid)(w:World):(Op.equalIn 10000 91 (.agg c.cells.toArray) (.agg d.cells.toArray)).run Tryz.prog w=.ok (c==d) w:=by
 rw[show(10000:Nat)=9999+1 from rfl,run_equalIn_struct w 9999 _ _ _ und26 st26,fs26]
 have p0:∀ (b:Bid) (w:World),(part 3 b.cells.toArray 0).run Tryz.prog w=.ok (.int .i64 b.acct) w:=fun b w=>zC0 sg (ti:=⟨.int .i64,1,[.int .i64 0],8⟩) rfl _ _ rfl w
 have p1:∀ (b:Bid) (w:World),(part 2 b.cells.toArray 1).run Tryz.prog w=.ok (.int .i64 b.amount) w:=fun b w=>zC0 sg (ti:=⟨.int .i64,1,[.int .i64 0],8⟩) rfl _ _ rfl w
 have q3:∀ (x y:Int) (w:World),(Op.equalIn 9999 3 (.int .i64 x) (.int .i64 y)).run Tryz.prog w=.ok (x==y) w:=fun x y w=>run_equalIn_int w 9998 _ .i64 .i64 x y Tryz.underlying3
 have q2:∀ (x y:Int) (w:World),(Op.equalIn 9999 2 (.int .i64 x) (.int .i64 y)).run Tryz.prog w=.ok (x==y) w:=fun x y w=>run_equalIn_int w 9998 _ .i64 .i64 x y Tryz.underlying2
 have n0:("Acct"≠"_"):=by decide
 have n1:("Amount"≠"_"):=by decide
 simp only[Op.eqFields,n0,n1,ne_eq,not_false_eq_true,if_true,Sem.run_bind,p0,q3,Result.andThen_ok]
 obtain⟨a,b⟩:=c
 obtain⟨x,y⟩:=d
 simp only[]
 by_cases h1:a=x
 ·by_cases h2:b=y
  ·simp[h1,h2,p1,q2]
  ·simp[h1,h2,p1,q2]
 ·simp[h1]
theorem Yq.neqBid {o:Oper}{e:Env}{w:World}{x y:Operand}{yT:TypeId}(c d:Bid)(ho:o.op=.binOp .neq 91 x y yT)(hx:nf (ev e x)=some (.agg c.cells.toArray))(hy:nf (ev e y)=some (.agg d.cells.toArray)) :
  Yq Tryz.prog o e w (.bool (!(c==d))):=by
 have hx:=zBo hx
 have hy:=zBo hy
 refine Yq.of fun w'=>?_
 simp only[execOp,ho,hx,hy,Sem.run_bind,run_eqGuard_agg w' _ _ _ _ _ _ eg26,Result.andThen_ok,run_neq_struct,zOv,Sem.run_pure]
theorem zMK {a a':Option Addr}{cap cap':Nat}(l l':List Bid){F:zH}(w0:World)(hF:Mem w0 F)(hs:Bids F a cap l)(hs':Bids F a' cap' l') :
  Calls Tryz.prog 85 [.slice a l.length cap,.slice a' l'.length cap'].toArray w0 (Ret (.bool (decide (l=l'))) w0):=by
 obtain⟨hn,hc,b,off,cs,T,fr,hs⟩:=hs
 obtain⟨hn',hc',b',off',cs',T',fr',hs'⟩:=hs'
 refine enter [.tmp 4] Tryz.func85 rfl Tryz.ntmps85 rfl rfl ?_
 have H:=zB w0
 repeat' (first|refine yT ?_|refine yU ?_|fail)
 refine zJ rfl (fun h=>?_) (fun h=>?_)
 ·repeat' (first|refine yT ?_|refine yU ?_|fail)
  exact zQ rfl H.cl (by
   have:l≠l':=fun he=>by subst he;simp at h
   simp[this])
 ·have hlen:l.length=l'.length:=by simp at h;omega
  repeat' (first|refine yT ?_|refine yU ?_|with_reducible apply zA|fail)
  refine zM [(4,5),(13,25)] (fun k:Nat=>[(13,.int .i64 (k:Int))]) (fun k w=>k≤l.length∧(∀ j,j<k→l.getD j default=l'.getD j default)∧St w0 [] w) (fun k=>l.length - k) 0 ⟨rfl,trivial⟩ ⟨zzD _,fun j hj=>by omega,H⟩ ?_
  clear H
  rintro k g w ⟨hk,hpk,H⟩
  repeat' (first|refine yT ?_|refine yU ?_|fail)
  refine zJ rfl (fun h=>?_) (fun h=>?_)
  ·have hlt:k<l.length:=by simpa using h
   repeat' (first|refine yT ?_|(refine y41 sg (hs) ?_ ?_ ?_;(omega);(omega))|(refine y41 sg (hs') ?_ ?_ ?_;(omega);(omega))|(refine y43 sg (hs) ((H.memF hF)) ?_ ?_;(omega))|(refine y43 sg (hs') ((H.memF hF)) ?_ ?_;(omega))|(refine zP rfl rfl (Yq.neqBid (l.getD k default) (l'.getD k default) rfl rfl rfl) ?_)|refine yU ?_|(with_reducible apply zL;intro w hcl;replace H:=H.ext hcl;clear hcl)|refine y20 mixed ?_|with_reducible apply zA|fail)
   refine zJ rfl (fun h2=>?_) (fun h2=>?_)
   ·repeat' (first|refine yT ?_|refine yU ?_|fail)
    exact zQ rfl H.cl (by
     have:l≠l':=fun he=>by subst he;simp at h2
     simp[this])
   ·repeat' (first|refine yT ?_|refine yU ?_|fail)
    refine zK (k+1) rfl ⟨zZ (by omega),trivial⟩ ⟨hlt,fun j hj=>?_,H⟩ (by omega)
    by_cases hj':j=k
    ·rw[hj'];simpa using h2
    ·exact hpk j (by omega)
  ·repeat' (first|refine yT ?_|refine yU ?_|fail)
   have hkn:k=l.length:=by simp at h;omega
   subst hkn
   exact zQ rfl H.cl (by
    have:l=l':=List.ext_getElem hlen fun j h1 h2=>by
     have:=hpk j h1
     simpa [List.getD,h1,h2] using this
    simp[this])
def zCY (l:List Bid):Nat→Int
 | 0=>-1
 | k+1=>if zCY l k<0∨(l.getD k default).amount>(l.getD (zCY l k).toNat default).amount then(k:Int) else zCY l k
def hi (l:List Bid):Int:=zCY l l.length
theorem zEG (l:List Bid)(k:Nat):-1≤zCY l k∧zCY l k<k:=by
 induction k with
 | zero=>exact⟨by simp[zCY],by simp[zCY]⟩
 | succ k ih=>rw[zCY];split<;>constructor<;>omega
theorem zIz {a:Option Addr}{cap:Nat}(l:List Bid){F:zH}(w0:World)(hF:Mem w0 F)(hs:Bids F a cap l) :
  Calls Tryz.prog 220 [.slice a l.length cap].toArray w0 (Ret (.int .i64 (hi l)) w0):=by
 obtain⟨hn,hc,b,off,cs,T,fr,hs⟩:=hs
 refine enter [.tmp 2] Tryz.func220 rfl Tryz.ntmps220 rfl rfl ?_
 have H:=zB w0
 repeat' (first|refine yT ?_|refine yU ?_|with_reducible apply zA|fail)
 refine zM [(3,5),(8,26)] (fun k:Nat=>[(8,.int .i64 (k:Int)),(3,.int .i64 (zCY l k))]) (fun k w=>k≤l.length∧St w0 [] w) (fun k=>l.length - k) 0 ⟨rfl,rfl,trivial⟩ ⟨zzD _,H⟩ ?_
 clear H
 rintro k g w ⟨hk,H⟩
 have hb:=zEG l k
 repeat' (first|refine yT ?_|refine yU ?_|fail)
 refine zJ rfl (fun h=>?_) (fun h=>?_)
 ·have hlt:k<l.length:=by simpa using h
  repeat' (first|refine yT ?_|refine y8 sg H ?_|(refine y10 sg H ?_;intro b w H)|(refine y11 sg H ?_;intro w H)|(refine y40 sg (hs) ?_ ?_ ?_;(omega);(omega))|(refine y41 sg (hs) ?_ ?_ ?_;(simp at h;omega);(omega))|(refine y42 sg (hs) ((H.memF hF)) ?_ ?_;(omega))|(refine y45 sg (hs) ((H.memF hF)) ?_ ?_;(simp at h;omega))|refine yU ?_|(refine y18 ?_ ?_;all_goals intro h)|(with_reducible apply zL;intro w hcl;replace H:=H.ext hcl;clear hcl)|refine y20 mixed ?_|with_reducible apply zA|fail)
  ·refine zK (k+1) rfl ⟨zZ (by omega),?_,trivial⟩ ⟨hlt,H.sub (zz9 _)⟩ (by omega)
   show Value.int .i64 (k:Int)=_
   rw[zCY,if_pos (.inl (of_decide_eq_true h))]
  ·refine zJ rfl (fun h2=>?_) (fun h2=>?_)
   ·repeat' (first|refine yT ?_|refine yU ?_|fail)
    refine zK (k+1) rfl ⟨zZ (by omega),?_,trivial⟩ ⟨hlt,H.sub (zz9 _)⟩ (by omega)
    show Value.int .i64 (k:Int)=_
    rw[zCY,if_pos (.inr (of_decide_eq_true h2))]
   ·repeat' (first|refine yT ?_|refine yU ?_|fail)
    refine zK (k+1) rfl ⟨zZ (by omega),?_,trivial⟩ ⟨hlt,H.sub (zz9 _)⟩ (by omega)
    show Value.int .i64 (zCY l k)=_
    rw[zCY,if_neg (fun hc=>hc.elim (fun h3=>by simp at h;omega) (fun h3=>of_decide_eq_false h2 h3))]
 ·have hkn:k=l.length:=by simp at h;omega
  subst hkn
  repeat' (first|refine yT ?_|refine yU ?_|fail)
  exact zQ rfl H.cl rfl
def zBQ (x:Auc)(j:Nat):Bool :=
 !zp (x.bids.getD j default).acct 64||(x.bids.getD j default).acct==x.seller||!zp (x.bids.getD j default).amount 1125899906842624 ||
  decide (idx (fun i=>(x.bids.getD i default).acct==(x.bids.getD j default).acct) j ≥ 0)
def zCE (x:Auc):Bool:=decide (idx (zBQ x) x.bids.length<0)
theorem Bids.cut {F:zH}{a:Option Addr}{cap n b off:Nat}{cs:List Value}{T:TypeId}{fr:Nat × Nat}{el:Nat→List Value}(h1:n≤cap)(h2:n≤140737488355328)(h:SlB F 2 a n b off cs T fr el){m:Nat}(hm:m≤n):SlA F 2 a m cap el :=
 ⟨by omega,by omega,b,off,cs,T,fr,h.cut hm⟩
theorem zQ4 {a:Option Addr}{cap:Nat}(x:Auc){F:zH}(w0:World)(hF:Mem w0 F)(hs:Bids F a cap x.bids) :
  Calls Tryz.prog 135 [.agg (x.cells a cap).toArray].toArray w0 (Ret (.bool (zCE x)) w0):=by
 obtain⟨hn,hc,b0,off,cs,T,fr,hs⟩:=hs
 refine enter [.tmp 2] Tryz.func135 rfl Tryz.ntmps135 rfl rfl ?_
 have H:=zB w0
 repeat' (first|refine yT ?_|refine y7 sg H ?_|(refine y9 H ?_;intro b w H)|refine yU ?_|with_reducible apply zA|fail)
 refine zM [(2,5),(9,40)] (fun k:Nat=>[(9,.int .i64 (k:Int))]) (fun k w=>k≤x.bids.length∧(∀ j,j<k→zBQ x j=false)∧St w0 [cb b (x.cells a cap) 62] w) (fun k=>x.bids.length - k) 0 ⟨rfl,trivial⟩ ⟨zzD _,fun j hj=>by omega,H⟩ ?_
 clear H
 rintro k g w ⟨hk,hpk,H⟩
 repeat' (first|refine yT ?_|refine yU ?_|fail)
 refine zJ rfl (fun h=>?_) (fun h=>?_)
 ·have hlt:k<x.bids.length:=by simpa using h
  repeat' (first|refine yT ?_|refine y7 sg H ?_|(refine y10 sg H ?_;intro b w H)|(refine y11 sg H ?_;intro w H)|(refine y40 sg (hs) ?_ ?_ ?_;(omega);(omega))|(refine y42 sg (hs) ((H.memF hF)) ?_ ?_;(omega))|(refine' y30 zHp ?_ ?_;rotate_left;exact zDt _ _ _;intro w hcl;replace H:=H.ext hcl;clear hcl)|(refine' y30 zGg ?_ ?_;rotate_left;exact zCW _ _ _;intro w hcl;replace H:=H.ext hcl;clear hcl)|(refine zf rfl rfl (Yq.sliceHi sg rfl rfl rfl rfl rfl rfl (zz1 _) (by omega) (by omega)) ?_)|(refine OX.call rfl rfl (En.fn zL8 rfl rfl) (zDj (caps:=[.pointer (some ⟨_,0,none⟩)]) (fun i=>(x.bids.getD i default).acct==(x.bids.getD k default).acct) _ (H.all hF) (Bids.cut hn hc (hs.mono (zz8 _ _)) (Nat.le_of_lt hlt)) ent185 (fun j hj w hw=>zTG (x.bids.getD j default) (x.bids.getD k default) 91 _ _ _ (H.ext hw).mem (zz2 _))) ?_;intro w hcl;replace H:=H.ext hcl;clear hcl)|refine yU ?_|(refine y17 ?_ ?_;all_goals intro h)|with_reducible apply zA|(refine y23 ?_ ?_;all_goals intro h)|fail)
  all_goals first
   | exact zQ rfl H.cl (by
     have hbad:zBQ x k=true:=by simp only[zBQ, *];simp
     rw[zCE,zBx hlt hpk hbad];simp)
   | (refine zK (k+1) rfl ⟨zZ (by omega),trivial⟩ ⟨hlt,fun j hj=>?_,H.sub (zz7 _ _)⟩ (by omega)
      by_cases hj':j=k
      ·have hbad:zBQ x k=false:=by simp only[zBQ, *];simp
       rw[hj'];exact hbad
      ·exact hpk j (by omega))
 ·repeat' (first|refine yT ?_|refine yU ?_|fail)
  have hkn:k=x.bids.length:=by simp at h;omega
  subst hkn
  exact zQ rfl H.cl (by rw[zCE,zBB hpk];rfl)
end Go.Proofs.YtibmaifoaajllaaGreatDoor
