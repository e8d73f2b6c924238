/- DecideNames: the order that trades with all of them, trade by trade. -/
import Derived.Test.YthbflajpdhgfiaaGreatDoorQdDecideNamesa
set_option linter.all false
set_option maxHeartbeats 16000000
namespace Go.Proofs.YthbflajpdhgfiaaGreatDoor
open Go Go.Sk Go.RowKit
def sT (n j:Nat):Sta:=⟨0,100,(n:Int)+2,1,[⟨⟨#[97]⟩,true⟩,⟨⟨#[98]⟩,true⟩,⟨⟨#[99]⟩,true⟩],[⟨⟨#[103,111,108,100]⟩,1,false⟩],[⟨0,0,-3000,0⟩,⟨0,1,-100,0⟩,⟨1,0,1000+5*j,0⟩,⟨1,1,50 - n,(n:Int) - j⟩,⟨2,0,760+j,240 - 6*j⟩,⟨2,1,50+j,0⟩,⟨3,0,1000,0⟩],((List.range (n - j)).map fun(i:Nat)=>(⟨(i:Int)+j+1,1,1,2,5,1⟩:Odr))++[⟨(n:Int)+1,2,1,1,6,40 - j⟩],[]⟩
def dnEv (n j:Nat):Evt:=evF 13 [(n:Int)+1,(j:Int)+1,5,1,0]
def dnF (n:Nat):Evt:=evF 11 [(n:Int)+1,2,1,1,6,40]
def evsT (n:Nat):Nat→Nat→List Evt
 | _,0=>[]
 | j,m+1=>dnEv n j::evsT n (j+1) m
def trB (n j:Nat):Bool:=(match zE5 (sT n j) ((n:Int)+1) with|none=>false|some e=>evLB [e] [dnEv n j])&&(zN (sT n j) (dnEv n j)).2==0&&staB (zN (sT n j) (dnEv n j)).1 (sT n (j+1))
def fsB (n:Nat):Bool:=evLB [(zc (dnS n) dnAll).1] [dnF n]&&(zc (dnS n) dnAll).2==0&&(zN (dnS n) (dnF n)).2==0&&staB (zN (dnS n) (dnF n)).1 (sT n 0)
theorem tr_f {n j:Nat}(h:trB n j=true):zE5 (sT n j) ((n:Int)+1)=some (dnEv n j)∧zN (sT n j) (dnEv n j)=(sT n (j+1),0):=by
 unfold trB at h
 simp only[Bool.and_eq_true,beq_iff_eq] at h
 obtain⟨⟨h1,h2⟩,h3⟩:=h
 refine⟨?_,Prod.ext (sta_eq h3) h2⟩
 cases ht:zE5 (sT n j) ((n:Int)+1) with
 | none=>rw[ht] at h1;cases h1
 | some e =>
   rw[ht] at h1
   rw[(List.cons.inj (evL_eq h1)).1]
theorem evsT_len (n:Nat):∀ m j,(evsT n j m).length=m
 | 0,_=>rfl
 | m+1,j=>by rw[evsT,List.length_cons,evsT_len n m]
theorem beh_tr {n:Nat}(h:∀ j,j<31→trB n j=true):∀ (m j k:Nat) (l:List Evt),j+m=31→l.length=j+1→zFn (trN ((n:Int)+1)) true (k+m) ⟨[],sT n j,l⟩=zFn (trN ((n:Int)+1)) true k ⟨[],sT n 31,l++evsT n j m⟩
 | 0,j,k,l,hj,_=>by
   obtain rfl:j=31:=by omega
   rw[evsT,List.append_nil]
   rfl
 | m+1,j,k,l,hj,hl=>by
   obtain⟨h1,h2⟩:=tr_f (h j qO)
   have e:trN ((n:Int)+1) ⟨[],sT n j,l⟩=some (dnEv n j):=h1
   rw[show k+(m+1)=(k+m)+1 from rfl,zFn]
   rw[e]
   show(if true=true∧31<l.length then _ else if (zN (sT n j) (dnEv n j)).2≠0 then _ else _)=_
   rw[if_neg qO,if_neg (by rw[h2];exact fun g=>g rfl)]
   have eg:WS.go ⟨[],sT n j,l⟩ (dnEv n j)=⟨[],sT n (j+1),l++[dnEv n j]⟩:=by
    show(⟨[],(zN (sT n j) (dnEv n j)).1,l++[dnEv n j]⟩:WS)=_
    rw[h2]
   rw[eg,beh_tr h m (j+1) k _ qO (by rw[List.length_append,hl];rfl),List.append_assoc]
   rfl
theorem cmd_tr {n:Nat}(hf:fsB n=true)(h:∀ j,j<31→trB n j=true):zBC (dnS n) dnAll=zFn (trN ((n:Int)+1)) true 9 ⟨[],sT n 31,dnF n::evsT n 0 31⟩∧zN (dnS n) (dnF n)=(sT n 0,0):=by
 unfold fsB at hf
 simp only[Bool.and_eq_true,beq_iff_eq] at hf
 obtain⟨⟨⟨h1,h2⟩,h3⟩,h4⟩:=hf
 have e1:=(List.cons.inj (evL_eq h1)).1
 have e2:zN (dnS n) (dnF n)=(sT n 0,0):=Prod.ext (sta_eq h4) h3
 refine⟨?_,e2⟩
 unfold zBC
 simp only
 rw[if_neg (by rw[h2];exact fun g=>g rfl),e1,e2,if_neg (fun g=>g rfl),if_pos (show(dnF n).kind=11 from rfl)]
 exact beh_tr h 31 0 9 [dnF n] rfl rfl
theorem hap_ev {s t:Sta}{e:Evt}(h:zN s e=(t,0)):zCY s=true∧zAN s e=(t,0):=by
 have g:=zBB.2 (zCm h).1
 refine⟨g,?_⟩
 unfold zN at h
 rwa [if_pos g] at h
theorem all_tr {n:Nat}(h:∀ j,j<31→trB n j=true):∀ (m j:Nat) (i:Int),j+m=31→(zBA (sT n j) (evsT n j m) i).1=sT n 31∧(zBA (sT n j) (evsT n j m) i).2.2=0
 | 0,j,i,hj=>by
   obtain rfl:j=31:=by omega
   exact⟨rfl,rfl⟩
 | m+1,j,i,hj=>by
   obtain⟨_,h2⟩:=tr_f (h j qO)
   obtain⟨_,h3⟩:=hap_ev h2
   rw[evsT,zBA,if_pos (by rw[h3]),h3]
   exact all_tr h m (j+1) (i+1) qO
end Go.Proofs.YthbflajpdhgfiaaGreatDoor
