/- DecideNames: its examples, in plain words. -/
import Derived.Test.YthbflajpdhgfiaaGreatDoorQd33
set_option linter.all false
set_option maxHeartbeats 16000000
namespace Go.Proofs.YthbflajpdhgfiaaGreatDoor
open Go Go.Sk Go.RowKit
def dnL:List Cmd:=zGk++[cmF 11 [1,1,2,11,3],cmF 11 [1,1,2,10,2],cmF 15 [1,1,4,20,30],cmF 13 [1,1,4,20,5,40]]
def dnB:List (Cmd × Evt):=[(cmN 1 ⟨#[100]⟩ [],⟨3,1,[4],[⟨#[100]⟩]⟩),(cmN 3 ⟨#[116,105,110]⟩ [7],⟨3,3,[2,7],[⟨#[116,105,110]⟩]⟩),(cmN 19 ⟨#[101]⟩ [2],⟨3,22,[2],[⟨#[101]⟩]⟩),(cmF 4 [1],evF 4 [1]),(cmF 6 [1,5],evF 6 [1,5]),(cmF 7 [1,5],evF 7 [1,5]),(cmF 8 [1,1,5],evF 8 [1,1,5]),(cmF 9 [2,1,5],evF 9 [2,1,5]),(cmF 10 [0],evF 10 [0]),(cmF 12 [1,1],evF 12 [1]),(cmF 13 [2,1,3,9,1,50],evF 14 [3,2,1,3,9,1,50]),(cmF 15 [2,1,3,9,50],evF 16 [3,2,1,3,9,50]),(cmF 16 [2,1,30],evF 17 [1,2,30]),(cmF 14 [2,2,30],evF 15 [2,2,30]),(cmF 18 [1,2,7],evF 21 [1,2,7]),(cmF 17 [29],evF 20 [29])]
def dnR:List (Cmd × Int):=[(cmF 0 [],1),(cmF 99 [],1),(cmF 6 [1],1),(cmF 6 [1,0],1),(cmN 1 ⟨#[63]⟩ [],1),(cmN 6 ⟨#[97]⟩ [1,5],1),(cmN 1 ⟨#[97]⟩ [],6),(cmN 3 ⟨#[103,111,108,100]⟩ [5],6),(cmF 6 [4,5],5),(cmF 7 [1,1001],47),(cmF 6 [1,1125899906842624],41),(cmF 5 [1],46),(cmF 20 [1,2],46),(cmF 12 [1,9],5),(cmF 12 [2,1],49),(cmF 11 [1,1,1,10,1],49),(cmF 11 [3,1,2,10,1],47),(cmF 11 [3,2,2,10,1],5),(cmF 14 [1,2,30],49),(cmF 14 [2,2,19],51),(cmF 14 [2,1,30],5),(cmF 16 [2,2,30],5),(cmF 18 [1,1,5],1),(cmF 2 [1],47),(cmF 17 [0],1),(cmF 13 [2,1,99,9,1,50],47)]
def dnOk:Bool:=let s:=(zDs zBJ 0 dnL).1;dnB.all (fun x=>(zBC s x.1).2==0&&zHH (zBC s x.1).1 [x.2])&&dnR.all (fun x=>(zBC s x.1).2==x.2&&decide ((zBC s x.1).1.length=0))
theorem dn_ok:dnOk=true:=by decide +kernel
def dnOne:Cmd:=cmF 11 [1,1,2,5,1]
def dnAll:Cmd:=cmF 11 [2,1,1,6,40]
def dnM (n:Nat):List Cmd:=zGk++List.replicate n dnOne
def staB (s t:Sta):Bool:=decide (s.clock=t.clock)&&decide (s.fee=t.fee)&&decide (s.nextO=t.nextO)&&decide (s.nextA=t.nextA)&&decide (s.accts.map (fun a=>(a.name,a.opn))=t.accts.map fun a=>(a.name,a.opn))&&decide (s.insts.map (fun a=>(a.name,a.tick,a.halted))=t.insts.map fun a=>(a.name,a.tick,a.halted))&&decide (s.rows=t.rows)&&decide (s.orders=t.orders)&&decide (s.aucs=t.aucs)
theorem sta_eq {s t:Sta}(h:staB s t=true):s=t:=by
 obtain⟨c,f,o,a,ac,ins,r,od,au⟩:=s
 obtain⟨c',f',o',a',ac',ins',r',od',au'⟩:=t
 unfold staB at h
 simp only[Bool.and_eq_true,decide_eq_true_eq] at h
 obtain⟨⟨⟨⟨⟨⟨⟨⟨rfl,rfl⟩,rfl⟩,rfl⟩,h1⟩,h2⟩,rfl⟩,rfl⟩,rfl⟩:=h
 have e1:=congrArg (List.map fun p=>Ac.mk p.1 p.2) h1
 have e2:=congrArg (List.map fun p=>Ins.mk p.1 p.2.1 p.2.2) h2
 rw[List.map_map,List.map_map] at e1 e2
 have e1:ac=ac':=(List.map_id _).symm.trans (e1.trans (List.map_id _))
 have e2:ins=ins':=(List.map_id _).symm.trans (e2.trans (List.map_id _))
 rw[e1,e2]
def dnRow (k:Nat):List Row4:=[⟨0,0,-3000,0⟩,⟨0,1,-100,0⟩,⟨1,0,1000,0⟩,⟨1,1,50 - k,k⟩,⟨2,0,1000,0⟩,⟨2,1,50,0⟩,⟨3,0,1000,0⟩]
def dnRowT:List Row4:=[⟨0,0,-3000,0⟩,⟨0,1,-100,0⟩,⟨1,0,1155,0⟩,⟨1,1,19,0⟩,⟨2,0,791,54⟩,⟨2,1,81,0⟩,⟨3,0,1000,0⟩]
def dnS (k:Nat):Sta:=⟨0,100,(k:Int)+1,1,[⟨⟨#[97]⟩,true⟩,⟨⟨#[98]⟩,true⟩,⟨⟨#[99]⟩,true⟩],[⟨⟨#[103,111,108,100]⟩,1,false⟩],dnRow k,(List.range k).map fun(j:Nat)=>(⟨(j:Int)+1,1,1,2,5,1⟩:Odr),[]⟩
def stepB (s:Sta)(c:Cmd)(t:Sta):Bool:=(zBC s c).2==0&&(zDi s (zBC s c).1).2.2==0&&staB (zDi s (zBC s c).1).1 t
theorem run_cons (s:Sta)(e:Int)(c:Cmd)(l:List Cmd):zDs s e (c::l)=if (zBC s c).2≠0 then zDs s (zBC s c).2 l else if (zDi s (zBC s c).1).2.2≠0 then(s,(zDi s (zBC s c).1).2.2) else zDs (zDi s (zBC s c).1).1 0 l:=rfl
theorem dn_rapp:∀ {l:List Cmd} {s t:Sta} {e:Int} (m:List Cmd),zDs s e l=(t,0)→zDs s e (l++m)=zDs t 0 m
 | [],s,t,e,m,h=>by
   obtain⟨rfl,rfl⟩:=Prod.mk.inj h
   rfl
 | c::l,s,t,e,m,h=>by
   rw[run_cons] at h
   rw[List.cons_append,run_cons]
   split
   ·rename_i h1;rw[if_pos h1] at h;exact dn_rapp m h
   ·rename_i h1
    rw[if_neg h1] at h
    split
    ·rename_i h2;rw[if_pos h2] at h;exact absurd (Prod.mk.inj h).2 h2
    ·rename_i h2;rw[if_neg h2] at h;exact dn_rapp m h
theorem run_one {s t:Sta}{c:Cmd}(h:stepB s c t=true):zDs s 0 [c]=(t,0):=by
 unfold stepB at h
 simp only[Bool.and_eq_true,beq_iff_eq] at h
 obtain⟨⟨h1,h2⟩,h3⟩:=h
 unfold zDs
 rw[if_neg (fun g=>g h1),if_neg (fun g=>g h2),sta_eq h3]
 rfl
theorem dn_m0:((zDs zBJ 0 zGk).2==0&&staB (zDs zBJ 0 zGk).1 (dnS 0))=true:=by decide +kernel
def dnT:Sta:=⟨0,100,33,1,[⟨⟨#[97]⟩,true⟩,⟨⟨#[98]⟩,true⟩,⟨⟨#[99]⟩,true⟩],[⟨⟨#[103,111,108,100]⟩,1,false⟩],dnRowT,[⟨32,2,1,1,6,9⟩],[]⟩
def dnE:List Evt:=evF 11 [32,2,1,1,6,40]::(List.range 31).map fun(j:Nat)=>evF 13 [32,(j:Int)+1,5,1,0]
def evLB (a b:List Evt):Bool:=decide (a.map (fun e=>(e.v,e.kind,e.nums,e.texts))=b.map fun e=>(e.v,e.kind,e.nums,e.texts))
theorem evL_eq {a b:List Evt}(h:evLB a b=true):a=b:=by
 have e1:=congrArg (List.map fun p=>Evt.mk p.1 p.2.1 p.2.2.1 p.2.2.2) (zzA h)
 rw[List.map_map,List.map_map] at e1
 exact(List.map_id _).symm.trans (e1.trans (List.map_id _))
theorem dn_v:(let v:=zBC (zDs zBJ 0 dnL).1 (cmF 17 [40]);v.2==0&&zHH v.1 [evF 20 [40],evF 19 [1],evF 19 [2]])=true:=by decide +kernel
def dnOdd:Sta:={ zBJ with fee:=-1 }
def dnLast:Sta:={ zBJ with nextO:=1099511627777,nextA:=1099511627777 }
theorem dn_odd:(zBC dnOdd (cmF 10 [5])).2=4:=by decide +kernel
theorem dn_last:(zBC dnLast (cmF 11 [1,1,1,1,1])).2=40∧(zBC dnLast (cmF 15 [1,1,1,1,1])).2=40:=by decide +kernel
end Go.Proofs.YthbflajpdhgfiaaGreatDoor
