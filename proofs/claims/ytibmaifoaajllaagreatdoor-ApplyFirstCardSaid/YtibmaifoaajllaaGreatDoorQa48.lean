/- Texts of ours, joined: the steps of the proof, or the claim's theorem. -/
import Derived.Test.YtibmaifoaajllaaGreatDoorQa47
set_option linter.unusedSimpArgs false
set_option linter.unusedVariables false
set_option maxHeartbeats 16000000
namespace Go.Proofs.YtibmaifoaajllaaGreatDoor
section
open Go Go.Sk Go.RowKit
theorem zD3 {s:Sta}{e:Evt}(h:(zk s e).2≠0):(zk s e).1=zCt:=by
 unfold zk zy at h ⊢
 split
 ·rename_i h1
  rw[if_pos h1] at h
  split
  ·rename_i h2
   rw[if_pos h2] at h
   split
   ·rename_i h3;rw[if_pos h3] at h;exact absurd h3 h
   ·rfl
  ·rfl
 ·rfl
theorem zPt {s t:Sta}{k:Int}{n:List Int}{tx:ByteArray}(hk:1≤k∧k≤23)(he:zBE s k n tx=(t,0)):s.nextO≤t.nextO∧s.nextA≤t.nextA∧s.clock≤t.clock∧s.accts.length≤t.accts.length∧s.insts.length≤t.insts.length:=by
 have hp:∀ p,∃ rs,(zj s p).1={ s with rows:=rs }:=fun p=>by
  unfold zj
  split
  ·exact⟨_,rfl⟩
  ·exact⟨s.rows,rfl⟩
 have hps:∀ {s:Sta} {p u},zj s p=(u,0)→s.nextO≤u.nextO∧s.nextA≤u.nextA∧s.clock≤u.clock∧s.accts.length≤u.accts.length∧s.insts.length≤u.insts.length:=fun{s p u} g=>by
  obtain⟨rs,e⟩:∃ rs,(zj s p).1={ s with rows:=rs }:=by
   unfold zj
   split
   ·exact⟨_,rfl⟩
   ·exact⟨s.rows,rfl⟩
  rw[g] at e
  have e:u=_:=e
  rw[e]
  exact⟨Int.le_refl _,Int.le_refl _,Int.le_refl _,zzC _,zzC _⟩
 have e1:∀ p,(zj s p).1.nextO=s.nextO:=fun p=>by obtain⟨rs,e⟩:=hp p;rw[e]
 have e2:∀ p,(zj s p).1.nextA=s.nextA:=fun p=>by obtain⟨rs,e⟩:=hp p;rw[e]
 have e3:∀ p,(zj s p).1.clock=s.clock:=fun p=>by obtain⟨rs,e⟩:=hp p;rw[e]
 have e4:∀ p,(zj s p).1.accts=s.accts:=fun p=>by obtain⟨rs,e⟩:=hp p;rw[e]
 have e5:∀ p,(zj s p).1.insts=s.insts:=fun p=>by obtain⟨rs,e⟩:=hp p;rw[e]
 unfold zBE at he
 rcases kinds hk with rfl|rfl|rfl|rfl|rfl|rfl|rfl|rfl|rfl|rfl|rfl|rfl|rfl|rfl|rfl|rfl|rfl|rfl|rfl|rfl|rfl|rfl|rfl<;>simp only[Int.reduceEq,if_false,if_true] at he
 all_goals(try unfold zDX at he)
 all_goals(try unfold zDY at he)
 all_goals(try unfold zDZ at he)
 all_goals(try unfold zDG at he)
 all_goals(try unfold zCJ at he)
 all_goals(try unfold zAv at he)
 all_goals(try unfold zCK at he)
 all_goals(try unfold zCa at he)
 all_goals(try unfold zGE at he)
 all_goals(try unfold zEd at he)
 all_goals(try unfold zBy at he)
 all_goals(try unfold zEs at he)
 all_goals(try unfold zAe at he)
 all_goals(try unfold zCl at he)
 all_goals(try unfold zDa at he)
 all_goals(try unfold zA3 at he)
 all_goals(try unfold zBu at he)
 all_goals(try unfold zAO at he)
 all_goals(try simp only at he)
 all_goals(repeat' split at he)
 all_goals first
  | exact absurd (Prod.mk.inj he).2 (by decide)
  | exact absurd (Prod.mk.inj he).2 (by assumption)
  | exact hps he
  | exact hps (s:={ s with orders:=(zCy s.orders (zV s.orders (nF n 0)).1.id).1 }) he
  | (rename_i g;rw[he] at g;exact absurd rfl g)
  | (obtain rfl:=(Prod.mk.inj he).1
     first
      | (simp only[List.length_append,List.length_set,List.length_singleton];omega)
      | (simp only[e1,e2,e3,e4,e5,List.length_append,List.length_set,List.length_singleton];omega))
end
section
open Go Go.Sk Go.RowKit
attribute [local irreducible] Go.Calls
theorem zE7 {s t:Sta}{e:Evt}{r:Int}(h:zk s e=(t,r)):LtS t:=by
 by_cases hr:r=0
 ·subst hr;exact zDf (zBI h).2.1
 ·have:=zD3 (s:=s) (e:=e) (by rw[h];exact hr)
  rw[h] at this
  simp only at this
  rw[this]
  exact lt_z
end
section
open Go Go.Sk Go.RowKit
theorem zLn {s t:Sta}{e:Evt}(hd:zk s e=(t,0)):s.nextO≤t.nextO∧s.nextA≤t.nextA∧s.clock≤t.clock∧s.accts.length≤t.accts.length∧s.insts.length≤t.insts.length:=by
 obtain⟨_,_,ev,_,_,hd⟩:=zBI hd
 exact zPt ev.kind hd
def whM (k:Int)(n:List Int):Int:=if k=6 then nF n 1 else if k=7 then -nF n 1 else if k=13 then -nF n 4 else if k=18 then -nF n 3 else 0
def whI (k:Int)(n:List Int):Int:=if k=8 then nF n 1 else if k=9 then nF n 1 else 0
def whZ (k:Int)(n:List Int):Int:=if k=8 then nF n 2 else if k=9 then -nF n 2 else 0
def whV (k:Int):Bool:=k==13||k==18||k==21
structure WhF (k:Int)(n:List Int):Prop where
 m:zDP k n 0=whM k n
 j:∀ j:Nat,0<j→zDP k n j=if (j:Int)=whI k n then whZ k n else 0
 v:whV k=false→whM k n=0→whZ k n=0→zNB k=false
 mb:-1125899906842624≤whM k n∧whM k n≤1125899906842624
 zb:-1125899906842624≤whZ k n∧whZ k n≤1125899906842624
end
end Go.Proofs.YtibmaifoaajllaaGreatDoor
