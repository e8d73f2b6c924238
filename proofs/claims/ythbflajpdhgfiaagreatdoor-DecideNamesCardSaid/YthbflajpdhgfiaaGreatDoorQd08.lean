/- Texts of ours, joined: the steps of the proof, or the claim's theorem. -/
import Derived.Laws.RangeString
import Derived.Test.YthbflajpdhgfiaaGreatDoorQd07
set_option linter.all false
set_option maxHeartbeats 16000000
namespace Go.Proofs.YthbflajpdhgfiaaGreatDoor
section
open Go Go.Sk Go.RowKit
def zHv (v:Int)(c:Nat):Int × Int × Bool:=match zED v c with|some (l,h)=>(l,h,true)|none=>(0,0,false)
theorem zPK (v:Int)(c:Nat)(w0:World)(hc:c∈[97,105,111,99,113,109,122,112,107,98,116,115]) :
  Calls Tryz.prog 182 [.int .u8 v,.int .u8 c].toArray w0 (Ret (.tuple #[.int .i64 (zHv v c).1,.int .i64 (zHv v c).2.1,.bool (zHv v c).2.2]) w0):=by
 simp only[List.mem_cons,List.not_mem_nil,or_false] at hc
 rcases hc with rfl|rfl|rfl|rfl|rfl|rfl|rfl|rfl|rfl|rfl|rfl|rfl
 all_goals
  refine enter [.tmp 4,.tmp 5,.tmp 6] Tryz.func182 rfl Tryz.ntmps182 rfl rfl ?_
  have H:=zA w0
  repeat' (first|refine yT ?_|refine yU ?_|((first|refine y17 ?_ ?_|refine y23 ?_ ?_);all_goals(intro h;try (exfalso;first|((exact absurd h (by decide));done)|((simp at *;omega);done))))|with_reducible apply zB|fail)
 all_goals
  refine zA5 (vs:=[_,_,_]) ⟨zb rfl,zb rfl,zb rfl,trivial⟩ H.cl ?_
  simp only[decide_eq_true_eq,decide_eq_false_iff_not] at *
  by_cases hv:1≤v∧v≤3
  ·by_cases h3:v<3
   ·by_cases h2:v<2
    ·first|(exfalso;omega)|(simp only[zHv,zED,zNz,if_pos hv,h3,h2];rfl)
    ·first|(exfalso;omega)|(simp only[zHv,zED,zNz,if_pos hv,h3,h2];rfl)
   ·have h2:¬ v<2:=fun e=>h3 qO
    first|(exfalso;omega)|(simp only[zHv,zED,zNz,if_pos hv,h3,h2];rfl)
  ·first|(exfalso;omega)|(simp only[zHv,zED,if_neg hv];rfl)
end
section
open Go Go.Sk Go.RowKit
attribute [local irreducible] Go.Calls
attribute [local semireducible] OX OW
def zDX (l:List Nat):ByteArray:=⟨(l.map UInt8.ofNat).toArray⟩
theorem zGY (l:List Nat):(zDX l).size=l.length:=by show(l.map UInt8.ofNat).toArray.size=_;simp
theorem zTy {l:List Nat}(hl:∀ x∈l,x<128){k:Nat}(h:k<(zDX l).size):((zDX l)[k]'h).toNat=l.getD k 0∧((zDX l)[k]'h).toNat<128:=by
 have hk:k<l.length:=by rw[zGY] at h;exact h
 have e:(zDX l)[k]'h=UInt8.ofNat (l[k]):=by
  simp only[ByteArray.getElem_eq_getElem_data,zDX,List.getElem_toArray,List.getElem_map]
 have hm:=hl _ (List.getElem_mem hk)
 have e2:(UInt8.ofNat (l[k])).toNat=l[k]:=by rw[UInt8.toNat_ofNat'];omega
 rw[e,e2,List.getD_eq_getElem?_getD,List.getElem?_eq_getElem hk]
 exact⟨rfl,hm⟩
theorem OX.rgS {P:Program}(S:Sig P){n:Nw}{ops:Array Oper}{Q:Exit→Env→World→Prop}{o:Oper}{rest:List Oper}{L:List (Nat × Value)}{b0:Env}{w w0:World}{G:zC}{t:TypeId}{d:Nat}{X:Operand}{s:ByteArray}{ti:TI}(H:St w0 G w)
  (ho:o.op=.range t X) (hd:o.dst=some d) (hlt:Nat.blt d n.n=true) (hx:ev (ovl L b0) X=.string s) (ht:lk S.tab t=some ti) (htd:ti.d=.string)
  (k:∀ r w',St w0 ((r,.stringIter s 0)::G) w'→OW P n ops Q rest (ovl ((d,.pointer (some ⟨r,0,none⟩))::L) b0) w'):OX P n ops Q o rest (ovl L b0) w:=by
 intro a ha
 unfold Oper.wp
 rw[ha.eval]
 have hr:=run_range_string (P:=P) w t s (by rw[S.und ht,htd])
 simp only[execOp,ho,hx,Sem.run_bind,hr,Result.andThen_ok,Sem.run_pure,Oper.upon_value,hd]
 exact k _ _ (H.alloc _) _ (ha.put hlt _)
theorem OX.nxS {P:Program}{n:Nw}{ops:Array Oper}{Q:Exit→Env→World→Prop}{o:Oper}{rest:List Oper}{L:List (Nat × Value)}{b0:Env}{w w0:World}{G:zC}{r d p:Nat}{X:Operand}{l:List Nat}(hl:∀ x∈l,x<128)(H:St w0 G w)(hr:(r,Obj.stringIter (zDX l) p)∈G)
  (ho:o.op=.next X true) (hd:o.dst=some d) (hlt:Nat.blt d n.n=true) (hx:ev (ovl L b0) X=.pointer (some ⟨r,0,none⟩))
  (k0:l.length≤p→OW P n ops Q rest (ovl ((d,.tuple #[.bool false])::L) b0) w)
  (k:p<l.length→∀ w',(∀ G',Up r (.stringIter (zDX l) p) (.stringIter (zDX l) (p+1)) G G'→St w0 G' w')→OW P n ops Q rest (ovl ((d,.tuple #[.bool true,.int .i64 p,.int .i32 (l.getD p 0)])::L) b0) w'):OX P n ops Q o rest (ovl L b0) w:=by
 intro a ha
 unfold Oper.wp
 rw[ha.eval]
 have hg:=H.mem _ hr
 simp only at hg
 by_cases h:p<(zDX l).size
 ·have hat:=zTy hl h
  have hr:(Instr.next (.pointer (some ⟨r,0,none⟩)) true o.type).run P w=.ok (.tuple #[.bool true,.int .i64 p,.int .i32 (l.getD p 0)]) { w with heap:=w.heap.setIfInBounds r (.stringIter (zDX l) (p+1)) }:=by
   simp only[Instr.next,getObj,setObj,Sem.run_bind,Sem.run,hg,Result.andThen,h,if_true,decode_ascii _ p h hat.2,hat.1]
   rfl
  simp only[execOp,ho,hx,Sem.run_bind,hr,Result.andThen_ok,Sem.run_pure,Oper.upon_value,hd]
  exact k (by rwa [zGY] at h) _ (fun G' hu=>H.setO hu) _ (ha.put hlt _)
 ·have hr:(Instr.next (.pointer (some ⟨r,0,none⟩)) true o.type).run P w=.ok (.tuple #[.bool false]) w:=by
   simp only[Instr.next,getObj,Sem.run_bind,Sem.run,hg,Result.andThen,h,if_false]
   rfl
  simp only[execOp,ho,hx,Sem.run_bind,hr,Result.andThen_ok,Sem.run_pure,Oper.upon_value,hd]
  exact k0 (by rw[zGY] at h;omega) _ (ha.put hlt _)
set_option maxRecDepth 20000 in
theorem zRX (v:Int)(c:Nat)(m:Int)(w0:World)(hc:c∈[97,105,111,99,113,109,122,112,107,98,116,115]) :
  Calls Tryz.prog 140 [.int .u8 v,.int .u8 c,.int .i64 m].toArray w0 (Ret (.bool (zCe v c m)) w0):=by
 refine enter [.tmp 6] Tryz.func140 rfl Tryz.ntmps140 rfl rfl ?_
 have H:=zA w0
 repeat' (first|refine yT ?_|(refine' y30 ent182 ?_ ?_;rotate_left;exact zPK v c _ hc;refine w2 H ?_;clear H;intro w H)|refine yU ?_|(refine y17 ?_ ?_;all_goals intro h)|fail)
 all_goals
  refine zP rfl H.cl (congrArg Value.bool ?_)
  have hf:zCe v c m=((zHv v c).2.2&&decide (m ≥ (zHv v c).1)&&decide (m≤(zHv v c).2.1)):=by
   unfold zCe zHv
   cases zED v c<;>rfl
  rw[hf];simp[*]
end
end Go.Proofs.YthbflajpdhgfiaaGreatDoor
