/- Texts of ours, joined: the steps of the proof, or the claim's theorem. -/
import Derived.Shelf.SortM.SortNone
import Derived.Test.YtibmaifoaajllaaGreatDoorQa15
set_option linter.unusedSimpArgs false
set_option linter.unusedVariables false
set_option maxHeartbeats 16000000
namespace Go.Proofs.YtibmaifoaajllaaGreatDoor
section
open Go Go.Sk Go.RowKit
open Go.Sort (grow putRow)
attribute [local irreducible] Go.Calls
theorem eqStrD (P:Program)(T:TypeId):EqlAt P T encStr (fun x y=>decide (x=y)) :=
 ⟨fun x y w=>by rw[(EqlAt.string P T).1 ⟨x.toArray⟩ ⟨y.toArray⟩ w];by_cases h:x=y<;>simp[ByteArray.toList_eq,h],fun op a b x y w=>(EqlAt.string P T).2 op a b ⟨x.toArray⟩ ⟨y.toArray⟩ w⟩
theorem neStrD (P:Program)(T:TypeId):NeqAt P T encStr (fun x y=>decide (x=y)) :=
 ⟨fun x y w=>by rw[(NeqAt.string P T).1 ⟨x.toArray⟩ ⟨y.toArray⟩ w];by_cases h:x=y<;>simp[ByteArray.toList_eq,h],fun op a b x y w=>(NeqAt.string P T).2 op a b ⟨x.toArray⟩ ⟨y.toArray⟩ w⟩
theorem zTZ {w0 w:World}{M G:zH}{a:Option Addr}{cap:Nat}(ss:List (List UInt8))(hn:ss.length≤140737488355328)(H:St w0 (M++G) w)(hO:Go.Sk.Own M 9 1 a ss.length cap (ss.map encStr)) :
  Calls Tryz.prog 210 [.slice a ss.length cap].toArray w (zn (fun N v=>v=.tuple #[]∧∃ M',N=M'++G∧Go.Sk.Own M' 9 1 a ss.length cap ((ss.mergeSort fun x y=>decide (x≤y)).map encStr)) w0):=by
 have hl2:(ss.mergeSort fun x y=>decide (x≤y)).length=ss.length:=(List.mergeSort_perm ss _).length_eq
 rcases hO.2 with ⟨h1,h2,h3⟩|⟨g,cs,rfl,rfl,h4,h5,h6,h7⟩
 ·have hs0:ss=[]:=List.eq_nil_of_length_eq_zero h1
  subst hs0;subst h3;subst h2
  refine Calls.mono (AnyM.slices_Sort_string_none layS a 0 w) ?_
  rintro e w' ⟨rfl,rfl⟩
  exact⟨_,G,rfl,⟨rfl,[],rfl,by simpa using zTC _ _ _⟩,by simpa using H⟩
 ·have hm:cb g cs 9∈([cb g cs 9]++G):=zz2 _
  have hz:ss.length*1=ss.length:=Nat.mul_one _
  refine Calls.mono (AnyM.slices_Sort_string layS g 0 cap ss w (zH2 H hm (by simpa using h7)) (zB5 (H.mem _ hm)) (by omega)) ?_
  rintro e w' ⟨rfl,n,os,rfl⟩
  have hd:(ss.mergeSort fun x y=>decide (x≤y)).toArray.size=ss.length:=by simp
  refine⟨_,[cb g (zEc encStr (ss.mergeSort fun x y=>decide (x≤y)).toArray cs) 9]++G,rfl,⟨rfl,_,rfl,?_⟩,St.put n os H Up.here (by rw[hd];omega)⟩
  refine⟨by simp,.inr ⟨g,_,rfl,rfl,h4,h5,?_,?_⟩⟩
  ·simp only[zEc,List.length_append,List.length_map,List.length_drop,List.toList_toArray,hd,hl2];omega
  ·rw[zEc,List.toList_toArray,List.take_left' (by rw[List.length_map,hl2,hz])]
theorem zTa {w0 w:World}{M G:zH}{a:Option Addr}{cap:Nat}(ss:List (List UInt8))(hn:ss.length≤140737488355328)(H:St w0 (M++G) w)(hO:Go.Sk.Own M 9 1 a ss.length cap (ss.map encStr)) :
  Calls Tryz.prog 211 [.slice a ss.length cap].toArray w (zn (fun N v=>N=G∧∃ a' c',v=.slice a' (Lib.compactUpTo ss.toArray ss.length).length c') w0):=by
 rcases hO.2 with ⟨h1,h2,h3⟩|⟨g,cs,rfl,rfl,h4,h5,h6,h7⟩
 ·have hs0:ss=[]:=List.eq_nil_of_length_eq_zero h1
  subst hs0;subst h3;subst h2
  refine enter [.tmp 2] Tryz.func211 rfl Tryz.ntmps211 rfl rfl ?_
  repeat' (first|refine yT ?_|refine yU ?_|fail)
  exact zU rfl H ⟨rfl,a,0,rfl⟩
 ·have hm:cb g cs 9∈([cb g cs 9]++G):=zz2 _
  refine Calls.mono (AnyE.slices_Compact layCS encStr (fun _=>rfl) (eqStrD _ _) (neStrD _ _) [] (fun w=>Tryz.zeroValue9 w) g 0 cap ss.toArray w (zH2 H hm (by simpa using h7)) (by simp;omega) (by simp;omega)) ?_
  rintro e w' ⟨rfl,q,rfl⟩
  refine⟨_,G,rfl,⟨rfl,_,cap,rfl⟩,?_⟩
  have:=St.put (enc:=encStr) (d:=(Lib.compactUpTo ss.toArray ss.toArray.size++List.replicate (ss.toArray.size - (Lib.compactUpTo ss.toArray ss.toArray.size).length) ([])).toArray) q #[] H Up.here (by
   have hle:(Lib.compactUpTo ss.toArray ss.length).length≤ss.length:=by
    unfold Lib.compactUpTo;rw[List.length_map];exact Nat.le_trans (List.length_filter_le _ _) (by simp)
   simp only[List.size_toArray,List.length_append,List.length_replicate];omega)
  rw[Go.Sort.grow_empty] at this
  exact this.sub (zz7 _ _)
def nmL (l:List ByteArray):List (List UInt8):=l.map fun s=>s.data.toList
def zBZ (l:List ByteArray):Bool:=l.all zAR&&decide (nmL l).Nodup
theorem zGk {α:Type}(f:α→Value)(l:List α)(d:α):((List.range l.length).flatMap fun j=>[f (l.getD j d)])=l.map f:=by
 have:∀ k,k≤l.length→((List.range k).flatMap fun j=>[f (l.getD j d)])=(l.take k).map f:=by
  intro k
  induction k with
  | zero=>intro _;rfl
  | succ k ih =>
    intro hk
    rw[List.range_succ,List.flatMap_append,ih (by omega),List.flatMap_singleton,List.take_succ_eq_append_getElem (by omega),List.map_append]
    congr 1
    simp[List.getElem?_eq_getElem (show k<l.length by omega)]
 rw[this _ (Nat.le_refl _),List.take_length]
theorem zTb (l:List ByteArray):(nmL l).map encStr=l.map Value.string:=by simp[nmL]
theorem zNn {w0 w:World}{M G:zH}{a:Option Addr}{cap:Nat}(l:List ByteArray)(hn:l.length≤10000)(hz:∀ k,k<l.length→(l.getD k ByteArray.empty).size≤140737488355328)(H:St w0 (M++G) w)(hO:Go.Sk.Own M 9 1 a l.length cap (l.map Value.string)) :
  Calls Tryz.prog 172 [.slice a l.length cap].toArray w (zn (fun N v=>N=G∧v=.bool (zBZ l)) w0):=by
 have hO1:=hO
 rw[← zGk Value.string l ByteArray.empty] at hO1
 have hs:=Go.Sk.Own.sl hO1 (F:=M++G) (List.subset_append_left _ _) (fun _ _=>rfl) (by omega)
 have hln:(nmL l).length=l.length:=by simp[nmL]
 rw[← hln,← zTb] at hO
 have hcmp:=zKy (nmL l)
 obtain⟨S,hS⟩:∃ S,((nmL l).mergeSort fun x y=>decide (x≤y))=S:=⟨_,rfl⟩
 have hSl:S.length=(nmL l).length:=by rw[← hS];exact(List.mergeSort_perm _ _).length_eq
 rw[hS] at hcmp
 refine enter [.tmp 2] Tryz.func172 rfl Tryz.ntmps172 rfl rfl ?_
 repeat' (first|refine yT ?_|(refine' y30 ent208 ?_ ?_;rotate_left;exact zTY (fun j=>l.getD j ByteArray.empty) (caps:=[]) (fun j=>!zAR (l.getD j ByteArray.empty)) _ H.mem hs ent209 (fun j hj w' _=>zRD _ (hz j hj) w');intro w hcl;replace H:=H.ext hcl;clear hcl)|refine yU ?_|fail)
 refine zJ rfl (fun h=>?_) (fun h=>?_)
 ·repeat' (first|refine yT ?_|refine yU ?_|fail)
  refine zU rfl (H.tail) ⟨rfl,congrArg Value.bool ?_⟩
  have h1:=zzA h
  rcases zY (fun j=>!zAR (l.getD j ByteArray.empty)) l.length with ⟨k,hk,_,hp,_⟩|⟨_,h2⟩
  ·unfold zBZ
   have:l.all zAR=false:=by
    rw[List.all_eq_false]
    refine⟨l.getD k ByteArray.empty,?_,by simpa using hp⟩
    simp[List.getElem?_eq_getElem hk]
   rw[this];rfl
  ·omega
 ·have h1:=zzB h
  have hall:l.all zAR=true:=by
   rcases zY (fun j=>!zAR (l.getD j ByteArray.empty)) l.length with ⟨k,hk,_,hp,h2⟩|⟨h2,_⟩
   ·omega
   ·rw[List.all_eq_true]
    intro x hx
    obtain⟨k,hk,rfl⟩:=List.mem_iff_getElem.1 hx
    have:=h2 k hk
    simpa [List.getElem?_eq_getElem hk] using this
  clear h
  rw[← hln]
  repeat' (first|refine yT ?_|(refine' y33 ent210 ?_ ?_;rotate_left 2;exact zTZ (nmL l) (by omega) H hO;rintro v N w ⟨rfl,M,rfl,hO⟩ H;rw[hS] at hO)|refine yU ?_|fail)
  have hs2:SlA (M++G) 1 a (nmL l).length cap fun j=>[Value.string ⟨(S.getD j []).toArray⟩]:=Go.Sk.Own.sl (E:=9) (M:=M) (by rw[← hSl,zGk encStr S []];rw[hSl];exact hO) (List.subset_append_left _ _) (fun _ _=>rfl) (by omega)
  repeat' (first|refine yT ?_|(refine' y32 ent212 ?_ ?_;rotate_left;exact zRC (fun j=>⟨(S.getD j []).toArray⟩) _ H.mem hs2 (by omega);intro v Mc w hR hS;replace H:=H.addR hS;clear hS;(try simp only[List.cons_append,List.nil_append] at H);obtain⟨a3,cap3,rfl,hO3⟩:=hR)|fail)
  rw[← hSl] at hO3
  rw[zGk encStr S []] at hO3
  rw[← hSl]
  repeat' (first|refine yT ?_|(refine' y33 ent211 ?_ ?_;rotate_left 2;exact zTa S (by omega) (H.perm List.perm_append_comm) hO3;rintro v N w ⟨rfl,a4,c4,rfl⟩ H)|refine yU ?_|fail)
  rw[hSl]
  refine zU rfl (H.tail) ⟨rfl,congrArg Value.bool ?_⟩
  unfold zBZ
  rw[hall,Bool.true_and]
  by_cases hd:(nmL l).Nodup
  ·rw[hcmp.2 hd,decide_eq_true hd];simp
  ·have:(Lib.compactUpTo S.toArray (nmL l).length).length≠(nmL l).length:=fun h=>hd (hcmp.1 h)
   rw[decide_eq_false hd]
   exact beq_eq_false_iff_ne.2 (by omega)
end
section
open Go Go.Sk Go.RowKit
attribute [local irreducible] Go.Calls
def nmA (l:List Ac):List ByteArray:=l.map (·.name)
def nmI (l:List Ins):List ByteArray:=l.map (·.name)
theorem zDV {α:Type}(f:α→List UInt8)(l:List α)(d:α):(l.map f).Nodup↔∀ k,k<l.length→∀ j,j<k→f (l.getD j d)≠f (l.getD k d):=by
 rw[List.nodup_iff_pairwise_ne,List.pairwise_iff_getElem]
 constructor
 ·intro h k hk j hj
  have:=h j k (by simpa using (by omega:j<l.length)) (by simpa using hk) hj
  simpa [List.getElem?_eq_getElem hk,List.getElem?_eq_getElem (show j<l.length by omega)] using this
 ·intro h i j hi hj hij
  have hi':i<l.length:=by simpa using hi
  have hj':j<l.length:=by simpa using hj
  have:=h j hj' i hij
  simpa [List.getElem?_eq_getElem hi',List.getElem?_eq_getElem hj'] using this
theorem zBO {α:Type}{l:List α}{x d:α}(h:x∈l):∃ k,k<l.length∧l.getD k d=x:=by
 obtain⟨k,hk,rfl⟩:=List.mem_iff_getElem.1 h
 exact⟨k,hk,by simp[List.getElem?_eq_getElem hk]⟩
theorem zAK {α:Type}{l:List α}{k:Nat}(d:α)(h:k<l.length):l.getD k d∈l:=by
 simp[List.getElem?_eq_getElem h]
theorem zGC (l:List Ac):zEq l=(decide (l.length≤64)&&zBZ (nmA l)):=by
 rw[Bool.eq_iff_iff,zMT,Bool.and_eq_true,decide_eq_true_eq]
 unfold zBZ nmA nmL
 rw[Bool.and_eq_true,List.all_eq_true,decide_eq_true_eq,List.map_map]
 refine and_congr_right fun _=>?_
 have hfi:∀ k,k<l.length→(zA7 l (ac_ l k).name=k↔∀ j,j<k→(ac_ l j).name.data.toList≠(ac_ l k).name.data.toList):=by
  intro k hk
  have hkk:zEp l (ac_ l k).name k=true:=by unfold zEp;exact beq_self_eq_true _
  constructor
  ·intro h j hj he
   rcases zY (zEp l (ac_ l k).name) l.length with ⟨m,hm,hn,_,h2⟩|⟨hn,_⟩
   ·unfold zA7 at h
    have:m=k:=by omega
    subst this
    have:=hn j hj
    unfold zEp at this
    rw[ByteArray.toList_eq,ByteArray.toList_eq,he] at this
    simp at this
   ·rw[hn k hk] at hkk;cases hkk
  ·intro h
   unfold zA7
   rw[zBx hk (fun j hj=>?_) hkk]
   unfold zEp
   rw[ByteArray.toList_eq,ByteArray.toList_eq]
   exact beq_eq_false_iff_ne.2 (h j hj)
 constructor
 ·intro h
  refine⟨fun x hx=>?_,(zDV (fun x:Ac=>x.name.data.toList) l default).2 fun k hk=>(hfi k hk).1 (h k hk).2⟩
  obtain⟨y,hy,rfl⟩:=List.mem_map.1 hx
  obtain⟨k,hk,rfl⟩:=zBO (d:=default) hy
  exact(h k hk).1
 ·rintro⟨h1,h2⟩ k hk
  exact⟨h1 _ (List.mem_map.2 ⟨_,zAK default hk,rfl⟩),(hfi k hk).2 ((zDV (fun x:Ac=>x.name.data.toList) l default).1 h2 k hk)⟩
theorem zEM (l:List Ins):zDC l=(decide (l.length≤16)&&((List.range l.length).all (fun k=>zB1 (in_ l k).tick 1 1073741824)&&zBZ (nmI l))):=by
 rw[Bool.eq_iff_iff,zH1,Bool.and_eq_true,decide_eq_true_eq]
 unfold zBZ nmI nmL
 rw[Bool.and_eq_true,Bool.and_eq_true,List.all_eq_true,List.all_eq_true,decide_eq_true_eq,List.map_map]
 simp only[List.mem_range,zEJ]
 refine and_congr_right fun _=>?_
 have hne:∀ {j k},((in_ l j).name.toList==(in_ l k).name.toList)=false↔(in_ l j).name.data.toList≠(in_ l k).name.data.toList:=fun{j k}=>by
  rw[ByteArray.toList_eq,ByteArray.toList_eq,beq_eq_false_iff_ne]
 constructor
 ·intro h
  refine⟨fun k hk=>(h k hk).2.1,fun x hx=>?_,(zDV (fun x:Ins=>x.name.data.toList) l default).2 fun k hk j hj=>hne.1 ((h k hk).2.2 j hj)⟩
  obtain⟨y,hy,rfl⟩:=List.mem_map.1 hx
  obtain⟨k,hk,rfl⟩:=zBO (d:=default) hy
  exact(h k hk).1
 ·rintro⟨h0,h1,h2⟩ k hk
  exact⟨h1 _ (List.mem_map.2 ⟨_,zAK default hk,rfl⟩),h0 k hk,fun j hj=>hne.2 ((zDV (fun x:Ins=>x.name.data.toList) l default).1 h2 k hk j hj)⟩
structure Gr where
 k:Nat
 a:Option Addr
 cap:Nat
 M:zH
theorem zKz {α:Type}(f:α→Value)(l:List α)(d:α){k:Nat}(hk:k<l.length):(l.take k).map f++[f (l.getD k d)]=(l.take (k+1)).map f:=by
 rw[List.take_succ_eq_append_getElem hk,List.map_append]
 simp[List.getElem?_eq_getElem hk]
theorem zMU {F:zH}(s:Sta)(p:SPt)(hb:s.accts.length≤10000)(hz:∀ k,k<s.accts.length→(ac_ s.accts k).name.size≤140737488355328)(w0:World)(hF:Mem w0 F)(hs0:StaM F s p) :
  Calls Tryz.prog 124 [.agg (s.cells p).toArray].toArray w0 (Ret (.bool (zEq s.accts)) w0):=by
 obtain⟨hnc,hcb,b0,off,cs,T,fr,hs⟩:=hs0.ac
 refine enter [.tmp 2] Tryz.func124 rfl Tryz.ntmps124 rfl rfl ?_
 have H:=zB w0
 repeat' (first|refine yT ?_|refine y7 sg H ?_|(refine y9 H ?_;intro b w H)|refine yU ?_|with_reducible apply zA|fail)
 refine zM [(3,3),(5,5),(9,18)] (fun x:Gr=>[(9,.int .i64 (x.k:Int)),(3,.slice x.a x.k x.cap)]) (fun x w=>x.k≤s.accts.length∧Go.Sk.Own x.M 9 1 x.a x.k x.cap ((s.accts.take x.k).map fun y=>Value.string y.name)∧St w0 (cb _ (s.cells p) 28::x.M) w) (fun x=>s.accts.length - x.k) ⟨0,none,0,[]⟩ ⟨rfl,rfl,trivial⟩ ⟨zzD _,zTC _ _ _,H⟩ ?_
 clear H
 rintro⟨k,ao,co,M⟩ gh w ⟨hk,hO,H⟩
 simp only at hk hO H ⊢
 repeat' (first|refine yT ?_|refine yU ?_|fail)
 refine zJ rfl (fun h=>?_) (fun h=>?_)
 ·have hlt:k<s.accts.length:=by have:=zzA h;omega
  clear h
  repeat' (first|refine yT ?_|refine y7 sg H ?_|(refine y10 sg H ?_;intro b w H)|(refine y11 sg H ?_;intro w H)|(refine y40 sg (hs) ?_ ?_ ?_;(omega);(omega))|(refine y42 sg (hs) ((H.memF hF)) ?_ ?_;(omega))|(refine z14 sg H ?_;intro b w H)|(have hp:=H.perm (List.perm_append_comm (l₁:=[_,_,_]) (l₂:=M));refine zo sg 1 16 (M:=M) hp rfl rfl rfl rfl rfl rfl rfl rfl rfl rfl rfl hO (zAM hp.mem (zz3 _ (zz2 _))) rfl (zAh rfl) (by unfold maxLen;omega) (by omega) ?_;clear hp hO;intro ao co M w hO H;replace H:=H.perm (List.perm_append_comm (l₁:=M) (l₂:=[_,_,_])))|refine yU ?_|with_reducible apply zA|fail)
  exact zK ⟨k+1,ao,co,M⟩ rfl ⟨zZ (by omega),rfl,trivial⟩ ⟨hlt,by show Go.Sk.Own M _ 1 ao (k+1) co _;rw[← zKz (fun y:Ac=>Value.string y.name) s.accts default hlt];exact hO,(H.sub (zz7 _ _)).sub (zz7 _ _)⟩ (by show s.accts.length - (k+1)<s.accts.length - k;omega)
 ·obtain rfl:k=s.accts.length:=by have:=zzB h;omega
  have hln:(nmA s.accts).length=s.accts.length:=by simp[nmA]
  rw[List.take_length] at hO
  have hO2:Go.Sk.Own M 9 1 ao (nmA s.accts).length co ((nmA s.accts).map Value.string):=by rw[hln];simpa [nmA,Function.comp_def] using hO
  have hnz:∀ k,k<(nmA s.accts).length→((nmA s.accts).getD k ByteArray.empty).size≤140737488355328:=fun k hk=>by
   rw[hln] at hk
   have:=hz k hk
   simpa [nmA,ac_,List.getElem?_eq_getElem hk] using this
  have hcn:=fun{G:zH} {w:World}=>zNn (w0:=w0) (w:=w) (G:=G) (M:=M) (a:=ao) (cap:=co) (nmA s.accts) (by omega) hnz
  rw[hln] at hcn hO2
  repeat' (first|refine yT ?_|(refine' y33 zQb ?_ ?_;rotate_left 2;exact hcn (H.perm (List.perm_append_comm (l₁:=[_]) (l₂:=M))) hO2;rintro v N w ⟨rfl,rfl⟩ H)|refine yU ?_|(refine y17 ?_ ?_;all_goals intro h)|fail)
  all_goals refine zQ rfl H.cl (congrArg Value.bool ?_)
  all_goals rw[zGC]
  all_goals simp only[decide_eq_true_eq,decide_eq_false_iff_not] at h
  ·rw[decide_eq_true (by omega)];rfl
  ·rw[decide_eq_false (by omega)];rfl
theorem zIl {F:zH}(s:Sta)(p:SPt)(hb:s.insts.length≤10000)(hz:∀ k,k<s.insts.length→(in_ s.insts k).name.size≤140737488355328)(w0:World)(hF:Mem w0 F)(hs0:StaM F s p) :
  Calls Tryz.prog 125 [.agg (s.cells p).toArray].toArray w0 (Ret (.bool (zDC s.insts)) w0):=by
 obtain⟨hnc,hcb,b0,off,cs,T,fr,hs⟩:=hs0.ins
 refine enter [.tmp 2] Tryz.func125 rfl Tryz.ntmps125 rfl rfl ?_
 have H:=zB w0
 repeat' (first|refine yT ?_|refine y7 sg H ?_|(refine y9 H ?_;intro b w H)|refine yU ?_|with_reducible apply zA|fail)
 refine zM [(2,3),(5,5),(9,22)] (fun x:Gr=>[(9,.int .i64 (x.k:Int)),(3,.slice x.a x.k x.cap)]) (fun x w=>x.k≤s.insts.length∧(∀ j,j<x.k→zB1 (in_ s.insts j).tick 1 1073741824=true)∧Go.Sk.Own x.M 9 1 x.a x.k x.cap ((s.insts.take x.k).map fun y=>Value.string y.name)∧St w0 (cb _ (s.cells p) 28::x.M) w) (fun x=>s.insts.length - x.k) ⟨0,none,0,[]⟩ ⟨rfl,rfl,trivial⟩ ⟨zzD _,fun j hj=>absurd hj (zzE _),zTC _ _ _,H⟩ ?_
 clear H
 rintro⟨k,ao,co,M⟩ gh w ⟨hk,hr,hO,H⟩
 simp only at hk hr hO H ⊢
 repeat' (first|refine yT ?_|refine yU ?_|fail)
 refine zJ rfl (fun h=>?_) (fun h=>?_)
 ·have hlt:k<s.insts.length:=by have:=zzA h;omega
  clear h
  repeat' (first|refine yT ?_|refine y7 sg H ?_|(refine y10 sg H ?_;intro b w H)|(refine y11 sg H ?_;intro w H)|(refine y40 sg (hs) ?_ ?_ ?_;(omega);(omega))|(refine y42 sg (hs) ((H.memF hF)) ?_ ?_;(omega))|(refine' y30 zJe ?_ ?_;rotate_left;exact zHS (in_ s.insts k).tick 1 1073741824 _;intro w hcl;replace H:=H.ext hcl;clear hcl)|refine yU ?_|with_reducible apply zA|fail)
  refine zJ rfl (fun h=>?_) (fun h=>?_)
  ·repeat' (first|refine yT ?_|refine yU ?_|fail)
   refine zQ rfl H.cl (congrArg Value.bool ?_)
   rw[zEM]
   have:(List.range s.insts.length).all (fun k=>zB1 (in_ s.insts k).tick 1 1073741824)=false:=by
    rw[List.all_eq_false]
    exact⟨k,List.mem_range.2 hlt,by simpa using h⟩
   rw[this,Bool.false_and,Bool.and_false]
  ·have hrk:zB1 (in_ s.insts k).tick 1 1073741824=true:=by simpa using h
   repeat' (first|refine yT ?_|refine y7 sg H ?_|(refine z14 sg H ?_;intro b w H)|(have hp:=H.perm (List.perm_append_comm (l₁:=[_,_,_]) (l₂:=M));refine zo sg 1 16 (M:=M) hp rfl rfl rfl rfl rfl rfl rfl rfl rfl rfl rfl hO (zAM hp.mem (zz3 _ (zz2 _))) rfl (zAh rfl) (by unfold maxLen;omega) (by omega) ?_;clear hp hO;intro ao co M w hO H;replace H:=H.perm (List.perm_append_comm (l₁:=M) (l₂:=[_,_,_])))|refine yU ?_|fail)
   exact zK ⟨k+1,ao,co,M⟩ rfl ⟨zZ (by omega),rfl,trivial⟩ ⟨hlt,fun j hj=>by
    rcases(show j<k∨j=k by have:j<k+1:=hj;omega) with g|rfl
    ·exact hr j g
    ·exact hrk,by show Go.Sk.Own M _ 1 ao (k+1) co _;rw[← zKz (fun y:Ins=>Value.string y.name) s.insts default hlt];exact hO,(H.sub (zz7 _ _)).sub (zz7 _ _)⟩ (by show s.insts.length - (k+1)<s.insts.length - k;omega)
 ·obtain rfl:k=s.insts.length:=by have:=zzB h;omega
  have hln:(nmI s.insts).length=s.insts.length:=by simp[nmI]
  rw[List.take_length] at hO
  have hO2:Go.Sk.Own M 9 1 ao (nmI s.insts).length co ((nmI s.insts).map Value.string):=by rw[hln];simpa [nmI,Function.comp_def] using hO
  have hnz:∀ k,k<(nmI s.insts).length→((nmI s.insts).getD k ByteArray.empty).size≤140737488355328:=fun k hk=>by
   rw[hln] at hk
   have:=hz k hk
   simpa [nmI,in_,List.getElem?_eq_getElem hk] using this
  have hcn:=fun{G:zH} {w:World}=>zNn (w0:=w0) (w:=w) (G:=G) (M:=M) (a:=ao) (cap:=co) (nmI s.insts) (by omega) hnz
  rw[hln] at hcn hO2
  have hall:(List.range s.insts.length).all (fun k=>zB1 (in_ s.insts k).tick 1 1073741824)=true:=List.all_eq_true.2 fun k hk=>hr k (List.mem_range.1 hk)
  repeat' (first|refine yT ?_|(refine' y33 zQb ?_ ?_;rotate_left 2;exact hcn (H.perm (List.perm_append_comm (l₁:=[_]) (l₂:=M))) hO2;rintro v N w ⟨rfl,rfl⟩ H)|refine yU ?_|(refine y17 ?_ ?_;all_goals intro h)|fail)
  all_goals refine zQ rfl H.cl (congrArg Value.bool ?_)
  all_goals rw[zEM,hall,Bool.true_and]
  all_goals simp only[decide_eq_true_eq,decide_eq_false_iff_not] at h
  ·rw[decide_eq_true (by omega)];rfl
  ·rw[decide_eq_false (by omega)];rfl
def zHE (s:Sta):Bool:=zB1 s.clock 0 1099511627776&&zB1 s.fee 0 1000&&zB1 s.nextO 1 1099511627777&&zB1 s.nextA 1 1099511627777
theorem zMV (n:Int)(w0:World):Calls Tryz.prog 170 [.int .i64 n].toArray w0 (Ret (.bool (zB1 n 1 1099511627777)) w0):=by
 refine enter [.tmp 2] Tryz.func170 rfl Tryz.ntmps170 rfl rfl ?_
 have H:=zB w0
 repeat' (first|refine yT ?_|(refine' y30 zJe ?_ ?_;rotate_left;exact zHS n 1 1099511627777 _;intro w hcl;replace H:=H.ext hcl;clear hcl)|refine yU ?_|fail)
 all_goals exact zQ rfl H.cl rfl
theorem zO3 (s:Sta)(p:SPt)(w0:World) :
  Calls Tryz.prog 123 [.agg (s.cells p).toArray].toArray w0 (Ret (.bool (zHE s)) w0):=by
 refine enter [.tmp 2] Tryz.func123 rfl Tryz.ntmps123 rfl rfl ?_
 have H:=zB w0
 repeat' (first|refine yT ?_|refine y7 sg H ?_|(refine y9 H ?_;intro b w H)|(refine' y30 zJe ?_ ?_;rotate_left;exact zHS s.clock 0 1099511627776 _;intro w hcl;replace H:=H.ext hcl;clear hcl)|(refine' y30 zJe ?_ ?_;rotate_left;exact zHS s.fee 0 1000 _;intro w hcl;replace H:=H.ext hcl;clear hcl)|(refine' y34 ent170 ?_ ?_;rotate_left;exact zMV _ _;intro w hcl;replace H:=H.ext hcl;clear hcl)|refine yU ?_|(refine y17 ?_ ?_;all_goals intro h)|fail)
 all_goals exact zQ rfl H.cl (congrArg Value.bool (by unfold zHE;simp only[*,Bool.true_and,Bool.and_true,Bool.false_and,Bool.and_false]))
def zCf (s:Sta)(o:Odr):Bool:=decide (o.id<s.nextO)&&(zBG s.accts o.acct).2&&(zB7 s.insts o.inst).2&&(o.price.tmod (zB7 s.insts o.inst).1.tick==0)
def zBD (s:Sta):Bool:=zd s.orders&&(List.range s.orders.length).all fun k=>zCf s (od_ s.orders k)
theorem zCG {s:Sta}:zBD s=true↔zd s.orders=true∧∀ k,k<s.orders.length→zCf s (od_ s.orders k)=true:=by
 unfold zBD
 rw[Bool.and_eq_true,List.all_eq_true]
 simp only[List.mem_range]
theorem zRH {l:List Ins}(h:zDC l=true){a:Int}(ha:(zB7 l a).2=true):1≤(zB7 l a).1.tick:=by
 unfold zB7 at ha ⊢
 split at ha
 ·rename_i hh
  rw[if_pos hh]
  exact((zH1.1 h).2 _ (by omega)).2.1.1
 ·cases ha
theorem zTc {b:Nat}{T:TypeId}{fr:Nat × Nat}{F:zH}(s:Sta)(p:SPt)(r:Row4)(w0:World)(hF:Mem w0 F)(hs0:StaM F s p)(hm:(b,Obj.cells (s.cells p).toArray T fr)∈F) :
  Calls Tryz.prog 173 [.agg r.cells.toArray,.pointer (some ⟨b,0,none⟩)].toArray w0 (Ret (.bool ((!(r.acct==0)&&!(zBG s.accts r.acct).2)||decide (r.asset>s.insts.length))) w0):=by
 obtain⟨ac,ok,hac⟩:∃ ac ok,zBG s.accts r.acct=(ac,ok):=⟨_,_,rfl⟩
 have opn:∀ {w:World},Mem w F→Calls Tryz.prog 174 [.agg (s.cells p).toArray,.int .i64 r.acct].toArray w (Ret (.bool ok) w):=fun hF=>by
  have:=zJr s p r.acct _ hF hs0
  rw[hac] at this
  exact this
 rw[hac]
 refine enter [.tmp 3] Tryz.func173 rfl Tryz.ntmps173 rfl rfl ?_
 have H:=zB w0
 repeat' (first|refine yT ?_|refine y7 sg H ?_|(refine y9 H ?_;intro b w H)|refine z13 (zG sg rfl rfl (H.memF hF) hm rfl rfl) ?_|(refine' y30 zJf ?_ ?_;rotate_left;exact opn (H.memF hF);intro w hcl;replace H:=H.ext hcl;clear hcl)|refine yU ?_|(refine y17 ?_ ?_;all_goals intro h)|fail)
 all_goals first
  | (have h1:(r.acct != 0)=true:=by assumption
     have h1:(!(r.acct==0))=true:=h1
     exact zQ rfl H.cl (congrArg Value.bool (by simp only[*,Bool.true_and,Bool.or_true,Bool.true_or,Bool.false_or,Bool.not_true,Bool.not_false])))
  | (have h1:(r.acct != 0)=false:=by assumption
     have h1:(!(r.acct==0))=false:=h1
     exact zQ rfl H.cl (congrArg Value.bool (by simp only[*,Bool.false_and,Bool.or_true,Bool.false_or])))
theorem zI5 {s:Sta}(hR:zAJ s.rows=true){k:Nat}(hk:k<s.rows.length) :
  ((!((rw_ s.rows k).acct==0)&&!(zBG s.accts (rw_ s.rows k).acct).2)||decide ((rw_ s.rows k).asset>s.insts.length))=!zEK s k:=by
 have hg:=((zBN.1 hR).1 k hk).1.1
 unfold zEK
 generalize (zBG s.accts (rw_ s.rows k).acct).2=ok
 by_cases h1:(rw_ s.rows k).acct=0
 ·by_cases h2:(rw_ s.rows k).asset≤s.insts.length
  ·have h3:¬ (rw_ s.rows k).asset>s.insts.length:=by omega
   simp[h1,h2]
  ·have h3:(rw_ s.rows k).asset>s.insts.length:=by omega
   simp[h1,h2,h3]
 ·have h4:¬ (rw_ s.rows k).acct≤0:=by omega
  by_cases h2:(rw_ s.rows k).asset≤s.insts.length
  ·have h3:¬ (rw_ s.rows k).asset>s.insts.length:=by omega
   cases ok<;>simp[h1,h2,h4]
  ·have h3:(rw_ s.rows k).asset>s.insts.length:=by omega
   cases ok<;>simp[h1,h2,h3,h4]
theorem c_rows {F:zH}(s:Sta)(p:SPt)(hw:∀ j,j<s.rows.length→(rw_ s.rows j).wf)(w0:World)(hF:Mem w0 F)(hs0:StaM F s p) :
  Calls Tryz.prog 126 [.agg (s.cells p).toArray].toArray w0 (Ret (.bool (zDD s)) w0):=by
 let wr:=fun j=>(!((rw_ s.rows j).acct==0)&&!(zBG s.accts (rw_ s.rows j).acct).2)||decide ((rw_ s.rows j).asset>s.insts.length)
 have cont:∀ {b:Nat} {w:World},Mem w (cb b (s.cells p) 28::F)→Calls Tryz.prog 176 [.slice p.rwA s.rows.length p.rwC,.func (.func 173) #[] #[.pointer (some ⟨b,0,none⟩)]].toArray w (Ret (.bool (decide (idx wr s.rows.length ≥ 0))) w):=fun hM =>
  zIh (caps:=[.pointer (some ⟨_,0,none⟩)]) wr _ hM (SlA.mono hs0.rw (List.subset_cons_self _ _)) ent173 (fun j _ w hw=>zTc s p (rw_ s.rows j) w (hM.ext hw) (hs0.mono (List.subset_cons_self _ _)) (zz2 _))
 have fin:zAJ s.rows=true→(!decide (idx wr s.rows.length ≥ 0))=zDD s:=fun hR=>by
  have e:zDD s=(List.range s.rows.length).all fun k=>zEK s k:=by unfold zDD;rw[hR,Bool.true_and]
  rw[e]
  rcases zY wr s.rows.length with ⟨k,hk,_,hb,hx⟩|⟨ha,hx⟩
  ·rw[hx,decide_eq_true (by omega)]
   symm
   rw[Bool.not_true,List.all_eq_false]
   refine⟨k,List.mem_range.2 hk,?_⟩
   have:=(zI5 hR hk).symm.trans hb
   simpa using this
  ·rw[hx,decide_eq_false (by omega)]
   symm
   rw[Bool.not_false,List.all_eq_true]
   intro k hk
   have hk:=List.mem_range.1 hk
   have:=(zI5 hR hk).symm.trans (ha k hk)
   simpa using this
 refine enter [.tmp 2] Tryz.func126 rfl Tryz.ntmps126 rfl rfl ?_
 have H:=zB w0
 repeat' (first|refine yT ?_|refine y7 sg H ?_|(refine y9 H ?_;intro b w H)|(refine' y30 zJg ?_ ?_;rotate_left;exact zJq s.rows hw _ (H.memF hF) hs0.rw;intro w hcl;replace H:=H.ext hcl;clear hcl)|(refine' y30 ent176 ?_ ?_;rotate_left;exact cont (H.all hF);intro w hcl;replace H:=H.ext hcl;clear hcl)|refine yU ?_|(refine y17 ?_ ?_;all_goals intro h)|fail)
 all_goals first
  | (have h:zAJ s.rows=true:=by assumption
     exact zQ rfl H.cl (congrArg Value.bool (fin h)))
  | (have h:zAJ s.rows=false:=by assumption
     refine zQ rfl H.cl (congrArg Value.bool ?_)
     unfold zDD
     rw[h,Bool.false_and])
  | fail
end
end Go.Proofs.YtibmaifoaajllaaGreatDoor
