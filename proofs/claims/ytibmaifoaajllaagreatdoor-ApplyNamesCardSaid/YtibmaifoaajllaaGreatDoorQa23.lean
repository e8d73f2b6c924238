/- Texts of ours, joined: the steps of the proof, or the claim's theorem. -/
import Derived.Test.YtibmaifoaajllaaGreatDoorQa22
set_option linter.unusedSimpArgs false
set_option linter.unusedVariables false
set_option maxHeartbeats 16000000
namespace Go.Proofs.YtibmaifoaajllaaGreatDoor
section
open Go Go.Sk Go.RowKit
attribute [local irreducible] Go.Calls
def clsL:List Nat:=[97,105,111,99,113,109,122,112,107,98,116,115]
theorem zTn (l:List Nat):u8L l=(List.range l.length).flatMap fun j=>[Value.int .u8 (l.getD j 0:Nat)]:=by
 unfold u8L
 have:∀ k,k≤l.length→(l.take k).map (fun(c:Nat)=>Value.int .u8 (c:Int))=(List.range k).flatMap fun j=>[Value.int .u8 (l.getD j 0:Nat)]:=by
  intro k
  induction k with
  | zero=>intro _;rfl
  | succ k ih =>
    intro hk
    rw[List.range_succ,List.flatMap_append,List.flatMap_singleton,← ih (by omega),List.take_succ_eq_append_getElem (by omega),List.map_append]
    simp[List.getElem?_eq_getElem (show k<l.length by omega)]
 rw[← this _ (Nat.le_refl _),List.take_length]
theorem c_sall {F G:zH}(v:Int)(l:List Nat)(hl:∀ c∈l,c∈clsL)(nums:List Int){a an:Option Addr}{cap ncap:Nat}(w0:World)(hF:Mem w0 F)(hG:Mem w0 G)(h1:SlA G 1 a l.length cap fun j=>[Value.int .u8 (l.getD j 0:Nat)])(h2:Ints F an ncap nums) :
  Calls Tryz.prog 53 [.int .u8 v,.slice a l.length cap,.slice an nums.length ncap].toArray w0 (Ret (.bool (zCg v l nums)) w0):=by
 obtain⟨hn1,hc1,b1,off1,cs1,T1,fr1,hs1⟩:=h1
 obtain⟨hn2,hc2,b2,off2,cs2,T2,fr2,hs2⟩:=h2
 refine enter [.tmp 6] Tryz.func53 rfl Tryz.ntmps53 rfl rfl ?_
 have H:=zB w0
 repeat' (first|refine yT ?_|refine yU ?_|fail)
 refine zJ rfl (fun h=>?_) (fun h=>?_)
 ·repeat' (first|refine yT ?_|refine yU ?_|fail)
  refine zQ rfl H.cl (congrArg Value.bool ?_)
  unfold zCg
  have h:l.length≠nums.length:=fun e=>by rw[e] at h;simp at h
  rw[beq_eq_false_iff_ne.2 h];rfl
 ·have he:l.length=nums.length:=by simp at h;omega
  clear h
  repeat' (first|refine yT ?_|refine yU ?_|with_reducible apply zA|fail)
  refine zM [(6,8),(16,29)] (fun k:Nat=>[(16,.int .i64 (k:Int))]) (fun k w=>k≤l.length∧(∀ j,j<k→zBk v (l.getD j 0) (nums.getD j 0)=true)∧St w0 [] w) (fun k=>l.length - k) 0 ⟨rfl,trivial⟩ ⟨zzD _,fun j hj=>absurd hj (zzE _),H⟩ ?_
  clear H
  rintro k g w ⟨hk,hpk,H⟩
  repeat' (first|refine yT ?_|refine yU ?_|fail)
  refine zJ rfl (fun h=>?_) (fun h=>?_)
  ·have hlt:k<l.length:=by simpa using h
   clear h
   repeat' (first|refine yT ?_|(refine y40 sg (hs1) ?_ ?_ ?_;(omega);(omega))|refine z13 (Yq.loadB1 sg hs1 (H.memF hG) rfl rfl rfl rfl hlt rfl) ?_|(refine y40 sg (hs2) ?_ ?_ ?_;(omega);(omega))|refine z13 (Yq.loadB1 sg hs2 (H.memF hF) rfl rfl rfl rfl (show k<nums.length by omega) rfl) ?_|(refine' y30 ent88 ?_ ?_;rotate_left;exact zRO v (l.getD k 0) (nums.getD k 0) _ (hl _ (zAK 0 hlt));intro w hcl;replace H:=H.ext hcl;clear hcl)|refine yU ?_|with_reducible apply zA|fail)
   refine zJ rfl (fun h=>?_) (fun h=>?_)
   ·repeat' (first|refine yT ?_|refine yU ?_|fail)
    refine zQ rfl H.cl (congrArg Value.bool ?_)
    have hf:zBk v (l.getD k 0) (nums.getD k 0)=false:=by simpa using h
    symm
    unfold zCg
    rw[Bool.and_eq_false_iff]
    refine .inr (Bool.eq_false_iff.2 fun e=>?_)
    have:=List.all_eq_true.1 e k (List.mem_range.2 hlt)
    rw[hf] at this;cases this
   ·repeat' (first|refine yT ?_|refine yU ?_|fail)
    refine zK (k+1) rfl ⟨zZ (by omega),trivial⟩ ⟨hlt,fun j hj=>?_,H⟩ (by omega)
    by_cases hj':j=k
    ·rw[hj'];simpa using h
    ·exact hpk j (by omega)
  ·repeat' (first|refine yT ?_|refine yU ?_|fail)
   have hkn:k=l.length:=by simp at h;omega
   refine zQ rfl H.cl (congrArg Value.bool ?_)
   symm
   unfold zCg
   rw[Bool.and_eq_true,List.all_eq_true]
   exact⟨by rw[he];exact beq_self_eq_true _,fun j hj=>hpk j (by have:=List.mem_range.1 hj;omega)⟩
theorem cls_ev {v kind:Int}(h:32 ∉ zCb (zBl kind) v):∀ c∈zCb (zBl kind) v,c∈clsL:=by
 have key:∀ r∈(List.range 23).map zH7,∀ l∈[r.f1,r.f2,r.f3],32∈l∨∀ c∈l,c∈clsL:=by
  unfold zH7
  decide
 have h2:∀ r,zCb r v∈[r.f1,r.f2,r.f3]:=fun r=>by
  unfold zCb;split
  ·simp
  ·split<;>simp
 unfold zBl at h ⊢
 split at h
 ·rename_i hk
  rw[if_pos hk]
  rcases key _ (List.mem_map.2 ⟨(kind - 1).toNat,List.mem_range.2 (by omega),rfl⟩) _ (h2 _) with e|e
  ·exact absurd e h
  ·exact e
 ·exfalso;apply h;unfold zCb;split
  ·simp
  ·split<;>simp
theorem zI9 (v kind:Int):zFD v kind=if 1≤v∧v≤3∧32 ∉ zCb (zBl kind) v then some (zCb (zBl kind) v,(zBl kind).text) else none:=by
 by_cases hv:1≤v∧v≤3
 ·have e:zH4 v kind=(zCb (zBl kind) v,(zBl kind).text):=by
   unfold zH4 zBl zCb zH7
   by_cases hk:1≤kind∧kind≤23
   ·rw[if_pos hk,if_pos hk]
   ·rw[if_neg hk,if_neg hk];simp
  unfold zFD
  rw[e]
 ·unfold zFD
  rw[if_neg (fun h=>hv ⟨h.1,h.2.1⟩),if_neg (fun h=>hv ⟨h.1,h.2.1⟩)]
structure EPt where
 na:Option Addr
 nc:Nat
 ta:Option Addr
 tc:Nat
def Evt.cells (e:Evt)(p:EPt):List Value:=[.int .u8 e.v,.int .u8 e.kind,.slice p.na e.nums.length p.nc,.slice p.ta e.texts.length p.tc]
structure EvtM (F:zH)(e:Evt)(p:EPt):Prop where
 nums:Ints F p.na p.nc e.nums
 texts:SlA F 1 p.ta e.texts.length p.tc fun j=>[Value.string (e.texts.getD j ByteArray.empty)]
theorem EvtM.mono {F G:zH}{e:Evt}{p:EPt}(h:EvtM F e p)(hs:F⊆G):EvtM G e p:=⟨SlA.mono h.nums hs,SlA.mono h.texts hs⟩
def zFq (e:Evt):Prop:=(0≤e.v∧e.v≤255)∧(0≤e.kind∧e.kind≤255)∧∀ t∈e.texts,t.size≤140737488355328
theorem ToldR.cases {r:KRow}{v:Int}{M:zH}{z:Value}(h:ToldR r v M z)(hl:(zCb r v).length≤100) :
  ((1≤v∧v≤3∧32 ∉ zCb r v)∧∃ a cap,z=.tuple #[.slice a (zCb r v).length cap,.bool r.text,.bool true]∧SlA M 1 a (zCb r v).length cap fun j=>[Value.int .u8 ((zCb r v).getD j 0:Nat)]) ∨
  (¬(1≤v∧v≤3∧32 ∉ zCb r v)∧z=.tuple #[.slice none 0 0,.bool false,.bool false]):=by
 unfold ToldR at h
 split at h
 ·rename_i hc
  obtain⟨a,cap,rfl,hO⟩:=h
  rw[zTn] at hO
  exact .inl ⟨hc,a,cap,rfl,hO.sl (fun _ hx=>hx) (fun _ _=>rfl) (by omega)⟩
 ·rename_i hc
  exact .inr ⟨hc,h.2⟩
theorem zTo (kind v:Int):(zCb (zBl kind) v).length≤100:=by
 obtain⟨_,_,_,a,b,c⟩:=zRT kind
 unfold zCb;split
 ·exact a
 ·split
  ·exact b
  ·exact c
theorem zNr {F:zH}(e:Evt)(p:EPt)(he:zFq e)(w0:World)(hF:Mem w0 F)(hK:KinM F)(hE:EvtM F e p) :
  Calls Tryz.prog 30 [.agg (e.cells p).toArray].toArray w0 (Ret (.bool (zBa e)) w0):=by
 obtain⟨hn2,hc2,b2,off2,cs2,T2,fr2,hs2⟩:=hE.texts
 refine enter [.tmp 2] Tryz.func30 rfl Tryz.ntmps30 rfl rfl ?_
 have H:=zB w0
 repeat' (first|refine yT ?_|refine y7 sg H ?_|(refine y9 H ?_;intro b w H)|(refine' y32 ent52 ?_ ?_;rotate_left;exact zRU e.v e.kind he.2.1 _ (H.memF hF) hK;intro z M w hR hS;replace H:=H.addR hS;clear hS;(try simp only[List.cons_append,List.nil_append] at H);obtain⟨hc,a,cap,rfl,hO⟩|⟨hc,rfl⟩:=hR.cases (zTo _ _))|(refine' y30 ent53 ?_ ?_;rotate_left;exact c_sall e.v _ (cls_ev hc.2.2) e.nums _ (H.memF hF) H.mem (hO.mono (fun x hx=>zz4 _ hx)) hE.nums;intro w hcl;replace H:=H.ext hcl;clear hcl)|refine yU ?_|fail)
 ·have hf:zBa e=(zCg e.v (zCb (zBl e.kind) e.v) e.nums&&(if (zBl e.kind).text then e.texts.length==1&&zAR (e.texts.getD 0 ByteArray.empty) else e.texts.length==0)):=by
   unfold zBa;rw[zI9,if_pos hc]
  refine zJ rfl (fun h=>?_) (fun h=>?_)
  ·repeat' (first|refine yT ?_|refine yU ?_|fail)
   have h:zCg e.v (zCb (zBl e.kind) e.v) e.nums=false:=by simpa using h
   exact zQ rfl H.cl (by rw[hf,h];rfl)
  ·have hnum:zCg e.v (zCb (zBl e.kind) e.v) e.nums=true:=by simpa using h
   clear h
   repeat' (first|refine yT ?_|refine yU ?_|fail)
   refine zJ rfl (fun ht=>?_) (fun ht=>?_)
   ·by_cases h1:e.texts.length=1
    ·have hd:((e.texts.length:Int)==1)=true:=by rw[h1];rfl
     repeat' (first|refine yT ?_|refine y7 sg H ?_|(refine y40 sg (hs2) ?_ ?_ ?_;(omega);(omega))|refine z13 (Yq.loadB1 sg hs2 (H.memF hF) rfl rfl rfl rfl (show 0<e.texts.length by omega) rfl) ?_|(refine' y30 ent54 ?_ ?_;rotate_left;exact zI3 (e.texts.getD 0 ByteArray.empty) (he.2.2 _ (zAK _ (by omega))) _;intro w hcl;replace H:=H.ext hcl;clear hcl)|refine yU ?_|(refine y17 ?_ ?_;all_goals(intro h;try (exfalso;first|((rw[hd] at h;cases h);done))))|fail)
     exact zQ rfl H.cl (by rw[hf,hnum,ht,h1];rfl)
    ·have hd:((e.texts.length:Int)==1)=false:=beq_eq_false_iff_ne.2 (by omega)
     repeat' (first|refine yT ?_|refine y7 sg H ?_|refine yU ?_|(refine y17 ?_ ?_;all_goals(intro h;try (exfalso;first|((rw[hd] at h;cases h);done))))|fail)
     exact zQ rfl H.cl (by rw[hf,hnum,ht,beq_eq_false_iff_ne.2 h1];simp[*])
   ·repeat' (first|refine yT ?_|refine y7 sg H ?_|refine yU ?_|fail)
    exact zQ rfl H.cl (by rw[hf,hnum,ht];simp;rw[Bool.eq_iff_iff];simp)
 ·have hf:zBa e=false:=by unfold zBa;rw[zI9,if_neg hc]
  exact zQ rfl H.cl (by rw[hf])
def zBV (c:Nat)(z:Nat→Nat)(n:Nat):Nat→Nat
 | 0=>n
 | k+1=>if zBV c z n k≤c then zBV c z n k+z k else zBV c z n k
theorem zGF {c:Nat}{z:Nat→Nat}{n B:Nat}:∀ k,(∀ j,j<k→z j≤B)→zBV c z n k≤n+c+B
 | 0,_=>by unfold zBV;omega
 | k+1,h=>by
   have:=zGF (c:=c) (n:=n) k fun j hj=>h j (by omega)
   have hk:=h k (by omega)
   unfold zBV
   split<;>omega
theorem zEt {c:Nat}{z:Nat→Nat}{n k:Nat}:∀ {m:Nat},k≤m→¬ (k<m∧zBV c z n k≤c)→zBV c z n m=zBV c z n k
 | 0, hk, h => by obtain rfl:k=0:=by omega
                  rfl
 | m+1,hk,h=>by
   by_cases hm:k=m+1
   ·rw[hm]
   ·have ih:=zEt (c:=c) (z:=z) (n:=n) (k:=k) (m:=m) (by omega) (by omega)
    rw[zBV,ih,if_neg (by omega)]
theorem zGG (c:Nat)(z:Nat→Nat)(n:Nat):∀ m,zBV c z n m≤c→n≤zBV c z n m∧∀ k,k<m→z k≤zBV c z n m
 | 0,_=>⟨zzC _,fun k hk=>absurd hk (zzE k)⟩
 | m+1,h=>by
   rw[zBV] at h ⊢
   by_cases h1:zBV c z n m≤c
   ·rw[if_pos h1] at h ⊢
    obtain⟨a,b⟩:=zGG c z n m h1
    refine⟨by omega,fun k hk=>?_⟩
    by_cases hkm:k=m
    ·subst hkm;omega
    ·have:=b k (by omega);omega
   ·rw[if_neg h1] at h;exact absurd h h1
def lgN (s:Sta):Nat:=s.accts.length+s.insts.length+s.rows.length+s.orders.length+s.aucs.length
def zJ4 (s:Sta)(k:Nat):Nat:=min (s.aucs.getD k default).bids.length 1501
def zJ5 (s:Sta)(k:Nat):Nat:=(ac_ s.accts k).name.size / 300
def zJ6 (s:Sta)(k:Nat):Nat:=(in_ s.insts k).name.size / 300
def lgU (s:Sta):Nat:=zBV 1500 (zJ4 s) (lgN s) s.aucs.length
def lgA (s:Sta):Nat:=zBV 1500 (zJ5 s) (lgU s) s.accts.length
def lgI (s:Sta):Nat:=zBV 1500 (zJ6 s) (lgA s) s.insts.length
def zCu (s:Sta):Bool:=decide ((lgI s:Int)>1500)
structure Smal (s:Sta):Prop where
 n:s.accts.length+s.insts.length+s.rows.length+s.orders.length+s.aucs.length≤1500
 acN:∀ k,k<s.accts.length→(ac_ s.accts k).name.size≤451000
 insN:∀ k,k<s.insts.length→(in_ s.insts k).name.size≤451000
 bd:∀ k,k<s.aucs.length→(s.aucs.getD k default).bids.length≤1500
theorem zDv {s:Sta}(h:zCu s=false):Smal s:=by
 have h0:lgI s≤1500:=by unfold zCu at h;have:=zzB h;omega
 obtain⟨c1,c2⟩:=zGG 1500 (zJ6 s) (lgA s) s.insts.length h0
 have e3:zBV 1500 (zJ6 s) (lgA s) s.insts.length=lgI s:=rfl
 rw[e3] at c1 c2
 obtain⟨b1,b2⟩:=zGG 1500 (zJ5 s) (lgU s) s.accts.length (show lgA s≤1500 by omega)
 have e2:zBV 1500 (zJ5 s) (lgU s) s.accts.length=lgA s:=rfl
 rw[e2] at b1 b2
 obtain⟨a1,a2⟩:=zGG 1500 (zJ4 s) (lgN s) s.aucs.length (show lgU s≤1500 by omega)
 have e1:zBV 1500 (zJ4 s) (lgN s) s.aucs.length=lgU s:=rfl
 rw[e1] at a1 a2
 unfold lgN at a1
 exact⟨by omega,fun k hk=>by have:zJ5 s k≤_:=b2 k hk;unfold zJ5 at this;omega,fun k hk=>by have:zJ6 s k≤_:=c2 k hk;unfold zJ6 at this;omega,fun k hk=>by have:zJ4 s k≤_:=a2 k hk;unfold zJ4 at this;omega⟩
theorem zK2 {z:Nat→Nat}{c n k m q d:Nat}{D:Int}(hm:zBV c z n k=m)(hle:m≤c)(hz:min q d=z k)(hd:(d:Int)=D)(hc:c≤1500)(hdb:d≤1501):IntKind.i64.wrap ((m:Int)+if D<(q:Int) then D else(q:Int))=((zBV c z n (k+1):Nat):Int):=by
 rw[zBV,hm,if_pos hle,← hz,← hd]
 split<;>rw[w64 (by omega) (by omega)]<;>omega
theorem zK3 {z:Nat→Nat}{n k m q:Nat}(hm:zBV 1500 z n k=m)(hle:m≤1500)(hz:q / 300=z k)(hq:q≤140737488355328):IntKind.i64.wrap ((m:Int)+IntKind.i64.wrap ((q:Int).tdiv 300))=((zBV 1500 z n (k+1):Nat):Int):=by
 have e:(q:Int).tdiv 300=((q / 300:Nat):Int):=rfl
 rw[zBV,hm,if_pos hle,← hz,e,w64 (x:=((q / 300:Nat):Int)) (by omega) (by omega),w64 (by omega) (by omega)]
 omega
theorem zHU {k n m c:Nat}{C:Int}(hc:(c:Int)=C)(h:¬ (k<n∧m≤c))(b:Prop)(h1:decide ((k:Int)<(n:Int))=true)(h2:decide ((m:Int)≤C)=true):b:=by
 have:=zzA h1;have:=zzA h2;omega
set_option maxRecDepth 20000 in
theorem zFE {F:zH}(s:Sta)(p:SPt)(hac:∀ k,k<s.accts.length→(ac_ s.accts k).name.size≤140737488355328)(hin:∀ k,k<s.insts.length→(in_ s.insts k).name.size≤140737488355328)(w0:World)(hF:Mem w0 F)(hs:StaM F s p) :
  Calls Tryz.prog 10 [.agg (s.cells p).toArray].toArray w0 (Ret (.bool (zCu s)) w0):=by
 obtain⟨ha,hi,hr,ho,hu⟩:=hs
 obtain⟨hna,hca,ba,offa,csa,Ta,fra,ha⟩:=ha
 obtain⟨hni,hci,bi,offi,csi,Ti,fri,hi⟩:=hi
 obtain⟨hnr,hcr,_⟩:=hr
 obtain⟨hno,hco,_⟩:=ho
 obtain⟨⟨hnu,hcu,bu,offu,csu,Tu,fru,hu⟩,hub⟩:=hu
 have hub':∀ k,k<s.aucs.length→(s.aucs.getD k default).bids.length≤140737488355328:=fun k hk=>(hub k hk).2.1
 have hw0:IntKind.i64.wrap (IntKind.i64.wrap (IntKind.i64.wrap (IntKind.i64.wrap ((s.accts.length:Int)+(s.insts.length:Int))+(s.rows.length:Int))+(s.orders.length:Int))+(s.aucs.length:Int))=((lgN s:Nat):Int):=by
  unfold lgN
  rw[w64 (x:=(s.accts.length:Int)+(s.insts.length:Int)) (by omega) (by omega),w64 (x:=(s.accts.length:Int)+(s.insts.length:Int)+(s.rows.length:Int)) (by omega) (by omega),w64 (x:=(s.accts.length:Int)+(s.insts.length:Int)+(s.rows.length:Int)+(s.orders.length:Int)) (by omega) (by omega),w64 (by omega) (by omega)]
  omega
 have hN:lgN s≤800000000000000:=by unfold lgN;omega
 obtain⟨N,hNe⟩:∃ N,lgN s=N:=⟨_,rfl⟩
 rw[hNe] at hw0 hN
 refine enter [.tmp 2] Tryz.func10 rfl Tryz.ntmps10 rfl rfl ?_
 have H:=zB w0
 repeat' (first|refine yT ?_|refine y7 sg H ?_|(refine y9 H ?_;intro b w H)|refine yU ?_|with_reducible apply zA|fail)
 refine zM [(3,4),(26,46)] (fun k:Nat=>[(3,.int .i64 ((zBV 1500 (zJ4 s) N k:Nat):Int)),(4,.int .i64 (k:Int))]) (fun k w=>St w0 [cb _ (s.cells p) 28] w∧k≤s.aucs.length) (fun k=>s.aucs.length - k) 0 ⟨congrArg (Value.int .i64) hw0,rfl,trivial⟩ ⟨H,zzD _⟩ ?_
 clear H
 rintro k gh w ⟨H,hk⟩
 have hle:=zGF (c:=1500) (z:=zJ4 s) (n:=N) (B:=1501) k fun j _=>by unfold zJ4;omega
 obtain⟨m,hm⟩:∃ m,zBV 1500 (zJ4 s) N k=m:=⟨_,rfl⟩
 rw[hm] at hle ⊢
 by_cases hkl:k<s.aucs.length∧m≤1500
 ·have d1:decide ((k:Int)<(s.aucs.length:Int))=true:=decide_eq_true (by omega)
  have d2:decide ((m:Int)≤1500)=true:=decide_eq_true (by omega)
  repeat' (first|refine yT ?_|refine y7 sg H ?_|(refine y40 sg (hu) ?_ ?_ ?_;(omega);(omega))|(refine y44 sg (hu) ((H.memF hF)) ?_ ?_;(omega))|refine yU ?_|(refine y17 ?_ ?_;all_goals(intro h;try (exfalso;first|((rw[d1] at h;cases h);done)|((rw[d2] at h;cases h);done))))|with_reducible apply zA|(refine y23 ?_ ?_;all_goals(intro h;try (exfalso;first|((rw[d1] at h;cases h);done)|((rw[d2] at h;cases h);done))))|fail)
  exact zK (k+1) rfl ⟨congrArg (Value.int .i64) (zK2 (d:=1501) hm hkl.2 rfl rfl (by omega) (by omega)),zZ (by omega),trivial⟩ ⟨H,hkl.1⟩ (by omega)
 have hd:=fun b=>zHU (c:=1500) rfl hkl b
 have e1:lgU s=m:=by unfold lgU;rw[hNe,zEt hk (by rw[hm];exact hkl),hm]
 clear hkl hm hk
 repeat' (first|refine yT ?_|refine y7 sg H ?_|refine yU ?_|(refine y17 ?_ ?_;all_goals(intro h;try (exfalso;first|((exact hd _ ‹_› h);done))))|with_reducible apply zA|(refine y23 ?_ ?_;all_goals(intro h;try (exfalso;first|((exact hd _ ‹_› h);done))))|fail)
 all_goals
  clear hd
  refine zM [(3,3),(5,5),(47,67)] (fun k:Nat=>[(3,.int .i64 ((zBV 1500 (zJ5 s) m k:Nat):Int)),(5,.int .i64 (k:Int))]) (fun k w=>St w0 [cb _ (s.cells p) 28] w∧k≤s.accts.length) (fun k=>s.accts.length - k) 0 ⟨rfl,rfl,trivial⟩ ⟨H,zzD _⟩ ?_
  clear H
  rintro k gh w ⟨H,hk⟩
  have hle1:=zGF (c:=1500) (z:=zJ5 s) (n:=m) (B:=140737488355328) k fun j hj=>by have:=hac j (by omega);unfold zJ5;omega
  obtain⟨m1,hm1⟩:∃ m1,zBV 1500 (zJ5 s) m k=m1:=⟨_,rfl⟩
  rw[hm1] at hle1 ⊢
  by_cases hkl:k<s.accts.length∧m1≤1500
  ·have d1:decide ((k:Int)<(s.accts.length:Int))=true:=decide_eq_true (by omega)
   have d2:decide ((m1:Int)≤1500)=true:=decide_eq_true (by omega)
   repeat' (first|refine yT ?_|refine y7 sg H ?_|(refine y40 sg (ha) ?_ ?_ ?_;(omega);(omega))|(refine y44 sg (ha) ((H.memF hF)) ?_ ?_;(omega))|refine yU ?_|(refine y17 ?_ ?_;all_goals(intro h;try (exfalso;first|((rw[d1] at h;cases h);done)|((rw[d2] at h;cases h);done))))|with_reducible apply zA|(refine y23 ?_ ?_;all_goals(intro h;try (exfalso;first|((rw[d1] at h;cases h);done)|((rw[d2] at h;cases h);done))))|fail)
   exact zK (k+1) rfl ⟨congrArg (Value.int .i64) (zK3 hm1 hkl.2 rfl (hac k hkl.1)),zZ (by omega),trivial⟩ ⟨H,hkl.1⟩ (by omega)
  have hd:=fun b=>zHU (c:=1500) rfl hkl b
  have e2:lgA s=m1:=by unfold lgA;rw[e1,zEt hk (by rw[hm1];exact hkl),hm1]
  clear hkl hm1 hk
  repeat' (first|refine yT ?_|refine y7 sg H ?_|refine yU ?_|(refine y17 ?_ ?_;all_goals(intro h;try (exfalso;first|((exact hd _ ‹_› h);done))))|with_reducible apply zA|(refine y23 ?_ ?_;all_goals(intro h;try (exfalso;first|((exact hd _ ‹_› h);done))))|fail)
  all_goals
   clear hd
   refine zM [(3,3),(6,6),(68,88)] (fun k:Nat=>[(3,.int .i64 ((zBV 1500 (zJ6 s) m1 k:Nat):Int)),(6,.int .i64 (k:Int))]) (fun k w=>St w0 [cb _ (s.cells p) 28] w∧k≤s.insts.length) (fun k=>s.insts.length - k) 0 ⟨rfl,rfl,trivial⟩ ⟨H,zzD _⟩ ?_
   clear H
   rintro k gh w ⟨H,hk⟩
   have hle2:=zGF (c:=1500) (z:=zJ6 s) (n:=m1) (B:=140737488355328) k fun j hj=>by have:=hin j (by omega);unfold zJ6;omega
   obtain⟨m2,hm2⟩:∃ m2,zBV 1500 (zJ6 s) m1 k=m2:=⟨_,rfl⟩
   rw[hm2] at hle2 ⊢
   by_cases hkl:k<s.insts.length∧m2≤1500
   ·have d1:decide ((k:Int)<(s.insts.length:Int))=true:=decide_eq_true (by omega)
    have d2:decide ((m2:Int)≤1500)=true:=decide_eq_true (by omega)
    repeat' (first|refine yT ?_|refine y7 sg H ?_|(refine y40 sg (hi) ?_ ?_ ?_;(omega);(omega))|(refine y44 sg (hi) ((H.memF hF)) ?_ ?_;(omega))|refine yU ?_|(refine y17 ?_ ?_;all_goals(intro h;try (exfalso;first|((rw[d1] at h;cases h);done)|((rw[d2] at h;cases h);done))))|with_reducible apply zA|(refine y23 ?_ ?_;all_goals(intro h;try (exfalso;first|((rw[d1] at h;cases h);done)|((rw[d2] at h;cases h);done))))|fail)
    exact zK (k+1) rfl ⟨congrArg (Value.int .i64) (zK3 hm2 hkl.2 rfl (hin k hkl.1)),zZ (by omega),trivial⟩ ⟨H,hkl.1⟩ (by omega)
   have hd:=fun b=>zHU (c:=1500) rfl hkl b
   have e3:lgI s=m2:=by unfold lgI;rw[e2,zEt hk (by rw[hm2];exact hkl),hm2]
   clear hkl hm2 hk
   repeat' (first|refine yT ?_|refine y7 sg H ?_|refine yU ?_|(refine y17 ?_ ?_;all_goals(intro h;try (exfalso;first|((exact hd _ ‹_› h);done))))|(refine y23 ?_ ?_;all_goals(intro h;try (exfalso;first|((exact hd _ ‹_› h);done))))|fail)
   all_goals
    refine zQ rfl H.cl (congrArg Value.bool ?_)
    unfold zCu
    rw[e3]
def odz (e:Evt)(k:Nat):Nat:=min (e.texts.getD k ByteArray.empty).size 300
def oddN (e:Evt):Nat:=zBV 300 (odz e) (e.nums.length+e.texts.length) e.texts.length
def zGn (e:Evt):Bool:=decide ((oddN e:Int)>300)
theorem zK4 {F:zH}(e:Evt)(q:EPt)(w0:World)(hF:Mem w0 F)(hM:EvtM F e q) :
  Calls Tryz.prog 11 [.agg (e.cells q).toArray].toArray w0 (Ret (.bool (zGn e)) w0):=by
 obtain⟨hn1,hc1,b1,off1,cs1,T1,fr1,hs1⟩:=hM.nums
 obtain⟨hn2,hc2,b2,off2,cs2,T2,fr2,hs2⟩:=hM.texts
 have hw0:IntKind.i64.wrap ((e.nums.length:Int)+(e.texts.length:Int))=((e.nums.length+e.texts.length:Nat):Int):=by
  rw[w64 (by omega) (by omega)];omega
 have hN:e.nums.length+e.texts.length≤800000000000000:=by omega
 obtain⟨N,hNe⟩:∃ N,e.nums.length+e.texts.length=N:=⟨_,rfl⟩
 rw[hNe] at hw0 hN
 refine enter [.tmp 2] Tryz.func11 rfl Tryz.ntmps11 rfl rfl ?_
 have H:=zB w0
 repeat' (first|refine yT ?_|refine y7 sg H ?_|(refine y9 H ?_;intro b w H)|refine yU ?_|with_reducible apply zA|fail)
 refine zM [(3,4),(12,31)] (fun k:Nat=>[(3,.int .i64 ((zBV 300 (odz e) N k:Nat):Int)),(4,.int .i64 (k:Int))]) (fun k w=>St w0 [cb _ (e.cells q) 32] w∧k≤e.texts.length) (fun k=>e.texts.length - k) 0 ⟨congrArg (Value.int .i64) hw0,rfl,trivial⟩ ⟨H,zzD _⟩ ?_
 clear H
 rintro k gh w ⟨H,hk⟩
 have hle:=zGF (c:=300) (z:=odz e) (n:=N) (B:=300) k fun j _=>by unfold odz;omega
 obtain⟨m,hm⟩:∃ m,zBV 300 (odz e) N k=m:=⟨_,rfl⟩
 rw[hm] at hle ⊢
 by_cases hkl:k<e.texts.length∧m≤300
 ·have d1:decide ((k:Int)<(e.texts.length:Int))=true:=decide_eq_true (by omega)
  have d2:decide ((m:Int)≤300)=true:=decide_eq_true (by omega)
  have hlt:=hkl.1
  repeat' (first|refine yT ?_|refine y7 sg H ?_|(refine y40 sg (hs2) ?_ ?_ ?_;(omega);(omega))|refine z13 (Yq.loadB1 sg hs2 (H.memF hF) rfl rfl rfl rfl hlt rfl) ?_|refine yU ?_|(refine y17 ?_ ?_;all_goals(intro h;try (exfalso;first|((rw[d1] at h;cases h);done)|((rw[d2] at h;cases h);done))))|with_reducible apply zA|(refine y23 ?_ ?_;all_goals(intro h;try (exfalso;first|((rw[d1] at h;cases h);done)|((rw[d2] at h;cases h);done))))|fail)
  exact zK (k+1) rfl ⟨congrArg (Value.int .i64) (zK2 (d:=300) hm hkl.2 rfl rfl (by omega) (by omega)),zZ (by omega),trivial⟩ ⟨H,hkl.1⟩ (by omega)
 have hd:=fun b=>zHU (c:=300) rfl hkl b
 have e1:oddN e=m:=by unfold oddN;rw[hNe,zEt hk (by rw[hm];exact hkl),hm]
 clear hkl hm hk
 repeat' (first|refine yT ?_|refine y7 sg H ?_|refine yU ?_|(refine y17 ?_ ?_;all_goals(intro h;try (exfalso;first|((exact hd _ ‹_› h);done))))|(refine y23 ?_ ?_;all_goals(intro h;try (exfalso;first|((exact hd _ ‹_› h);done))))|fail)
 all_goals
  refine zQ rfl H.cl (congrArg Value.bool ?_)
  unfold zGn
  rw[e1]
end
section
open Go Go.Sk Go.RowKit
theorem zMX {n cap:Nat}{a:Option Addr}{el:Nat→List Value}{f:FuncId}{caps:List Value}{F:zH}(p:Nat→Bool)(w0:World)(hF:Mem w0 F)(hs:SlA F 2 a n cap el)(hf:Ent Tryz.prog f)
  (hp:∀ j,j<n→∀ w,Cl w0 w→Calls Tryz.prog f ([Value.agg (el j).toArray]++caps).toArray w (Ret (.bool (p j)) w)) :
  Calls Tryz.prog 186 [.slice a n cap,.func (.func f) #[] caps.toArray].toArray w0 (Ret (.int .i64 (idx p n)) w0):=by
 obtain⟨hn,hc,b,off,cs,T,fr,hs⟩:=hs
 refine enter [.tmp 4] Tryz.func186 rfl Tryz.ntmps186 rfl rfl ?_
 have H:=zB w0
 repeat' (first|refine yT ?_|refine yU ?_|with_reducible apply zA|fail)
 refine zM [(4,5),(8,18)] (fun k:Nat=>[(8,.int .i64 (k:Int))]) (fun k w=>k≤n∧(∀ j,j<k→p j=false)∧St w0 [] w) (fun k=>n - k) 0 ⟨rfl,trivial⟩ ⟨zzD _,fun j hj=>by omega,H⟩ ?_
 clear H
 rintro k g w ⟨hk,hpk,H⟩
 repeat' (first|refine yT ?_|refine yU ?_|fail)
 refine zJ rfl (fun h=>?_) (fun h=>?_)
 ·have hlt:k<n:=by simpa using h
  repeat' (first|refine yT ?_|(refine zf rfl rfl (zF sg hs rfl rfl rfl rfl rfl rfl rfl rfl (by omega) (by omega)) ?_)|(refine zf rfl rfl (zBX sg hs (H.memF hF) rfl rfl rfl rfl rfl hlt) ?_)|(refine OX.call rfl rfl (zBf hf rfl rfl rfl) (hp k hlt _ H.cl) ?_;intro w hcl;replace H:=H.ext hcl;clear hcl)|refine yU ?_|with_reducible apply zA|fail)
  refine zJ rfl (fun h2=>?_) (fun h2=>?_)
  ·repeat' (first|refine yT ?_|refine yU ?_|fail)
   exact zQ rfl H.cl (by rw[zBx hlt hpk h2])
  ·repeat' (first|refine yT ?_|refine yU ?_|fail)
   refine zK (k+1) rfl ⟨zZ (by omega),trivial⟩ ⟨hlt,fun j hj=>?_,H⟩ (by omega)
   by_cases hj':j=k
   ·rw[hj',h2]
   ·exact hpk j (by omega)
 ·repeat' (first|refine yT ?_|refine yU ?_|fail)
  have hkn:k=n:=by simp at h;omega
  exact zQ rfl H.cl (by rw[zBB (hkn ▸ hpk)])
theorem zMY {n cap:Nat}{a:Option Addr}{el:Nat→List Value}{f:FuncId}{caps:List Value}{F:zH}(p:Nat→Bool)(w0:World)(hF:Mem w0 F)(hs:SlA F 3 a n cap el)(hf:Ent Tryz.prog f)
  (hp:∀ j,j<n→∀ w,Cl w0 w→Calls Tryz.prog f ([Value.agg (el j).toArray]++caps).toArray w (Ret (.bool (p j)) w)) :
  Calls Tryz.prog 191 [.slice a n cap,.func (.func f) #[] caps.toArray].toArray w0 (Ret (.int .i64 (idx p n)) w0):=by
 obtain⟨hn,hc,b,off,cs,T,fr,hs⟩:=hs
 refine enter [.tmp 4] Tryz.func191 rfl Tryz.ntmps191 rfl rfl ?_
 have H:=zB w0
 repeat' (first|refine yT ?_|refine yU ?_|with_reducible apply zA|fail)
 refine zM [(4,5),(8,18)] (fun k:Nat=>[(8,.int .i64 (k:Int))]) (fun k w=>k≤n∧(∀ j,j<k→p j=false)∧St w0 [] w) (fun k=>n - k) 0 ⟨rfl,trivial⟩ ⟨zzD _,fun j hj=>by omega,H⟩ ?_
 clear H
 rintro k g w ⟨hk,hpk,H⟩
 repeat' (first|refine yT ?_|refine yU ?_|fail)
 refine zJ rfl (fun h=>?_) (fun h=>?_)
 ·have hlt:k<n:=by simpa using h
  repeat' (first|refine yT ?_|(refine zf rfl rfl (zF sg hs rfl rfl rfl rfl rfl rfl rfl rfl (by omega) (by omega)) ?_)|(refine zf rfl rfl (zBX sg hs (H.memF hF) rfl rfl rfl rfl rfl hlt) ?_)|(refine OX.call rfl rfl (zBf hf rfl rfl rfl) (hp k hlt _ H.cl) ?_;intro w hcl;replace H:=H.ext hcl;clear hcl)|refine yU ?_|with_reducible apply zA|fail)
  refine zJ rfl (fun h2=>?_) (fun h2=>?_)
  ·repeat' (first|refine yT ?_|refine yU ?_|fail)
   exact zQ rfl H.cl (by rw[zBx hlt hpk h2])
  ·repeat' (first|refine yT ?_|refine yU ?_|fail)
   refine zK (k+1) rfl ⟨zZ (by omega),trivial⟩ ⟨hlt,fun j hj=>?_,H⟩ (by omega)
   by_cases hj':j=k
   ·rw[hj',h2]
   ·exact hpk j (by omega)
 ·repeat' (first|refine yT ?_|refine yU ?_|fail)
  have hkn:k=n:=by simp at h;omega
  exact zQ rfl H.cl (by rw[zBB (hkn ▸ hpk)])
theorem zIo {n cap:Nat}{a:Option Addr}{el:Nat→List Value}{f:FuncId}{caps:List Value}{F:zH}(p:Nat→Bool)(w0:World)(hF:Mem w0 F)(hs:SlA F 3 a n cap el)(hf:Ent Tryz.prog f)
  (hp:∀ j,j<n→∀ w,Cl w0 w→Calls Tryz.prog f ([Value.agg (el j).toArray]++caps).toArray w (Ret (.bool (p j)) w)) :
  Calls Tryz.prog 141 [.slice a n cap,.func (.func f) #[] caps.toArray].toArray w0 (Ret (.bool (decide (idx p n ≥ 0))) w0):=by
 refine enter [.tmp 4] Tryz.func141 rfl Tryz.ntmps141 rfl rfl ?_
 have H:=zB w0
 repeat' (first|refine yT ?_|(refine' y30 ent191 ?_ ?_;rotate_left;exact zMY p _ (H.memF hF) hs hf (fun j hj w' hw'=>hp j hj w' (H.cl.trans hw'));intro w hcl;replace H:=H.ext hcl;clear hcl)|refine yU ?_|fail)
 all_goals exact zQ rfl H.cl rfl
theorem zMZ {n cap:Nat}{a:Option Addr}{el:Nat→List Value}{F:zH}(w0:World)(hF:Mem w0 F)(hs:SlA F 2 a n cap el)(h1:∀ j,j<n→∀ u∈el j,u.oneCell'=true)(hel:∀ j,j<n→(el j).length=2)(hn:n*24≤140737488355328) :
  Calls Tryz.prog 75 [.slice a n cap].toArray w0 (zn (fun M v=>∃ a' cap',v=.slice a' n cap'∧Go.Sk.Own M 74 2 a' n cap' ((List.range n).flatMap el)) w0):=by
 obtain⟨hnc,hcb,b,off,cs,T,fr,hs⟩:=hs
 refine enter [.tmp 2] Tryz.func75 rfl Tryz.ntmps75 rfl rfl ?_
 have H:=zB w0
 repeat' (first|refine yT ?_|(refine zf rfl rfl (Yq.nilS sg rfl rfl rfl rfl) ?_)|refine yU ?_|fail)
 refine zJ rfl (fun h=>?_) (fun h=>?_)
 ·have hn0:n=0:=by
   rcases Nat.eq_zero_or_pos n with h0|h0
   ·exact h0
   ·rw[(hs h0).1] at h;cases h
  subst hn0
  repeat' (first|refine yT ?_|refine yU ?_|fail)
  exact zU rfl H ⟨_,_,rfl,zTC _ _ _⟩
 ·have hM:=H.memF hF
  have hlen:∀ m,m≤n→((List.range m).flatMap el).length=m*2:=by
   intro m
   induction m with
   | zero=>intro _;rfl
   | succ m ih=>intro hm;rw[List.range_succ,List.flatMap_append,List.length_append,ih (by omega),List.flatMap_singleton,hel m (by omega)];omega
  have hflat:∀ m,m≤n→∀ j u,((List.range m).flatMap el)[j]?=some u→0<n→cs[off+j]?=some u:=by
   intro m
   induction m with
   | zero=>intro _ j u hj;cases hj
   | succ m ih =>
     intro hm j u hj h0
     rw[List.range_succ,List.flatMap_append,List.flatMap_singleton] at hj
     by_cases hjm:j<m*2
     ·rw[List.getElem?_append_left (by rw[hlen m (by omega)];exact hjm)] at hj
      exact ih (by omega) j u hj h0
     ·rw[List.getElem?_append_right (by rw[hlen m (by omega)];omega),hlen m (by omega)] at hj
      have h2:=((hs h0).2.2 m (by omega)).2
      rw[← h2,List.getElem?_take] at hj
      split at hj
      ·rw[List.getElem?_drop] at hj
       rw[show off+j=off+m*2+(j - m*2) by omega];exact hj
      ·cases hj
  have hsrc:∀ w,Mem w F→Src w (.slice a n cap) n ((List.range n).flatMap el):=by
   intro w hM
   rcases Nat.eq_zero_or_pos n with h0|h0
   ·subst h0
    cases a with
    | none=>cases h
    | some a=>exact .inl ⟨a,cap,rfl,fun j u hj=>by cases hj⟩
   ·obtain⟨rfl,hm,_⟩:=hs h0
    refine .inl ⟨_,_,rfl,fun j u hj=>?_⟩
    rw[zz,zBw hM hm]
    exact hflat n (zzC _) j u hj h0
  clear hM
  have hone:∀ u∈(List.range n).flatMap el,u.oneCell'=true:=by
   intro u hu;obtain⟨j,hj,hu⟩:=List.mem_flatMap.1 hu;exact h1 j (List.mem_range.1 hj) u hu
  repeat' (first|refine yT ?_|(refine zCV sg H rfl rfl rfl rfl rfl rfl ?_;intro b w H _)|(refine zo sg 2 24 (M:=[]) (G:=[]) H rfl rfl rfl rfl rfl rfl rfl rfl rfl rfl rfl (zTC _ _ _) (hsrc _ (H.memF hF)) (hlen n (zzC _)) hone (by unfold maxLen;omega) (by omega) ?_;intro a' cap' M w hO H;simp only[Nat.zero_add,List.nil_append] at hO;rw[List.append_nil] at H;rw[Nat.zero_add])|refine yU ?_|fail)
  exact zU rfl H ⟨_,_,rfl,hO⟩
theorem zMa {n cap:Nat}{a:Option Addr}{el:Nat→List Value}{F:zH}(w0:World)(hF:Mem w0 F)(hs:SlA F 3 a n cap el)(h1:∀ j,j<n→∀ u∈el j,u.oneCell'=true)(hel:∀ j,j<n→(el j).length=3)(hn:n*32≤140737488355328) :
  Calls Tryz.prog 76 [.slice a n cap].toArray w0 (zn (fun M v=>∃ a' cap',v=.slice a' n cap'∧Go.Sk.Own M 76 3 a' n cap' ((List.range n).flatMap el)) w0):=by
 obtain⟨hnc,hcb,b,off,cs,T,fr,hs⟩:=hs
 refine enter [.tmp 2] Tryz.func76 rfl Tryz.ntmps76 rfl rfl ?_
 have H:=zB w0
 repeat' (first|refine yT ?_|(refine zf rfl rfl (Yq.nilS sg rfl rfl rfl rfl) ?_)|refine yU ?_|fail)
 refine zJ rfl (fun h=>?_) (fun h=>?_)
 ·have hn0:n=0:=by
   rcases Nat.eq_zero_or_pos n with h0|h0
   ·exact h0
   ·rw[(hs h0).1] at h;cases h
  subst hn0
  repeat' (first|refine yT ?_|refine yU ?_|fail)
  exact zU rfl H ⟨_,_,rfl,zTC _ _ _⟩
 ·have hM:=H.memF hF
  have hlen:∀ m,m≤n→((List.range m).flatMap el).length=m*3:=by
   intro m
   induction m with
   | zero=>intro _;rfl
   | succ m ih=>intro hm;rw[List.range_succ,List.flatMap_append,List.length_append,ih (by omega),List.flatMap_singleton,hel m (by omega)];omega
  have hflat:∀ m,m≤n→∀ j u,((List.range m).flatMap el)[j]?=some u→0<n→cs[off+j]?=some u:=by
   intro m
   induction m with
   | zero=>intro _ j u hj;cases hj
   | succ m ih =>
     intro hm j u hj h0
     rw[List.range_succ,List.flatMap_append,List.flatMap_singleton] at hj
     by_cases hjm:j<m*3
     ·rw[List.getElem?_append_left (by rw[hlen m (by omega)];exact hjm)] at hj
      exact ih (by omega) j u hj h0
     ·rw[List.getElem?_append_right (by rw[hlen m (by omega)];omega),hlen m (by omega)] at hj
      have h2:=((hs h0).2.2 m (by omega)).2
      rw[← h2,List.getElem?_take] at hj
      split at hj
      ·rw[List.getElem?_drop] at hj
       rw[show off+j=off+m*3+(j - m*3) by omega];exact hj
      ·cases hj
  have hsrc:∀ w,Mem w F→Src w (.slice a n cap) n ((List.range n).flatMap el):=by
   intro w hM
   rcases Nat.eq_zero_or_pos n with h0|h0
   ·subst h0
    cases a with
    | none=>cases h
    | some a=>exact .inl ⟨a,cap,rfl,fun j u hj=>by cases hj⟩
   ·obtain⟨rfl,hm,_⟩:=hs h0
    refine .inl ⟨_,_,rfl,fun j u hj=>?_⟩
    rw[zz,zBw hM hm]
    exact hflat n (zzC _) j u hj h0
  clear hM
  have hone:∀ u∈(List.range n).flatMap el,u.oneCell'=true:=by
   intro u hu;obtain⟨j,hj,hu⟩:=List.mem_flatMap.1 hu;exact h1 j (List.mem_range.1 hj) u hu
  repeat' (first|refine yT ?_|(refine zCV sg H rfl rfl rfl rfl rfl rfl ?_;intro b w H _)|(refine zo sg 3 32 (M:=[]) (G:=[]) H rfl rfl rfl rfl rfl rfl rfl rfl rfl rfl rfl (zTC _ _ _) (hsrc _ (H.memF hF)) (hlen n (zzC _)) hone (by unfold maxLen;omega) (by omega) ?_;intro a' cap' M w hO H;simp only[Nat.zero_add,List.nil_append] at hO;rw[List.append_nil] at H;rw[Nat.zero_add])|refine yU ?_|fail)
  exact zU rfl H ⟨_,_,rfl,hO⟩
theorem zH8 {n cap:Nat}{a:Option Addr}{el:Nat→List Value}{F:zH}(w0:World)(hF:Mem w0 F)(hs:SlA F 4 a n cap el)(h1:∀ j,j<n→∀ u∈el j,u.oneCell'=true)(hel:∀ j,j<n→(el j).length=4)(hn:n*32≤140737488355328) :
  Calls Tryz.prog 77 [.slice a n cap].toArray w0 (zn (fun M v=>∃ a' cap',v=.slice a' n cap'∧Go.Sk.Own M 70 4 a' n cap' ((List.range n).flatMap el)) w0):=by
 obtain⟨hnc,hcb,b,off,cs,T,fr,hs⟩:=hs
 refine enter [.tmp 2] Tryz.func77 rfl Tryz.ntmps77 rfl rfl ?_
 have H:=zB w0
 repeat' (first|refine yT ?_|(refine zf rfl rfl (Yq.nilS sg rfl rfl rfl rfl) ?_)|refine yU ?_|fail)
 refine zJ rfl (fun h=>?_) (fun h=>?_)
 ·have hn0:n=0:=by
   rcases Nat.eq_zero_or_pos n with h0|h0
   ·exact h0
   ·rw[(hs h0).1] at h;cases h
  subst hn0
  repeat' (first|refine yT ?_|refine yU ?_|fail)
  exact zU rfl H ⟨_,_,rfl,zTC _ _ _⟩
 ·have hM:=H.memF hF
  have hlen:∀ m,m≤n→((List.range m).flatMap el).length=m*4:=by
   intro m
   induction m with
   | zero=>intro _;rfl
   | succ m ih=>intro hm;rw[List.range_succ,List.flatMap_append,List.length_append,ih (by omega),List.flatMap_singleton,hel m (by omega)];omega
  have hflat:∀ m,m≤n→∀ j u,((List.range m).flatMap el)[j]?=some u→0<n→cs[off+j]?=some u:=by
   intro m
   induction m with
   | zero=>intro _ j u hj;cases hj
   | succ m ih =>
     intro hm j u hj h0
     rw[List.range_succ,List.flatMap_append,List.flatMap_singleton] at hj
     by_cases hjm:j<m*4
     ·rw[List.getElem?_append_left (by rw[hlen m (by omega)];exact hjm)] at hj
      exact ih (by omega) j u hj h0
     ·rw[List.getElem?_append_right (by rw[hlen m (by omega)];omega),hlen m (by omega)] at hj
      have h2:=((hs h0).2.2 m (by omega)).2
      rw[← h2,List.getElem?_take] at hj
      split at hj
      ·rw[List.getElem?_drop] at hj
       rw[show off+j=off+m*4+(j - m*4) by omega];exact hj
      ·cases hj
  have hsrc:∀ w,Mem w F→Src w (.slice a n cap) n ((List.range n).flatMap el):=by
   intro w hM
   rcases Nat.eq_zero_or_pos n with h0|h0
   ·subst h0
    cases a with
    | none=>cases h
    | some a=>exact .inl ⟨a,cap,rfl,fun j u hj=>by cases hj⟩
   ·obtain⟨rfl,hm,_⟩:=hs h0
    refine .inl ⟨_,_,rfl,fun j u hj=>?_⟩
    rw[zz,zBw hM hm]
    exact hflat n (zzC _) j u hj h0
  clear hM
  have hone:∀ u∈(List.range n).flatMap el,u.oneCell'=true:=by
   intro u hu;obtain⟨j,hj,hu⟩:=List.mem_flatMap.1 hu;exact h1 j (List.mem_range.1 hj) u hu
  repeat' (first|refine yT ?_|(refine zCV sg H rfl rfl rfl rfl rfl rfl ?_;intro b w H _)|(refine zo sg 4 32 (M:=[]) (G:=[]) H rfl rfl rfl rfl rfl rfl rfl rfl rfl rfl rfl (zTC _ _ _) (hsrc _ (H.memF hF)) (hlen n (zzC _)) hone (by unfold maxLen;omega) (by omega) ?_;intro a' cap' M w hO H;simp only[Nat.zero_add,List.nil_append] at hO;rw[List.append_nil] at H;rw[Nat.zero_add])|refine yU ?_|fail)
  exact zU rfl H ⟨_,_,rfl,hO⟩
theorem zFr {n cap:Nat}{a:Option Addr}{el:Nat→List Value}{F:zH}(w0:World)(hF:Mem w0 F)(hs:SlA F 6 a n cap el)(h1:∀ j,j<n→∀ u∈el j,u.oneCell'=true)(hel:∀ j,j<n→(el j).length=6)(hn:n*48≤140737488355328) :
  Calls Tryz.prog 67 [.slice a n cap].toArray w0 (zn (fun M v=>∃ a' cap',v=.slice a' n cap'∧Go.Sk.Own M 43 6 a' n cap' ((List.range n).flatMap el)) w0):=by
 obtain⟨hnc,hcb,b,off,cs,T,fr,hs⟩:=hs
 refine enter [.tmp 2] Tryz.func67 rfl Tryz.ntmps67 rfl rfl ?_
 have H:=zB w0
 repeat' (first|refine yT ?_|(refine zf rfl rfl (Yq.nilS sg rfl rfl rfl rfl) ?_)|refine yU ?_|fail)
 refine zJ rfl (fun h=>?_) (fun h=>?_)
 ·have hn0:n=0:=by
   rcases Nat.eq_zero_or_pos n with h0|h0
   ·exact h0
   ·rw[(hs h0).1] at h;cases h
  subst hn0
  repeat' (first|refine yT ?_|refine yU ?_|fail)
  exact zU rfl H ⟨_,_,rfl,zTC _ _ _⟩
 ·have hM:=H.memF hF
  have hlen:∀ m,m≤n→((List.range m).flatMap el).length=m*6:=by
   intro m
   induction m with
   | zero=>intro _;rfl
   | succ m ih=>intro hm;rw[List.range_succ,List.flatMap_append,List.length_append,ih (by omega),List.flatMap_singleton,hel m (by omega)];omega
  have hflat:∀ m,m≤n→∀ j u,((List.range m).flatMap el)[j]?=some u→0<n→cs[off+j]?=some u:=by
   intro m
   induction m with
   | zero=>intro _ j u hj;cases hj
   | succ m ih =>
     intro hm j u hj h0
     rw[List.range_succ,List.flatMap_append,List.flatMap_singleton] at hj
     by_cases hjm:j<m*6
     ·rw[List.getElem?_append_left (by rw[hlen m (by omega)];exact hjm)] at hj
      exact ih (by omega) j u hj h0
     ·rw[List.getElem?_append_right (by rw[hlen m (by omega)];omega),hlen m (by omega)] at hj
      have h2:=((hs h0).2.2 m (by omega)).2
      rw[← h2,List.getElem?_take] at hj
      split at hj
      ·rw[List.getElem?_drop] at hj
       rw[show off+j=off+m*6+(j - m*6) by omega];exact hj
      ·cases hj
  have hsrc:∀ w,Mem w F→Src w (.slice a n cap) n ((List.range n).flatMap el):=by
   intro w hM
   rcases Nat.eq_zero_or_pos n with h0|h0
   ·subst h0
    cases a with
    | none=>cases h
    | some a=>exact .inl ⟨a,cap,rfl,fun j u hj=>by cases hj⟩
   ·obtain⟨rfl,hm,_⟩:=hs h0
    refine .inl ⟨_,_,rfl,fun j u hj=>?_⟩
    rw[zz,zBw hM hm]
    exact hflat n (zzC _) j u hj h0
  clear hM
  have hone:∀ u∈(List.range n).flatMap el,u.oneCell'=true:=by
   intro u hu;obtain⟨j,hj,hu⟩:=List.mem_flatMap.1 hu;exact h1 j (List.mem_range.1 hj) u hu
  repeat' (first|refine yT ?_|(refine zCV sg H rfl rfl rfl rfl rfl rfl ?_;intro b w H _)|(refine zo sg 6 48 (M:=[]) (G:=[]) H rfl rfl rfl rfl rfl rfl rfl rfl rfl rfl rfl (zTC _ _ _) (hsrc _ (H.memF hF)) (hlen n (zzC _)) hone (by unfold maxLen;omega) (by omega) ?_;intro a' cap' M w hO H;simp only[Nat.zero_add,List.nil_append] at hO;rw[List.append_nil] at H;rw[Nat.zero_add])|refine yU ?_|fail)
  exact zU rfl H ⟨_,_,rfl,hO⟩
end
section
open Go Go.Sk Go.RowKit
attribute [local irreducible] Go.Calls
def SPt.n0:SPt:=⟨none,0,none,0,none,0,none,0,none,0,fun _=>(none,0)⟩
theorem zK5 (w0:World):Calls Tryz.prog 34 [].toArray w0 (Ret (.agg (Sta.cells zH5 SPt.n0).toArray) w0):=by
 refine enter [.cell 0 28] Tryz.func34 rfl Tryz.ntmps34 rfl rfl ?_
 have H:=zB w0
 repeat' (first|refine yT ?_|(refine y10 sg H ?_;intro b w H)|(refine y11 sg H ?_;intro w H)|refine yU ?_|fail)
 exact zBT (vs:=[_]) ⟨zAf sg rfl H.mem (zz2 _) rfl rfl,trivial⟩ H.cl rfl
theorem zRV (x:Ac)(nm:ByteArray)(b1:Nat){T1:TypeId}{fr1:Nat × Nat}{F:zH}(w0:World)(hF:Mem w0 F)(h1:(b1,Obj.cells [Value.string nm].toArray T1 fr1)∈F) :
  Calls Tryz.prog 187 [.agg x.cells.toArray,.pointer (some ⟨b1,0,none⟩)].toArray w0 (Ret (.bool (x.name.toList==nm.toList)) w0):=by
 refine enter [.tmp 3] Tryz.func187 rfl Tryz.ntmps187 rfl rfl ?_
 have H:=zB w0
 repeat' (first|refine yT ?_|refine y7 sg H ?_|(refine y9 H ?_;intro b w H)|refine z13 (zG sg rfl rfl (H.memF hF) h1 rfl rfl) ?_|refine yU ?_|fail)
 exact zQ rfl H.cl rfl
theorem zNs {F:zH}(s:Sta)(p:SPt)(nm:ByteArray)(w0:World)(hF:Mem w0 F)(hs:StaM F s p) :
  Calls Tryz.prog 137 [.agg (s.cells p).toArray,.string nm].toArray w0 (Ret (.int .i64 (zA7 s.accts nm+1)) w0):=by
 have hb:-1≤idx (fun j=>(ac_ s.accts j).name.toList==nm.toList) s.accts.length∧idx (fun j=>(ac_ s.accts j).name.toList==nm.toList) s.accts.length<s.accts.length:=by
  rcases zY (fun j=>(ac_ s.accts j).name.toList==nm.toList) s.accts.length with ⟨k,h1,_,_,h2⟩|⟨_,h2⟩<;>(rw[h2];omega)
 have hl:=hs.ac.2.1
 refine enter [.tmp 4] Tryz.func137 rfl Tryz.ntmps137 rfl rfl ?_
 have H:=zB w0
 repeat' (first|refine yT ?_|refine y7 sg H ?_|(refine y9 H ?_;intro b w H)|(refine' y30 ent186 ?_ ?_;rotate_left;exact zMX (caps:=[.pointer (some ⟨_,0,none⟩)]) (fun j=>(ac_ s.accts j).name.toList==nm.toList) _ (H.memF hF) hs.ac ent187 (fun j hj w hw=>zRV (ac_ s.accts j) nm _ _ (H.ext hw).mem (zz2 _));intro w hcl;replace H:=H.ext hcl;clear hcl)|refine yU ?_|fail)
 refine zQ rfl H.cl ?_
 rw[w64 (by omega) (by omega),Int.add_comm];rfl
end
end Go.Proofs.YtibmaifoaajllaaGreatDoor
