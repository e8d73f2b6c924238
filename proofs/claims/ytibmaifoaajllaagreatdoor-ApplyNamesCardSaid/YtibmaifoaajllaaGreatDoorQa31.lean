/- Texts of ours, joined: the steps of the proof, or the claim's theorem. -/
import Derived.Laws.Bits64b
import Derived.Lib.Mul64
import Derived.Test.YtibmaifoaajllaaGreatDoorQa23
import Derived.Test.YtibmaifoaajllaaGreatDoorQa25
set_option linter.unusedSimpArgs false
set_option linter.unusedVariables false
set_option maxHeartbeats 16000000
namespace Go.Proofs.YtibmaifoaajllaaGreatDoor
open Go Go.Sk Go.RowKit
attribute [local irreducible] Go.Calls
theorem zLU (o:Odr)(id:Int)(w0:World):Calls Tryz.prog 64 [.agg o.cells.toArray,.int .i64 id].toArray w0 (Ret (.int .i64 (zCB o.id id)) w0):=by
 refine enter [.tmp 4] Tryz.func64 rfl Tryz.ntmps64 rfl rfl ?_
 have H:=zB w0
 repeat' (first|refine yT ?_|refine y7 sg H ?_|(refine y9 H ?_;intro b w H)|(refine' y30 zKn ?_ ?_;rotate_left;exact zDu _ _ _;intro w hcl;replace H:=H.ext hcl;clear hcl)|refine yU ?_|fail)
 exact zQ rfl H.cl rfl
theorem zJK (a b:Int)(w0:World):Calls Tryz.prog 287 [.int .i64 a,.int .i64 b].toArray w0 (Ret (.int .i64 (zCB b a)) w0):=by
 refine enter [.tmp 4] Tryz.func287 rfl Tryz.ntmps287 rfl rfl ?_
 have H:=zB w0
 repeat' (first|refine yT ?_|(refine' y30 zKn ?_ ?_;rotate_left;exact zDu _ _ _;intro w hcl;replace H:=H.ext hcl;clear hcl)|refine yU ?_|fail)
 exact zQ rfl H.cl rfl
theorem zJL (a b:Int)(w0:World):Calls Tryz.prog 288 [.int .i64 a,.int .i64 b].toArray w0 (Ret (.int .i64 (zCB a b)) w0):=by
 refine enter [.tmp 4] Tryz.func288 rfl Tryz.ntmps288 rfl rfl ?_
 have H:=zB w0
 repeat' (first|refine yT ?_|(refine' y30 zKn ?_ ?_;rotate_left;exact zDu _ _ _;intro w hcl;replace H:=H.ext hcl;clear hcl)|refine yU ?_|fail)
 exact zQ rfl H.cl rfl
theorem zT7 (o:Odr)(i s:Int)(b1 b2:Nat){T1 T2:TypeId}{fr1 fr2:Nat × Nat}{F:zH}(w0:World)(hF:Mem w0 F)(h1:(b1,Obj.cells [Value.int .i64 i].toArray T1 fr1)∈F)(h2:(b2,Obj.cells [Value.int .u8 s].toArray T2 fr2)∈F) :
  Calls Tryz.prog 68 [.agg o.cells.toArray,.pointer (some ⟨b1,0,none⟩),.pointer (some ⟨b2,0,none⟩)].toArray w0 (Ret (.bool (o.inst != i||o.side != s)) w0):=by
 refine enter [.tmp 4] Tryz.func68 rfl Tryz.ntmps68 rfl rfl ?_
 have H:=zB w0
 repeat' (first|refine yT ?_|refine y7 sg H ?_|(refine y9 H ?_;intro b w H)|refine z13 (zG sg rfl rfl (H.memF hF) h1 rfl rfl) ?_|refine z13 (zG sg rfl rfl (H.memF hF) h2 rfl rfl) ?_|refine yU ?_|(refine y17 ?_ ?_;all_goals intro h)|fail)
 all_goals exact zQ rfl H.cl (by simp[*])
theorem zMq (a:Nat)(ha:a<18446744073709551616):IntKind.u64.wrap ((BitVec.ofInt IntKind.u64.bits (a:Int) &&& BitVec.ofInt IntKind.u64.bits 4294967295).toNat:Int)=((a % 4294967296:Nat):Int):=by
 have h:=bits_and_u64_nat a 4294967295 ha (by omega)
 have e:a &&& 4294967295=a % 4294967296:=Nat.and_two_pow_sub_one_eq_mod a 32
 rw[e] at h
 exact h
theorem m_div (a:Nat):(a:Int).fdiv (2 ^ min 32 IntKind.u64.bits)=((a / 4294967296:Nat):Int):=by
 show(a:Int).fdiv 4294967296=_
 rw[Int.fdiv_eq_ediv_of_nonneg _ (by omega)];omega
theorem zN8 (a b:Nat):(a:Int)*(b:Int)=((a*b:Nat):Int):=(Int.natCast_mul a b).symm
theorem m_add (a b:Nat):(a:Int)+(b:Int)=((a+b:Nat):Int):=(Int.natCast_add a b).symm
theorem zGS (a:Nat)(ha:a<18446744073709551616):IntKind.u64.wrap (a:Int)=(a:Int):=by rw[IntKind.wrap_u64];omega
theorem m_wrM (a:Nat):IntKind.u64.wrap (a:Int)=((a % 18446744073709551616:Nat):Int):=by rw[IntKind.wrap_u64];omega
theorem zN9 (x y:Nat)(hx:x<18446744073709551616)(hy:y<18446744073709551616)(w0:World) :
  Calls Tryz.prog 73 [.int .u64 x,.int .u64 y].toArray w0 (Ret (.tuple #[.int .u64 ((x*y / 18446744073709551616:Nat):Int),.int .u64 ((x*y % 18446744073709551616:Nat):Int)]) w0):=by
 obtain⟨bd,bt,bw,hhi⟩:=Lib.mul64_hi x y hx hy
 have ba:=Lib.half_mul_le (a:=x / 4294967296) (b:=y / 4294967296) (by omega) (by omega)
 have bb:=Lib.half_mul_le (a:=x / 4294967296) (b:=y % 4294967296) (by omega) (by omega)
 have bc:=Lib.half_mul_le (a:=x % 4294967296) (b:=y / 4294967296) (by omega) (by omega)
 have ba':x / 4294967296*(y / 4294967296)<18446744073709551616:=by omega
 have bb':x / 4294967296*(y % 4294967296)<18446744073709551616:=by omega
 have bc':x % 4294967296*(y / 4294967296)<18446744073709551616:=by omega
 have bh1:x / 4294967296*(y / 4294967296)+(x / 4294967296*(y % 4294967296)+x % 4294967296*(y % 4294967296) / 4294967296) / 4294967296<18446744073709551616:=by omega
 refine enter [.tmp 4,.tmp 5] Tryz.func73 rfl Tryz.ntmps73 rfl rfl ?_
 have H:=zB w0
 repeat' (first|refine yT ?_|refine yU ?_|fail)
 refine zFg rfl rfl H.cl ?_
 simp only[zMq x hx,zMq y hy,m_div,zN8,m_add,zGS _ bd,zGS _ bb',zGS _ bt,zMq _ bt,zGS _ bc',zGS _ bw,zGS _ ba',zGS _ bh1]
 rw[hhi,zGS _ (Nat.div_lt_of_lt_mul (Nat.mul_lt_mul'' hx hy)),m_wrM]
theorem c_Div0 (lo y:Nat)(hl:lo<18446744073709551616)(hy:0<y)(hy2:y<18446744073709551616)(w0:World) :
  Calls Tryz.prog 74 [.int .u64 0,.int .u64 lo,.int .u64 y].toArray w0 (Ret (.tuple #[.int .u64 ((lo / y:Nat):Int),.int .u64 ((lo % y:Nat):Int)]) w0):=by
 have h1:((y:Int)==0)=false:=beq_eq_false_iff_ne.2 (by omega)
 have h2:decide ((y:Int)≤0)=false:=decide_eq_false (by omega)
 have h3:((0:Int)==0)=true:=rfl
 refine enter [.tmp 6,.tmp 7] Tryz.func74 rfl Tryz.ntmps74 rfl rfl ?_
 have H:=zB w0
 repeat' (first|refine yT ?_|((with_reducible apply zP);exact rfl;exact rfl;exact Yq.quo rfl rfl rfl (by omega))|((with_reducible apply zP);exact rfl;exact rfl;exact Yq.rem rfl rfl rfl (by omega))|refine yU ?_|(with_reducible apply zL;intro w hcl;replace H:=H.ext hcl;clear hcl)|refine y20 mixed ?_|(refine y23 ?_ ?_;all_goals(intro h;try (exfalso;first|((rw[h1] at h;cases h);done)|((rw[h2] at h;cases h);done)|((rw[h3] at h;cases h);done))))|fail)
 refine zFg rfl rfl H.cl ?_
 rw[show(lo:Int).tdiv (y:Int)=((lo / y:Nat):Int) from rfl,show(lo:Int).tmod (y:Int)=((lo % y:Nat):Int) from rfl,zGS _ (Nat.lt_of_le_of_lt (Nat.div_le_self _ _) hl)]
theorem c_Mul (p q:Int)(hp:0≤p)(hq:0≤q)(hpq:p*q≤4611686018427387904)(hp2:p≤9223372036854775807)(hq2:q≤9223372036854775807)(w0:World) :
  Calls Tryz.prog 192 [.int .i64 p,.int .i64 q].toArray w0 (Ret (.tuple #[.int .i64 (zHM p q).1,.int .i64 (zHM p q).2]) w0):=by
 obtain⟨m,rfl⟩:∃ m:Nat,p=(m:Int):=⟨p.toNat,by omega⟩
 obtain⟨n,rfl⟩:∃ n:Nat,q=(n:Int):=⟨q.toNat,by omega⟩
 rw[zN8] at hpq
 have h1:decide ((m:Int)<0)=false:=decide_eq_false (by omega)
 have h2:decide ((n:Int)<0)=false:=decide_eq_false (by omega)
 have hz:m*n / 18446744073709551616=0:=Nat.div_eq_of_lt (by omega)
 have hl:m*n % 18446744073709551616=m*n:=Nat.mod_eq_of_lt (by omega)
 have hc:=fun w=>zN9 m n (by omega) (by omega) w
 rw[hz,hl] at hc
 rw[← zGS m (by omega),← zGS n (by omega)] at hc
 have h3:decide (((m*n:Nat):Int)>4611686018427387904)=false:=decide_eq_false (by omega)
 refine enter [.tmp 4,.tmp 5] Tryz.func192 rfl Tryz.ntmps192 rfl rfl ?_
 have H:=zB w0
 repeat' (first|refine yT ?_|(refine' y30 ent73 ?_ ?_;rotate_left;exact hc _;intro w hcl;replace H:=H.ext hcl;clear hcl)|refine yU ?_|(refine y23 ?_ ?_;all_goals(intro h;try (exfalso;first|((rw[h1] at h;cases h);done)|((rw[h2] at h;cases h);done)|((rw[h3] at h;cases h);done))))|fail)
 refine zFg rfl rfl H.cl ?_
 have e:zHM (m:Int) (n:Int)=(((m*n:Nat):Int),0):=by
  unfold zHM
  rw[if_neg (by omega),zN8,if_neg (by omega)]
 rw[e,w64 (by omega) (by omega)]
theorem zIV (p q:Int)(hp:0≤p)(hp2:p≤4503599627370496)(hq:0≤q)(hq2:q≤1000)(w0:World) :
  Calls Tryz.prog 41 [.int .i64 p,.int .i64 q].toArray w0 (Ret (.tuple #[.int .i64 (zBt p q).1,.int .i64 (zBt p q).2]) w0):=by
 obtain⟨m,rfl⟩:∃ m:Nat,p=(m:Int):=⟨p.toNat,by omega⟩
 obtain⟨n,rfl⟩:∃ n:Nat,q=(n:Int):=⟨q.toNat,by omega⟩
 have hmn:m*n≤4503599627370496*1000:=Nat.mul_le_mul (by omega) (by omega)
 have h1:decide ((m:Int)<0)=false:=decide_eq_false (by omega)
 have h2:decide ((n:Int)<0)=false:=decide_eq_false (by omega)
 have h3:decide ((n:Int)>1000)=false:=decide_eq_false (by omega)
 have h4:decide ((m:Int)>4611686018427387904)=false:=decide_eq_false (by omega)
 have hz:m*n / 18446744073709551616=0:=Nat.div_eq_of_lt (by omega)
 have hl:m*n % 18446744073709551616=m*n:=Nat.mod_eq_of_lt (by omega)
 have hc:=fun w=>zN9 m n (by omega) (by omega) w
 have hd:=fun w=>c_Div0 (m*n) 10000 (by omega) (by decide) (by decide) w
 rw[hz,hl] at hc
 rw[← zGS m (by omega),← zGS n (by omega)] at hc
 refine enter [.tmp 4,.tmp 5] Tryz.func41 rfl Tryz.ntmps41 rfl rfl ?_
 have H:=zB w0
 repeat' (first|refine yT ?_|(refine' y30 ent73 ?_ ?_;rotate_left;exact hc _;intro w hcl;replace H:=H.ext hcl;clear hcl)|(refine' y30 ent74 ?_ ?_;rotate_left;exact hd _;intro w hcl;replace H:=H.ext hcl;clear hcl)|refine yU ?_|with_reducible apply zA|(refine y23 ?_ ?_;all_goals(intro h;try (exfalso;first|((rw[h1] at h;cases h);done)|((rw[h2] at h;cases h);done)|((rw[h3] at h;cases h);done)|((rw[h4] at h;cases h);done))))|fail)
 refine zFg rfl rfl H.cl ?_
 have e:zBt (m:Int) (n:Int)=(((m*n / 10000:Nat):Int),0):=by
  unfold zBt
  rw[if_neg (by omega),if_neg (by omega),zN8];rfl
 rw[e,w64 (by omega) (by omega)]
theorem half_w {i j:Nat}(h:i+j<4611686018427387904):IntKind.i64.wrap ((IntKind.u64.wrap (IntKind.i64.wrap ((i:Int)+(j:Int)))).fdiv (2 ^ min 1 IntKind.u64.bits))=(((i+j) / 2:Nat):Int):=by
 rw[m_add,w64 (x:=((i+j:Nat):Int)) (by omega) (by omega),zGS _ (by omega)]
 show IntKind.i64.wrap (((i+j:Nat):Int).fdiv 2)=_
 rw[Int.fdiv_eq_ediv_of_nonneg _ (by omega),w64 (by omega) (by omega)];rfl
def lbF (l:List Odr)(id:Int)(i:Nat):Prop:=i≤l.length∧(∀ t,t<i→(od_ l t).id<id)∧∀ t,i≤t→t<l.length→id≤(od_ l t).id
def Ris (l:List Odr):Prop:=∀ s t,s<t→t<l.length→(od_ l s).id<(od_ l t).id
theorem zR5 (l:List Odr)(hr:Ris l)(id:Int):∃ i,lbF l id i:=by
 have:∀ k,k≤l.length→∃ i,i≤k∧(∀ t,t<i→(od_ l t).id<id)∧∀ t,i≤t→t<k→id≤(od_ l t).id:=by
  intro k
  induction k with
  | zero=>intro _;exact⟨0,zzC _,fun t h=>absurd h (zzE _),fun t _ h=>absurd h (zzE _)⟩
  | succ k ih =>
    intro hk
    obtain⟨i,h1,h2,h3⟩:=ih (by omega)
    by_cases e:i=k∧(od_ l k).id<id
    ·obtain⟨rfl,e⟩:=e
     exact⟨i+1,zzC _,fun t h=>by by_cases g:t=i;(· rw[g];exact e);exact h2 t (by omega),fun t h h'=>by omega⟩
    ·refine⟨i,by omega,h2,fun t h h'=>?_⟩
     by_cases g:t=k
     ·rw[g]
      by_cases gi:i=k
      ·exact Int.not_lt.1 fun x=>e ⟨gi,x⟩
      ·exact Int.le_of_lt (Int.lt_of_le_of_lt (h3 i (zzC _) (by omega)) (hr i k (by omega) (by omega)))
     ·exact h3 t h (by omega)
 obtain⟨i,h1,h2,h3⟩:=this l.length (zzC _)
 exact⟨i,h1,h2,h3⟩
theorem zR6 {x y:Int}:zCB x y<0↔x<y:=by unfold zCB;split<;>(try split)<;>omega
theorem cmp_eq (x y:Int):(zCB x y==0)=(x==y):=by
 rw[Bool.eq_iff_iff,beq_iff_eq,beq_iff_eq];unfold zCB;split<;>(try split)<;>omega
theorem zPY {a:Option Addr}{cap:Nat}(l:List Odr)(id:Int)(hl:l.length≤1000000)(hr:Ris l)(i0:Nat)(h0:lbF l id i0){F:zH}(w0:World)(hF:Mem w0 F)(hs0:SlA F 6 a l.length cap (odl l)) :
  Calls Tryz.prog 63 [.slice a l.length cap,.int .i64 id,.func (.func 64) #[] #[]].toArray w0 (Ret (.tuple #[.int .i64 (i0:Int),.bool (decide (i0<l.length)&&(od_ l i0).id==id)]) w0):=by
 obtain⟨hn,hc,b0,off,cs,T,fr,hs⟩:=hs0
 refine enter [.tmp 6,.tmp 7] Tryz.func63 rfl Tryz.ntmps63 rfl rfl ?_
 have H:=zB w0
 repeat' (first|refine yT ?_|refine yU ?_|with_reducible apply zA|fail)
 refine zM [(9,11),(15,34)] (fun x:Nat × Nat=>[(9,.int .i64 (x.1:Int)),(10,.int .i64 (x.2:Int))]) (fun x w=>x.1≤x.2∧x.2≤l.length∧(∀ t,t<x.1→(od_ l t).id<id)∧(∀ t,x.2≤t→t<l.length→id≤(od_ l t).id)∧St w0 [] w) (fun x=>x.2 - x.1) (0,l.length) ⟨rfl,rfl,trivial⟩ ⟨zzD _,zzC _,fun t ht=>absurd ht (zzE _),fun t h1 h2=>by omega,H⟩ ?_
 clear H
 rintro⟨i,j⟩ g w ⟨hij,hj,hlo,hhi,H⟩
 simp only at hij hj hlo hhi H ⊢
 have hq:=half_w (i:=i) (j:=j) (by omega)
 repeat' (first|refine yT ?_|refine yU ?_|fail)
 refine zJ rfl (fun h=>?_) (fun h=>?_)
 ·have hlt:i<j:=by have:=zzA h;omega
  clear h
  have hm:(i+j) / 2<l.length:=by omega
  rw[← Int.toNat_natCast ((i+j) / 2)] at hm
  rw[← hq] at hm
  have hqm:(IntKind.i64.wrap ((IntKind.u64.wrap (IntKind.i64.wrap ((i:Int)+(j:Int)))).fdiv (2 ^ min 1 IntKind.u64.bits))).toNat=(i+j) / 2:=by rw[hq];exact zz1 _
  repeat' (first|refine yT ?_|(refine y40 sg (hs) ?_ ?_ ?_;(rw[hq];omega);(rw[hq];omega))|(refine y42 sg (hs) ((H.memF hF)) ?_ ?_;(omega))|(refine OX.call rfl rfl (zBf ent64 (caps:=[]) rfl rfl rfl) (zLU (od_ l _) id _) ?_;intro w hcl;replace H:=H.ext hcl;clear hcl)|refine yU ?_|with_reducible apply zA|fail)
  rw[hqm]
  rw[hqm] at hm
  refine zJ rfl (fun h=>?_) (fun h=>?_)
  ·have hb:(od_ l ((i+j) / 2)).id<id:=zR6.1 (zzA h)
   clear h
   repeat' (first|refine yT ?_|refine yU ?_|fail)
   exact zK ((i+j) / 2+1,j) rfl ⟨by show Value.int .i64 (IntKind.i64.wrap (IntKind.i64.wrap _+1))=_;rw[hq];exact zZ (by omega),rfl,trivial⟩ ⟨by show(i+j) / 2+1≤j;omega,hj,fun t (ht:t<(i+j) / 2+1)=>by
    by_cases e:t=(i+j) / 2
    ·rw[e];exact hb
    ·exact Int.lt_trans (hr t _ (by omega) hm) hb,hhi,H⟩ (by show j - ((i+j) / 2+1)<j - i;omega)
  ·have hb:id≤(od_ l ((i+j) / 2)).id:=Int.not_lt.1 fun e=>absurd (zR6.2 e) (zzB h)
   clear h
   repeat' (first|refine yT ?_|refine yU ?_|fail)
   exact zK (i,(i+j) / 2) rfl ⟨rfl,by show Value.int .i64 (IntKind.i64.wrap _)=_;rw[hq],trivial⟩ ⟨by show i≤(i+j) / 2;omega,by show(i+j) / 2≤l.length;omega,hlo,fun t (ht:(i+j) / 2≤t) h2=>by
    by_cases e:t=(i+j) / 2
    ·rw[e];exact hb
    ·exact Int.le_trans hb (Int.le_of_lt (hr _ t (by omega) h2)),H⟩ (by show(i+j) / 2 - i<j - i;omega)
 ·obtain rfl:i=j:=by have:=zzB h;omega
  clear h
  obtain rfl:i=i0:=by
   rcases Nat.lt_trichotomy i i0 with e|e|e
   ·have h1:=h0.2.1 i e
    have h2:=hhi i (zzC _) (by have:=h0.1;omega)
    omega
   ·exact e
   ·have h1:=hlo i0 e
    have h2:=h0.2.2 i0 (zzC _) (by omega)
    omega
  rcases Nat.lt_or_ge i l.length with hil|hil
  ·have d1:decide ((i:Int)<(l.length:Int))=true:=decide_eq_true (by omega)
   repeat' (first|refine yT ?_|(refine y40 sg (hs) ?_ ?_ ?_;(omega);(omega))|(refine y42 sg (hs) ((H.memF hF)) ?_ ?_;(omega))|(refine OX.call rfl rfl (zBf ent64 (caps:=[]) rfl rfl rfl) (zLU (od_ l _) id _) ?_;intro w hcl;replace H:=H.ext hcl;clear hcl)|refine yU ?_|(refine y17 ?_ ?_;all_goals(intro h;try (exfalso;first|((rw[d1] at h;cases h);done))))|fail)
   exact zFg rfl rfl H.cl (by rw[cmp_eq,decide_eq_true hil,Bool.true_and])
  ·have d1:decide ((i:Int)<(l.length:Int))=false:=decide_eq_false (by omega)
   repeat' (first|refine yT ?_|refine yU ?_|(refine y17 ?_ ?_;all_goals(intro h;try (exfalso;first|((rw[d1] at h;cases h);done))))|fail)
   exact zFg rfl rfl H.cl (by rw[decide_eq_false (Nat.not_lt.2 hil),Bool.false_and])
theorem zFL {a:Option Addr}{cap:Nat}(l:List Odr)(id:Int)(hl:l.length≤1000000)(hr:Ris l)(i0:Nat)(h0:lbF l id i0){F:zH}(w0:World)(hF:Mem w0 F)(hs0:SlA F 6 a l.length cap (odl l)) :
  Calls Tryz.prog 38 [.slice a l.length cap,.int .i64 id].toArray w0 (Ret (.tuple #[.int .i64 (i0:Int),.bool (decide (i0<l.length)&&(od_ l i0).id==id)]) w0):=by
 refine enter [.tmp 4,.tmp 5] Tryz.func38 rfl Tryz.ntmps38 rfl rfl ?_
 have H:=zB w0
 repeat' (first|refine yT ?_|(refine' y30 ent63 ?_ ?_;rotate_left;exact zPY l id hl hr i0 h0 _ (H.memF hF) hs0;intro w hcl;replace H:=H.ext hcl;clear hcl)|refine yU ?_|fail)
 exact zFg rfl rfl H.cl rfl
theorem zKL {l:List Odr}(h:zd l=true):Ris l:=by
 have hp:=(zAk.1 h).2
 have key:∀ d s,s+d+1<l.length→(od_ l s).id<(od_ l (s+d+1)).id:=by
  intro d
  induction d with
  | zero =>
    intro s hs
    rcases(hp (s+1) hs).2 with e|e
    ·omega
    ·exact e
  | succ d ih =>
    intro s hs
    rcases(hp (s+(d+1)+1) hs).2 with e|e
    ·omega
    ·exact Int.lt_trans (ih s (by omega)) e
 intro s t hst ht
 have:=key (t - s - 1) s (by omega)
 rwa [show s+(t - s - 1)+1=t by omega] at this
theorem zOA {l:List Odr}{id:Int}{i:Nat}(hr:Ris l)(h:lbF l id i):l.find? (fun o=>o.id==id)=if (decide (i<l.length)&&(od_ l i).id==id)=true then some (od_ l i) else none:=by
 split
 ·rename_i hc
  rw[Bool.and_eq_true,decide_eq_true_eq] at hc
  rw[List.find?_eq_some_iff_getElem]
  have e:od_ l i=l[i]:=by simp[od_,List.getElem?_eq_getElem hc.1]
  refine⟨hc.2,i,hc.1,e.symm,fun j hj=>?_⟩
  have:=h.2.1 j hj
  rw[show od_ l j=l[j] by simp[od_,List.getElem?_eq_getElem (show j<l.length by omega)]] at this
  simp;omega
 ·rename_i hc
  rw[List.find?_eq_none]
  intro x hx hxe
  obtain⟨k,hk,rfl⟩:=zBO (d:=default) hx
  have hxe:(od_ l k).id=id:=eq_of_beq hxe
  apply hc
  have:k=i:=by
   rcases Nat.lt_trichotomy k i with g|g|g
   ·have:=h.2.1 k g;omega
   ·exact g
   ·have h1:=h.2.2 i (zzC _) (by omega)
    have h2:=hr i k g hk
    omega
  subst this
  rw[Bool.and_eq_true,decide_eq_true_eq]
  exact⟨hk,by simpa using hxe⟩
theorem zFu {a:Option Addr}{cap:Nat}(l:List Odr)(id:Int){F:zH}(w0:World)(hF:Mem w0 F)(hs0:SlA F 6 a l.length cap (odl l)) :
  Calls Tryz.prog 16 [.slice a l.length cap,.int .i64 id].toArray w0 (Ret (.tuple #[.agg (zV l id).1.cells.toArray,.bool (zV l id).2]) w0):=by
 by_cases hm:zd l=true
 ·have hl:=(zAk.1 hm).1
  have hr:=zKL hm
  obtain⟨i,hi⟩:=zR5 l hr id
  have hfl:=zOA hr hi
  have hs1:=hs0
  obtain⟨hn,hc,b0,off,cs,T,fr,hs⟩:=hs1
  have hf:zV l id=match (if (decide (i<l.length)&&(od_ l i).id==id)=true then some (od_ l i) else none) with|some o=>(o,true)|none=>(Odr.zero,false):=by
   unfold zV;rw[if_pos hm,hfl];rfl
  refine enter [.cell 4 43,.tmp 5] Tryz.func16 rfl Tryz.ntmps16 rfl rfl ?_
  have H:=zB w0
  cases hb:(decide (i<l.length)&&(od_ l i).id==id) with
  | false =>
    rw[hb] at hf
    have hp:=fun w h1=>zFL l id (by omega) hr i hi (F:=F) w h1 hs0
    rw[hb] at hp
    repeat' (first|refine yT ?_|(refine y10 sg H ?_;intro b w H)|(refine y11 sg H ?_;intro w H)|(refine' y30 zCx ?_ ?_;rotate_left;exact zAo l _ (H.memF hF) hs0;intro w hcl;replace H:=H.ext hcl;clear hcl)|(refine' y30 zHB ?_ ?_;rotate_left;exact hp _ (H.memF hF);intro w hcl;replace H:=H.ext hcl;clear hcl)|refine yU ?_|(refine y23 ?_ ?_;all_goals(intro h;try (exfalso;first|((rw[hm] at h;cases h);done)|((exact absurd h (by decide));done))))|fail)
    refine zBT (vs:=[_,_]) ⟨zAf sg rfl H.mem (zz2 _) rfl rfl,zh rfl,trivial⟩ H.cl ?_
    rw[hf];rfl
  | true =>
    have hil:i<l.length:=by rw[Bool.and_eq_true,decide_eq_true_eq] at hb;exact hb.1
    rw[hb] at hf
    have hp:=fun w h1=>zFL l id (by omega) hr i hi (F:=F) w h1 hs0
    rw[hb] at hp
    repeat' (first|refine yT ?_|(refine y10 sg H ?_;intro b w H)|(refine y11 sg H ?_;intro w H)|(refine' y30 zCx ?_ ?_;rotate_left;exact zAo l _ (H.memF hF) hs0;intro w hcl;replace H:=H.ext hcl;clear hcl)|(refine' y30 zHB ?_ ?_;rotate_left;exact hp _ (H.memF hF);intro w hcl;replace H:=H.ext hcl;clear hcl)|(refine y40 sg (hs) ?_ ?_ ?_;(omega);(omega))|(refine y42 sg (hs) ((H.memF hF)) ?_ ?_;(omega))|refine yU ?_|(refine y23 ?_ ?_;all_goals(intro h;try (exfalso;first|((rw[hm] at h;cases h);done)|((exact absurd h (by decide));done))))|fail)
    refine zBT (vs:=[_,_]) ⟨zAf sg rfl H.mem (zz2 _) rfl rfl,zh rfl,trivial⟩ H.cl ?_
    rw[hf];rfl
 ·have hm:zd l=false:=by simpa using hm
  refine enter [.cell 4 43,.tmp 5] Tryz.func16 rfl Tryz.ntmps16 rfl rfl ?_
  have H:=zB w0
  repeat' (first|refine yT ?_|(refine y10 sg H ?_;intro b w H)|(refine y11 sg H ?_;intro w H)|(refine' y30 zCx ?_ ?_;rotate_left;exact zAo l _ (H.memF hF) hs0;intro w hcl;replace H:=H.ext hcl;clear hcl)|refine yU ?_|(refine y23 ?_ ?_;all_goals(intro h;try (exfalso;first|((rw[hm] at h;cases h);done))))|fail)
  refine zBT (vs:=[_,_]) ⟨zAf sg rfl H.mem (zz2 _) rfl rfl,zh rfl,trivial⟩ H.cl ?_
  unfold zV;rw[hm];rfl
end Go.Proofs.YtibmaifoaajllaaGreatDoor
