/- Texts of ours, joined: the steps of the proof, or the claim's theorem. -/
import Derived.Test.YtibmaifoaajllaaGreatDoorQa13
set_option linter.unusedSimpArgs false
set_option linter.unusedVariables false
set_option maxHeartbeats 16000000
namespace Go.Proofs.YtibmaifoaajllaaGreatDoor
open Go Go.Sk Go.RowKit
attribute [local irreducible] Go.Calls
theorem chkP (b:Bool)(x y:Int)(w:World):(Instr.checkKey b 10000 115 (.agg #[.int .i64 x,.int .i64 y])).run Tryz.prog w=.ok () w:=by
 have h3:∀ (v:Value) (w:World),(Instr.checkKey b 9999 3 v).run Tryz.prog w=.ok () w:=by
  intro v w
  show(Instr.checkKey b (9998+1) 3 v).run Tryz.prog w=_
  rw[Instr.checkKey]
  simp only[Sem.run_bind,run_underlying (show Tryz.prog.underlying 3=some (.int .i64) from sg.und (t:=3) rfl),Result.andThen_ok]
  rfl
 have hp:∀ (o:Nat) (v:Value),(#[Value.int .i64 x,Value.int .i64 y]:Array Value).toList[o]?=some v→(part 3 #[Value.int .i64 x,Value.int .i64 y] o).run Tryz.prog w=.ok v w:=fun o v h=>zC0 sg (t:=3) rfl _ o h w
 show(Instr.checkKey b (9999+1) 115 _).run Tryz.prog w=_
 rw[Instr.checkKey]
 simp only[Sem.run_bind,run_underlying (sg.und (t:=115) rfl),Result.andThen_ok]
 rw[← Array.forIn_toList]
 simp[Sem.run_bind,hp 0 (.int .i64 x) rfl,hp 1 (.int .i64 y) rfl,h3]
def pv2 (p:Int × Int):Value:=.agg #[.int .i64 p.1,.int .i64 p.2]
def zIk:KeyT Tryz.prog 115 (Int × Int) where
 v:=pv2
 eq x y w:=by
  have:=zHQ sg (t:=115) rfl rfl (by kernel_rfl) (by decide +kernel) (cs:=[.int .i64 x.1,.int .i64 x.2]) (ds:=[.int .i64 y.1,.int .i64 y.2]) (r:=x.1==y.1&&(x.2==y.2&&true)) rfl w
  refine this.trans (congrArg (fun b=>Result.ok b w) ?_)
  rw[Bool.eq_iff_iff,Bool.and_true,Bool.and_eq_true,beq_iff_eq,beq_iff_eq,decide_eq_true_eq]
  exact Prod.ext_iff.symm
 chk b x w:=chkP b x.1 x.2 w
 same x:=by
  show Instr.sameBits (9999+1) _ _=true
  simp[Instr.sameBits,pv2]
 d:=_
 und:=sg.und (t:=115) rfl
 now x y:=.inl rfl
def zA0 (y:P3):Int × Int:=(y.1,y.2.1)
def zGj (l:List P3)(x:Int × Int):Int:=l.foldl (fun a y=>if zA0 y=x then IntKind.i64.wrap (a+y.2.2) else a) 0
def zH0 (l:List P3)(x:Int × Int):Bool:=l.any fun y=>decide (zA0 y=x)
def atP (l:List P3)(x:Int × Int):Option Int:=if zH0 l x then some (zGj l x) else none
theorem zOy (l:List P3)(y:P3)(x:Int × Int):zGj (l++[y]) x=if zA0 y=x then IntKind.i64.wrap (zGj l x+y.2.2) else zGj l x:=by
 simp[zGj]
theorem zOz (l:List P3)(y:P3)(x:Int × Int):zH0 (l++[y]) x=(zH0 l x||decide (zA0 y=x)):=by
 simp[zH0]
theorem zI2 {l:List P3}{x:Int × Int}(h:zH0 l x=false):zGj l x=0:=by
 have:∀ (l:List P3) (a:Int),zH0 l x=false→l.foldl (fun a y=>if zA0 y=x then IntKind.i64.wrap (a+y.2.2) else a) a=a:=by
  intro l
  induction l with
  | nil=>intro a _;rfl
  | cons y t ih =>
    intro a h
    unfold zH0 at h
    rw[List.any_cons,Bool.or_eq_false_iff] at h
    rw[List.foldl_cons,if_neg (of_decide_eq_false h.1)]
    exact ih a h.2
 exact this l 0 h
theorem zKv (l:List P3)(x:Int × Int):(atP l x).getD 0=zGj l x:=by
 unfold atP
 cases h:zH0 l x with
 | true=>rfl
 | false=>rw[zI2 h];rfl
theorem zRB (l:List P3)(y:P3)(x:Int × Int):atP (l++[y]) x=if x=zA0 y then some (IntKind.i64.wrap ((atP l (zA0 y)).getD 0+y.2.2)) else atP l x:=by
 rw[zKv]
 unfold atP
 rw[zOz,zOy]
 by_cases h:zA0 y=x
 ·subst h;simp
 ·rw[if_neg h,if_neg (Ne.symm h),decide_eq_false h,Bool.or_false]
def zAD (r:Row4):Int × Int:=(r.acct,r.asset)
def zCF (l:List Row4)(k:Nat):List (Int × Int):=(l.take k).map zAD
def zDl (s:Sta)(k:Nat):Bool:=(if zAD (rw_ s.rows k)∈zCF s.rows k then 0 else zGj (zS s) (zAD (rw_ s.rows k)))==(rw_ s.rows k).held
def zFn (s:Sta):Bool:=(List.range s.rows.length).all (zDl s)&&(zS s).all fun y=>decide (zA0 y∈zCF s.rows s.rows.length)
theorem zNm (s:Sta)(p:SPt)(w0:World):Calls Tryz.prog 58 [.agg (s.cells p).toArray].toArray w0 (zn (fun M v=>∃ b,M=[cb b (s.cells p) 28]∧v=.func (.func 91) #[] #[.pointer (some ⟨b,0,none⟩)]) w0):=by
 refine enter [.tmp 2] Tryz.func58 rfl Tryz.ntmps58 rfl rfl ?_
 have H:=zB w0
 repeat' (first|refine yT ?_|(refine y9 H ?_;intro b w H)|refine yU ?_|fail)
 exact zU rfl H ⟨_,rfl,rfl⟩
theorem zTX {ι ν:Type}[DecidableEq ι](es:List (ME ι ν))(clock:Nat)(x:ι)(z:ν):atM (zFS es clock x z) x=some ((atM es x).getD z):=by
 unfold zFS
 cases h:fnd x es 0 with
 | some p=>simp only[Option.isSome_some,if_true];unfold atM;rw[h];rfl
 | none =>
   have ha:atM es x=none:=by unfold atM;rw[h];rfl
   simp only[Option.isSome_none,Bool.false_eq_true,if_false]
   rw[zJv,ha]
   simp
theorem lookS {P:Program}(S:Sig P){kt:TypeId}{ι ν:Type}[DecidableEq ι]{o:Oper}{w:World}{e:Env}{M:zH}{b clock:Nat}(K:KeyT P kt ι)(val:ν→Value)(es:List (ME ι ν))(x:ι)(z u:ν)(hu:atM es x=some u){t et:TypeId}{X Y:Operand}{ti:TI}(hz:∀ w:World,(zeroValue et).run P w=.ok (val z) w)(hM:Mem w M)(hm:(b,mo K val es clock)∈M)
  (hy:ev e Y=K.v x) (ho:o.op=.lookup t X Y false) (hx:ev e X=.map (some b)) (ht:lk S.tab t=some ti) (htd:ti.d=.map kt et):Yq P o e w (val u):=by
 have:=Yq.lookM S (P:=P) (w:=w) K val es x z hz hM hm hy ho hx ht htd
 rw[hu] at this
 exact this
def JP (s:Sta)(bm ba:Nat)(k:Nat)(M:zH):Prop :=
 ∃ es clock,M=[(bm,mo zIk (Value.int .i64) es clock),cb ba [.map (some bm)] 221]∧MI es clock∧∀ x,atM es x=atP ((zS s).take k) x
theorem c_held {F:zH}(s:Sta)(p:SPt)(w0:World)(hF:Mem w0 F)(hs0:StaM F s p) :
  Calls Tryz.prog 129 [.agg (s.cells p).toArray].toArray w0 (Ret (.bool (zFn s)) w0):=by
 obtain⟨hnc,hcb,b0,off,cs,T,fr,hs⟩:=hs0.rw
 refine zRA [.tmp 2] Tryz.func129 rfl Tryz.ntmps129 rfl rfl ?_
 have H:=zB w0
 refine CM.seq ?_
 repeat' (first|refine yT ?_|(refine y9 H ?_;intro b w H)|refine yU ?_|fail)
 refine CM.seq ?_
 repeat' (first|refine yT ?_|(refine y10 sg H ?_;intro b w H)|(refine y11 sg H ?_;intro w H)|(refine m1 H ?_;intro bm w H)|refine yU ?_|fail)
 refine CM.seqM ?_
 refine CM.seq ?_
 repeat' (first|refine yT ?_|refine y7 sg H ?_|(refine' y32 ent58 ?_ ?_;rotate_left;exact zNm s p _;intro v M w hR hS;replace H:=H.addR hS;clear hS;(try simp only[List.cons_append,List.nil_append] at H);obtain⟨bp,rfl,rfl⟩:=hR)|refine yU ?_|fail)
 refine CM.block ?_
 have hP:St w0 ([(bm,mo zIk (Value.int .i64) [] 0),cb b [.map (some bm)] 221]++[cb _ _ _,cb bp _ _]) w:=H.perm (List.Perm.swap _ _ _)
 clear H
 refine CM.rangeFunc (N:=(zS s).length) (u1P s) (u2P s) (JP s bm b) rfl rfl ent91 rfl rfl (zKu s p w0 hF hs0 (zz5 _ (zz2 _))) hP ⟨[],0,rfl,MI.nil,fun x=>rfl⟩ ?_ ?_
 ·clear hP
  rintro l k hk M G' w ⟨es,clock,rfl,hMI,hat⟩ H
  simp only[List.cons_append,List.nil_append] at H
  repeat' (first|refine yT ?_|(refine y10 sg H ?_;intro b w H)|(refine y11 sg H ?_;intro w H)|refine yU ?_|fail)
  refine⟨[_,_,_],H,fun G2 w H=>?_⟩
  simp only[List.cons_append,List.nil_append] at H
  have hz:∀ w:World,(zeroValue 2).run Tryz.prog w=.ok (Value.int .i64 0) w:=fun w=>Tryz.zeroValue2 w
  have hMI2:=zHy hMI (zA0 (p3 (zS s) k)) (0:Int)
  have hat0:=zTX es clock (zA0 (p3 (zS s) k)) (0:Int)
  have hst:∃ e∈zFS es clock (zA0 (p3 (zS s) k)) (0:Int),e.2.2=zEI es clock (zA0 (p3 (zS s) k)):=by
   obtain⟨e,he,h1,_⟩:=zI1 (es:=es) (clock:=clock) (x:=zA0 (p3 (zS s) k)) (z:=(0:Int))
   exact⟨e,he,h1⟩
  repeat' (first|refine yT ?_|refine y7 sg H ?_|(refine zA5 mixed 8 ?_ ?_;exact rfl;intro w hcl;replace H:=H.ext hcl;clear hcl)|((with_reducible apply zEm);decide +kernel)|(refine' z8 3 ?_ ?_;rotate_left;first|exact z9 sg)|(refine' z8 4 ?_ ?_;rotate_left;first|exact z9 sg)|(refine' z8 6 ?_ ?_;rotate_left;first|exact z9 sg)|refine z10 0 ?_|refine z10 1 ?_|refine z10 2 ?_|refine z10 5 ?_|refine z10 7 ?_|refine z11 0 1 ?_ ?_|refine z11 2 5 ?_ ?_|(refine zf rfl rfl (Yq.lookM sg zIk (Value.int .i64) es (zA0 (p3 (zS s) k)) 0 hz H.mem (zz5 _ (zz2 _)) rfl rfl rfl rfl rfl) ?_)|(refine zf rfl rfl (lookS sg zIk (Value.int .i64) (zFS es clock (zA0 (p3 (zS s) k)) (0:Int)) (zA0 (p3 (zS s) k)) 0 ((atM es (zA0 (p3 (zS s) k))).getD 0) hat0 hz H.mem (zz5 _ (zz2 _)) rfl rfl rfl rfl rfl) ?_)|(refine m4 sg zIk (Value.int .i64) es (zA0 (p3 (zS s) k)) (0:Int) hz H (Up.there Up.here) rfl ?_;intro w H)|(refine m5 zIk (Value.int .i64) (zFS es clock (zA0 (p3 (zS s) k)) (0:Int)) (IntKind.i64.wrap ((atM es (zA0 (p3 (zS s) k))).getD 0+(p3 (zS s) k).2.2)) hMI2.stamps hst H (Up.there Up.here) rfl ?_;intro w H)|refine yU ?_|with_reducible apply zA|fail)
  all_goals refine⟨[_,_],⟨addM es clock (zA0 (p3 (zS s) k)) 0 (IntKind.i64.wrap ((atM es (zA0 (p3 (zS s) k))).getD 0+(p3 (zS s) k).2.2)),_,rfl,zQ8 hMI _ _ _,fun x=>?_⟩,H.sub (zz7 _ _)⟩
  all_goals rw[zTV hMI,List.take_succ_eq_append_getElem hk,hat,hat]
  all_goals have hpk:(zS s)[k]=(p3 (zS s) k):=by unfold p3;simp[List.getElem?_eq_getElem hk]
  all_goals rw[hpk,zRB]
 ·clear hP
  rintro D lo M w ⟨es,clock,rfl,hMI,hat⟩ H
  rw[List.take_length] at hat
  simp only[List.cons_append,List.nil_append] at H
  refine zP9 (zP8 (CM.of ?_))
  have hz:∀ w:World,(zeroValue 2).run Tryz.prog w=.ok (Value.int .i64 0) w:=fun w=>Tryz.zeroValue2 w
  repeat' (first|refine yT ?_|refine y7 sg H ?_|refine yU ?_|with_reducible apply zA|fail)
  refine zM [(2,2),(7,8),(24,41)] (fun x:Nat × List (ME (Int × Int) Int) × Nat=>[(24,.int .i64 (x.1:Int))]) (fun x w=>x.1≤s.rows.length∧St w0 (lo::(D,.deferred (some []))::(bm,mo zIk (Value.int .i64) x.2.1 x.2.2)::cb b [.map (some bm)] _::cb _ _ _::[cb _ _ _]) w∧MI x.2.1 x.2.2∧(∀ y,atM x.2.1 y=if y∈zCF s.rows x.1 then none else atP (zS s) y)∧∀ i,i<x.1→zDl s i=true) (fun x=>s.rows.length - x.1) (0,es,clock) ⟨rfl,trivial⟩ ⟨zzD _,H,hMI,fun y=>by rw[hat];rfl,fun i hi=>absurd hi (zzE _)⟩ ?_
  clear H hMI hat
  rintro⟨j,es,clock⟩ gh w ⟨hj,H,hMI,hat,hok⟩
  simp only at hj H hMI hat hok ⊢
  repeat' (first|refine yT ?_|refine yU ?_|fail)
  refine zJ rfl (fun h=>?_) (fun h=>?_)
  ·have hlt:j<s.rows.length:=by have:=zzA h;omega
   clear h
   have hgot:(atM es (zAD (rw_ s.rows j))).getD 0=if zAD (rw_ s.rows j)∈zCF s.rows j then 0 else zGj (zS s) (zAD (rw_ s.rows j)):=by
    rw[hat]
    split
    ·rfl
    ·exact zKv _ _
   repeat' (first|refine yT ?_|refine y7 sg H ?_|refine y8 sg H ?_|(refine y10 sg H ?_;intro b w H)|(refine y11 sg H ?_;intro w H)|(refine y40 sg (hs) ?_ ?_ ?_;(omega);(omega))|(refine y42 sg (hs) ((H.memF hF)) ?_ ?_;(omega))|(refine zP rfl rfl (Yq.lookM sg zIk (Value.int .i64) es (zAD (rw_ s.rows j)) 0 hz H.mem qC rfl rfl rfl rfl rfl) ?_)|refine yU ?_|(with_reducible apply zL;intro w hcl;replace H:=H.ext hcl;clear hcl)|refine y20 mixed ?_|with_reducible apply zA|fail)
   refine zJ rfl (fun h=>?_) (fun h=>?_)
   ·repeat' (first|refine yT ?_|refine yU ?_|fail)
    refine zMR H (Up.there (Up.there (Up.there Up.here))) (fun w' H'=>⟨[_],⟨zh rfl,trivial⟩,congrArg (fun v=>Ending.returned (Value.bool v)) ?_,H'.cl⟩)
    have:zDl s j=false:=by unfold zDl;rw[← hgot];simpa using h
    unfold zFn
    have h2:(List.range s.rows.length).all (zDl s)=false:=List.all_eq_false.2 ⟨j,List.mem_range.2 hlt,by rw[this];simp⟩
    rw[h2];rfl
   ·have hgood:zDl s j=true:=by unfold zDl;rw[← hgot];simpa using h
    clear h
    repeat' (first|refine yT ?_|refine y7 sg H ?_|(refine m6 sg zIk (Value.int .i64) es (zAD (rw_ s.rows j)) H (Up.there (Up.there (Up.there (Up.there Up.here)))) rfl ?_;intro w H)|refine yU ?_|fail)
    refine zK (j+1,zJu es (zAD (rw_ s.rows j)),clock) rfl ⟨zZ (by omega),trivial⟩ ⟨hlt,(H.sub (zz7 _ _)).sub (zz7 _ _),zQ9 hMI _,fun y=>?_,fun i hi=>?_⟩ (by simp only;omega)
    ·simp only
     rw[zTW hMI,hat]
     have hk:zCF s.rows (j+1)=zCF s.rows j++[zAD (rw_ s.rows j)]:=by
      unfold zCF rw_
      rw[List.take_succ_eq_append_getElem hlt,List.map_append]
      simp[List.getElem?_eq_getElem hlt]
     rw[hk]
     by_cases h1:y=zAD (rw_ s.rows j)
     ·rw[if_pos h1,if_pos (by rw[h1];simp)]
     ·rw[if_neg h1]
      by_cases h2:y∈zCF s.rows j
      ·rw[if_pos h2,if_pos (List.mem_append_left _ h2)]
      ·rw[if_neg h2,if_neg (by simp[h1,h2])]
    ·rcases(show i<j∨i=j by have:i<j+1:=hi;omega) with g|rfl
     ·exact hok i g
     ·exact hgood
  ·obtain rfl:j=s.rows.length:=by have:=zzB h;omega
   repeat' (first|refine yT ?_|refine y7 sg H ?_|(refine zf rfl rfl (Yq.lenM sg zIk (Value.int .i64) es H.mem qC rfl rfl rfl rfl) ?_)|refine yU ?_|fail)
   refine zMR H (Up.there Up.here) (fun w' H'=>⟨[_],⟨zh rfl,trivial⟩,congrArg (fun v=>Ending.returned (Value.bool v)) ?_,H'.cl⟩)
   unfold zFn
   have h2:(List.range s.rows.length).all (zDl s)=true:=List.all_eq_true.2 fun i hi=>hok i (List.mem_range.1 hi)
   rw[h2,Bool.true_and,Bool.eq_iff_iff,List.all_eq_true]
   constructor
   ·intro hl y hy
    have he:es=[]:=List.eq_nil_of_length_eq_zero (by have:=eqI hl;omega)
    rw[decide_eq_true_eq]
    have h3:=hat (zA0 y)
    rw[he,zNi] at h3
    by_cases hm:zA0 y∈zCF s.rows s.rows.length
    ·exact hm
    ·rw[if_neg hm] at h3
     unfold atP at h3
     rw[show zH0 (zS s) (zA0 y)=true from List.any_eq_true.2 ⟨y,hy,by simp⟩] at h3
     cases h3
   ·intro hall
    cases es with
    | nil=>rfl
    | cons e t =>
      have h3:=hat e.1
      rw[zBC,if_pos rfl] at h3
      by_cases hm:e.1∈zCF s.rows s.rows.length
      ·rw[if_pos hm] at h3;cases h3
      ·rw[if_neg hm] at h3
       unfold atP at h3
       cases hh:zH0 (zS s) e.1 with
       | false=>rw[hh] at h3;cases h3
       | true =>
         obtain⟨y,hy,hky⟩:=List.any_eq_true.1 hh
         have:=zzA (hall y hy)
         rw[of_decide_eq_true hky] at this
         exact absurd this hm
end Go.Proofs.YtibmaifoaajllaaGreatDoor
