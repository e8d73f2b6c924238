/- Texts of ours, joined: the steps of the proof, or the claim's theorem. -/
import Derived.KernelRfl
import Derived.Laws.IdiomStrings
import Derived.Shelf.SlLaysE
import Derived.Shelf.SlLaysF0
import Derived.Shelf.SlLaysM
import Derived.Shelf.SlicesE.Compact
import Derived.Shelf.SortM.Plain
import Derived.Shelf.SortM.SortNone
import Derived.Test.YthbflajpdhgfiaaGreatDoorProg
import Derived.Test.YthbflajpdhgfiaaGreatDoorQd04
set_option linter.all false
set_option maxHeartbeats 16000000
namespace Go.Proofs.YthbflajpdhgfiaaGreatDoor
section
open Go Go.Sk Go.RowKit
attribute [local irreducible] Go.Calls
theorem chkP (b:Bool)(x y:Int)(w:World):(Instr.checkKey b 10000 247 (.agg #[.int .i64 x,.int .i64 y])).run Tryz.prog w=.ok () w:=by
 have h3:∀ (v:Value) (w:World),(Instr.checkKey b 9999 3 v).run Tryz.prog w=.ok () w:=by
  intro v w
  show(Instr.checkKey b (9998+1) 3 v).run Tryz.prog w=_
  rw[Instr.checkKey]
  simp only[Sem.run_bind,run_underlying (show Tryz.prog.underlying 3=some (.int .i64) from sg.und (t:=3) rfl),Result.andThen_ok]
  rfl
 have hp:∀ (o:Nat) (v:Value),(#[Value.int .i64 x,Value.int .i64 y]:Array Value).toList[o]?=some v→(part 3 #[Value.int .i64 x,Value.int .i64 y] o).run Tryz.prog w=.ok v w:=fun o v h=>zDx sg (t:=3) rfl _ o h w
 show(Instr.checkKey b (9999+1) 247 _).run Tryz.prog w=_
 rw[Instr.checkKey]
 simp only[Sem.run_bind,run_underlying (sg.und (t:=247) rfl),Result.andThen_ok]
 rw[← Array.forIn_toList]
 simp[Sem.run_bind,hp 0 (.int .i64 x) rfl,hp 1 (.int .i64 y) rfl,h3]
def pv2 (p:Int × Int):Value:=.agg #[.int .i64 p.1,.int .i64 p.2]
def KP:KeyT Tryz.prog 247 (Int × Int) where
 v:=pv2
 eq x y w:=by
  have:=zNl sg (t:=247) rfl rfl (by kernel_rfl) (by decide +kernel) (cs:=[.int .i64 x.1,.int .i64 x.2]) (ds:=[.int .i64 y.1,.int .i64 y.2]) (r:=x.1==y.1&&(x.2==y.2&&true)) rfl w
  refine this.trans (congrArg (fun b=>Result.ok b w) ?_)
  rw[Bool.eq_iff_iff,Bool.and_true,Bool.and_eq_true,beq_iff_eq,beq_iff_eq,decide_eq_true_eq]
  exact Prod.ext_iff.symm
 chk b x w:=chkP b x.1 x.2 w
 same x:=by
  show Instr.sameBits (9999+1) _ _=true
  simp[Instr.sameBits,pv2]
 d:=_
 und:=sg.und (t:=247) rfl
 now x y:=.inl rfl
def zAx (y:P3):Int × Int:=(y.1,y.2.1)
def zGT (l:List P3)(x:Int × Int):Int:=l.foldl (fun a y=>if zAx y=x then IntKind.i64.wrap (a+y.2.2) else a) 0
def zHr (l:List P3)(x:Int × Int):Bool:=l.any fun y=>decide (zAx y=x)
def atP (l:List P3)(x:Int × Int):Option Int:=if zHr l x then some (zGT l x) else none
theorem zPB (l:List P3)(y:P3)(x:Int × Int):zGT (l++[y]) x=if zAx y=x then IntKind.i64.wrap (zGT l x+y.2.2) else zGT l x:=by
 simp[zGT]
theorem zPC (l:List P3)(y:P3)(x:Int × Int):zHr (l++[y]) x=(zHr l x||decide (zAx y=x)):=by
 simp[zHr]
theorem zIx {l:List P3}{x:Int × Int}(h:zHr l x=false):zGT l x=0:=by
 have:∀ (l:List P3) (a:Int),zHr l x=false→l.foldl (fun a y=>if zAx y=x then IntKind.i64.wrap (a+y.2.2) else a) a=a:=by
  intro l
  induction l with
  | nil=>intro a _;rfl
  | cons y t ih =>
    intro a h
    unfold zHr at h
    rw[List.any_cons,Bool.or_eq_false_iff] at h
    rw[List.foldl_cons,if_neg (of_decide_eq_false h.1)]
    exact ih a h.2
 exact this l 0 h
theorem zK2 (l:List P3)(x:Int × Int):(atP l x).getD 0=zGT l x:=by
 unfold atP
 cases h:zHr l x with
 | true=>rfl
 | false=>rw[zIx h];rfl
theorem zRM (l:List P3)(y:P3)(x:Int × Int):atP (l++[y]) x=if x=zAx y then some (IntKind.i64.wrap ((atP l (zAx y)).getD 0+y.2.2)) else atP l x:=by
 rw[zK2]
 unfold atP
 rw[zPC,zPB]
 by_cases h:zAx y=x
 ·subst h;simp
 ·rw[if_neg h,if_neg (Ne.symm h),decide_eq_false h,Bool.or_false]
def zAH (r:Row4):Int × Int:=(r.acct,r.asset)
def zCB (l:List Row4)(k:Nat):List (Int × Int):=(l.take k).map zAH
def zDW (s:Sta)(k:Nat):Bool:=(if zAH (rw_ s.rows k)∈zCB s.rows k then 0 else zGT (zX s) (zAH (rw_ s.rows k)))==(rw_ s.rows k).held
def zFg (s:Sta):Bool:=(List.range s.rows.length).all (zDW s)&&(zX s).all fun y=>decide (zAx y∈zCB s.rows s.rows.length)
theorem zTk (s:Sta)(p:SPt)(w0:World):Calls Tryz.prog 196 [.agg (s.cells p).toArray].toArray w0 (zi (fun M v=>∃ b,M=[cb b (s.cells p) 48]∧v=.func (.func 225) #[] #[.pointer (some ⟨b,0,none⟩)]) w0):=by
 refine enter [.tmp 2] Tryz.func196 rfl Tryz.ntmps196 rfl rfl ?_
 have H:=zA w0
 repeat' (first|refine yT ?_|(refine y9 H ?_;intro b w H)|refine yU ?_|fail)
 exact zS rfl H ⟨_,rfl,rfl⟩
theorem zTl {ι ν:Type}[DecidableEq ι](es:List (ME ι ν))(clock:Nat)(x:ι)(z:ν):atM (zFP es clock x z) x=some ((atM es x).getD z):=by
 unfold zFP
 cases h:fnd x es 0 with
 | some p=>simp only[Option.isSome_some,if_true];unfold atM;rw[h];rfl
 | none =>
   have ha:atM es x=none:=by unfold atM;rw[h];rfl
   simp only[Option.isSome_none,Bool.false_eq_true,if_false]
   rw[zJq,ha]
   simp
theorem lookS {P:Program}(S:Sig P){kt:TypeId}{ι ν:Type}[DecidableEq ι]{o:Oper}{w:World}{e:Env}{M:zC}{b clock:Nat}(K:KeyT P kt ι)(val:ν→Value)(es:List (ME ι ν))(x:ι)(z u:ν)(hu:atM es x=some u){t et:TypeId}{X Y:Operand}{ti:TI}(hz:∀ w:World,(zeroValue et).run P w=.ok (val z) w)(hM:Mem w M)(hm:(b,mo K val es clock)∈M)
  (hy:ev e Y=K.v x) (ho:o.op=.lookup t X Y false) (hx:ev e X=.map (some b)) (ht:lk S.tab t=some ti) (htd:ti.d=.map kt et):Yq P o e w (val u):=by
 have:=Yq.lookM S (P:=P) (w:=w) K val es x z hz hM hm hy ho hx ht htd
 rw[hu] at this
 exact this
def JP (s:Sta)(bm ba:Nat)(k:Nat)(M:zC):Prop :=
 ∃ es clock,M=[(bm,mo KP (Value.int .i64) es clock),cb ba [.map (some bm)] 242]∧MI es clock∧∀ x,atM es x=atP ((zX s).take k) x
theorem c_held {F:zC}(s:Sta)(p:SPt)(w0:World)(hF:Mem w0 F)(hs0:StaM F s p) :
  Calls Tryz.prog 148 [.agg (s.cells p).toArray].toArray w0 (Ret (.bool (zFg s)) w0):=by
 obtain⟨hnc,hcb,b0,off,cs,T,fr,hs⟩:=hs0.rw
 refine zRK [.tmp 2] Tryz.func148 rfl Tryz.ntmps148 rfl rfl ?_
 have H:=zA w0
 refine CM.seq ?_
 repeat' (first|refine yT ?_|(refine y9 H ?_;intro b w H)|refine yU ?_|fail)
 refine CM.seq ?_
 repeat' (first|refine yT ?_|(refine y10 sg H ?_;intro b w H)|(refine y11 sg H ?_;intro w H)|(refine m1 H ?_;intro bm w H)|refine yU ?_|fail)
 refine CM.seqM ?_
 refine CM.seq ?_
 repeat' (first|refine yT ?_|refine y7 sg H ?_|(refine' y32 ent196 ?_ ?_;rotate_left;exact zTk s p _;intro v M w hR hS;replace H:=H.addR hS;clear hS;(try simp only[List.cons_append,List.nil_append] at H);obtain⟨bp,rfl,rfl⟩:=hR)|refine yU ?_|fail)
 refine CM.block ?_
 have hP:St w0 ([(bm,mo KP (Value.int .i64) [] 0),cb b [.map (some bm)] 242]++[cb _ _ _,cb bp _ _]) w:=H.perm (List.Perm.swap _ _ _)
 clear H
 refine CM.rangeFunc (N:=(zX s).length) (u1P s) (u2P s) (JP s bm b) rfl rfl ent225 rfl rfl (zRL s p w0 hF hs0 (zz5 _ (zz2 _))) hP ⟨[],0,rfl,MI.nil,fun x=>rfl⟩ ?_ ?_
 ·clear hP
  rintro l k hk M G' w ⟨es,clock,rfl,hMI,hat⟩ H
  simp only[List.cons_append,List.nil_append] at H
  repeat' (first|refine yT ?_|(refine y10 sg H ?_;intro b w H)|(refine y11 sg H ?_;intro w H)|refine yU ?_|fail)
  refine⟨[_,_,_],H,fun G2 w H=>?_⟩
  simp only[List.cons_append,List.nil_append] at H
  have hz:∀ w:World,(zeroValue 2).run Tryz.prog w=.ok (Value.int .i64 0) w:=fun w=>Tryz.zeroValue2 w
  have hMI2:=zHp hMI (zAx (p3 (zX s) k)) (0:Int)
  have hat0:=zTl es clock (zAx (p3 (zX s) k)) (0:Int)
  have hst:∃ e∈zFP es clock (zAx (p3 (zX s) k)) (0:Int),e.2.2=zD6 es clock (zAx (p3 (zX s) k)):=by
   obtain⟨e,he,h1,_⟩:=zIw (es:=es) (clock:=clock) (x:=zAx (p3 (zX s) k)) (z:=(0:Int))
   exact⟨e,he,h1⟩
  repeat' (first|refine yT ?_|refine y7 sg H ?_|(refine zA2 mixed 8 ?_ ?_;exact rfl;refine w2 H ?_;clear H;intro w H)|((with_reducible apply zEg);decide +kernel)|(refine' z8 3 ?_ ?_;rotate_left;first|exact z9 sg)|(refine' z8 4 ?_ ?_;rotate_left;first|exact z9 sg)|(refine' z8 6 ?_ ?_;rotate_left;first|exact z9 sg)|refine z10 0 ?_|refine z10 1 ?_|refine z10 2 ?_|refine z10 5 ?_|refine z10 7 ?_|refine z11 0 1 ?_ ?_|refine z11 2 5 ?_ ?_|(refine zd rfl rfl (Yq.lookM sg KP (Value.int .i64) es (zAx (p3 (zX s) k)) 0 hz H.mem (zz5 _ (zz2 _)) rfl rfl rfl rfl rfl) ?_)|(refine zd rfl rfl (lookS sg KP (Value.int .i64) (zFP es clock (zAx (p3 (zX s) k)) (0:Int)) (zAx (p3 (zX s) k)) 0 ((atM es (zAx (p3 (zX s) k))).getD 0) hat0 hz H.mem (zz5 _ (zz2 _)) rfl rfl rfl rfl rfl) ?_)|(refine m4 sg KP (Value.int .i64) es (zAx (p3 (zX s) k)) (0:Int) hz H (Up.there Up.here) rfl ?_;intro w H)|(refine m5 KP (Value.int .i64) (zFP es clock (zAx (p3 (zX s) k)) (0:Int)) (IntKind.i64.wrap ((atM es (zAx (p3 (zX s) k))).getD 0+(p3 (zX s) k).2.2)) hMI2.stamps hst H (Up.there Up.here) rfl ?_;intro w H)|refine yU ?_|with_reducible apply zB|fail)
  all_goals refine⟨[_,_],⟨addM es clock (zAx (p3 (zX s) k)) 0 (IntKind.i64.wrap ((atM es (zAx (p3 (zX s) k))).getD 0+(p3 (zX s) k).2.2)),_,rfl,zRI hMI _ _ _,fun x=>?_⟩,H.sub (zz7 _ _)⟩
  all_goals rw[zTi hMI,List.take_succ_eq_append_getElem hk,hat,hat]
  all_goals have hpk:(zX s)[k]=(p3 (zX s) k):=by unfold p3;simp[List.getElem?_eq_getElem hk]
  all_goals rw[hpk,zRM]
 ·clear hP
  rintro D lo M w ⟨es,clock,rfl,hMI,hat⟩ H
  rw[List.take_length] at hat
  simp only[List.cons_append,List.nil_append] at H
  refine zQO (zQN (CM.of ?_))
  have hz:∀ w:World,(zeroValue 2).run Tryz.prog w=.ok (Value.int .i64 0) w:=fun w=>Tryz.zeroValue2 w
  repeat' (first|refine yT ?_|refine y7 sg H ?_|refine yU ?_|with_reducible apply zB|fail)
  refine zI [(2,2),(7,8),(24,41)] (fun x:Nat × List (ME (Int × Int) Int) × Nat=>[(24,.int .i64 (x.1:Int))]) (fun x w=>x.1≤s.rows.length∧St w0 (lo::(D,.deferred (some []))::(bm,mo KP (Value.int .i64) x.2.1 x.2.2)::cb b [.map (some bm)] _::cb _ _ _::[cb _ _ _]) w∧MI x.2.1 x.2.2∧(∀ y,atM x.2.1 y=if y∈zCB s.rows x.1 then none else atP (zX s) y)∧∀ i,i<x.1→zDW s i=true) (fun x=>s.rows.length - x.1) (0,es,clock) ⟨rfl,trivial⟩ ⟨zzD _,H,hMI,fun y=>by rw[hat];rfl,fun i hi=>absurd hi (zzE _)⟩ ?_
  clear H hMI hat
  rintro⟨j,es,clock⟩ gh w ⟨hj,H,hMI,hat,hok⟩
  simp only at hj H hMI hat hok ⊢
  repeat' (first|refine yT ?_|refine yU ?_|fail)
  refine zD rfl (fun h=>?_) (fun h=>?_)
  ·have hlt:j<s.rows.length:=by have:=zzA h;omega
   clear h
   have hgot:(atM es (zAH (rw_ s.rows j))).getD 0=if zAH (rw_ s.rows j)∈zCB s.rows j then 0 else zGT (zX s) (zAH (rw_ s.rows j)):=by
    rw[hat]
    split
    ·rfl
    ·exact zK2 _ _
   repeat' (first|refine yT ?_|refine y7 sg H ?_|refine y8 sg H ?_|(refine y10 sg H ?_;intro b w H)|(refine y11 sg H ?_;intro w H)|refine x40 sg hs ?_|refine x42 sg hs (H.memF hF) ?_|(refine zT rfl rfl (Yq.lookM sg KP (Value.int .i64) es (zAH (rw_ s.rows j)) 0 hz H.mem qC rfl rfl rfl rfl rfl) ?_)|refine yU ?_|(with_reducible apply zO;refine w2 H ?_;clear H;intro w H)|refine y20 mixed ?_|with_reducible apply zB|fail)
   refine zD rfl (fun h=>?_) (fun h=>?_)
   ·repeat' (first|refine yT ?_|refine yU ?_|fail)
    refine zJs H (Up.there (Up.there (Up.there Up.here))) (fun w' H'=>⟨[_],⟨zb rfl,trivial⟩,congrArg (fun v=>Ending.returned (Value.bool v)) ?_,H'.cl⟩)
    have:zDW s j=false:=by unfold zDW;rw[← hgot];simpa using h
    unfold zFg
    have h2:(List.range s.rows.length).all (zDW s)=false:=List.all_eq_false.2 ⟨j,List.mem_range.2 hlt,by rw[this];simp⟩
    rw[h2];rfl
   ·have hgood:zDW s j=true:=by unfold zDW;rw[← hgot];simpa using h
    clear h
    repeat' (first|refine yT ?_|refine y7 sg H ?_|(refine m6 sg KP (Value.int .i64) es (zAH (rw_ s.rows j)) H (Up.there (Up.there (Up.there (Up.there Up.here)))) rfl ?_;intro w H)|refine yU ?_|fail)
    refine zF (j+1,zJp es (zAH (rw_ s.rows j)),clock) rfl ⟨zf qO,trivial⟩ ⟨hlt,(H.sub (zz7 _ _)).sub (zz7 _ _),zRJ hMI _,fun y=>?_,fun i hi=>?_⟩ (by simp only;omega)
    ·simp only
     rw[zTj hMI,hat]
     have hk:zCB s.rows (j+1)=zCB s.rows j++[zAH (rw_ s.rows j)]:=by
      unfold zCB rw_
      rw[List.take_succ_eq_append_getElem hlt,List.map_append]
      simp[List.getElem?_eq_getElem hlt]
     rw[hk]
     by_cases h1:y=zAH (rw_ s.rows j)
     ·rw[if_pos h1,if_pos (by rw[h1];simp)]
     ·rw[if_neg h1]
      by_cases h2:y∈zCB s.rows j
      ·rw[if_pos h2,if_pos (List.mem_append_left _ h2)]
      ·rw[if_neg h2,if_neg (by simp[h1,h2])]
    ·rcases(show i<j∨i=j by have:i<j+1:=hi;omega) with g|rfl
     ·exact hok i g
     ·exact hgood
  ·obtain rfl:j=s.rows.length:=by have:=zzB h;omega
   repeat' (first|refine yT ?_|refine y7 sg H ?_|(refine zd rfl rfl (Yq.lenM sg KP (Value.int .i64) es H.mem qC rfl rfl rfl rfl) ?_)|refine yU ?_|fail)
   refine zJs H (Up.there Up.here) (fun w' H'=>⟨[_],⟨zb rfl,trivial⟩,congrArg (fun v=>Ending.returned (Value.bool v)) ?_,H'.cl⟩)
   unfold zFg
   have h2:(List.range s.rows.length).all (zDW s)=true:=List.all_eq_true.2 fun i hi=>hok i (List.mem_range.1 hi)
   rw[h2,Bool.true_and,Bool.eq_iff_iff,List.all_eq_true]
   constructor
   ·intro hl y hy
    have he:es=[]:=List.eq_nil_of_length_eq_zero (by have:=eqI hl;omega)
    rw[decide_eq_true_eq]
    have h3:=hat (zAx y)
    rw[he,zNs] at h3
    by_cases hm:zAx y∈zCB s.rows s.rows.length
    ·exact hm
    ·rw[if_neg hm] at h3
     unfold atP at h3
     rw[show zHr (zX s) (zAx y)=true from List.any_eq_true.2 ⟨y,hy,by simp⟩] at h3
     cases h3
   ·intro hall
    cases es with
    | nil=>rfl
    | cons e t =>
      have h3:=hat e.1
      rw[zA7,if_pos rfl] at h3
      by_cases hm:e.1∈zCB s.rows s.rows.length
      ·rw[if_pos hm] at h3;cases h3
      ·rw[if_neg hm] at h3
       unfold atP at h3
       cases hh:zHr (zX s) e.1 with
       | false=>rw[hh] at h3;cases h3
       | true =>
         obtain⟨y,hy,hky⟩:=List.any_eq_true.1 hh
         have:=zzA (hall y hy)
         rw[of_decide_eq_true hky] at this
         exact absurd this hm
end
section
open Go Go.Sk Go.RowKit
attribute [local irreducible] Go.Calls
attribute [local semireducible] OX OW
def byE (s:ByteArray)(j:Nat):List Value:=[.int .u8 (zGS s j)]
set_option maxRecDepth 20000 in
theorem OX.bytes {P:Program}(S:Sig P){n:Nw}{ops:Array Oper}{Q:Exit→Env→World→Prop}{o:Oper}{rest:List Oper}{L:List (Nat × Value)}{b0:Env}{w w0:World}{G:zC}{src dst E:TypeId}{d:Nat}{x:Operand}{s:ByteArray}{ti td te:TI}(H:St w0 G w)
  (ho:o.op=.convert src dst x) (hd:o.dst=some d) (hlt:Nat.blt d n.n=true) (hx:ev (ovl L b0) x=.string s) (ht:lk S.tab src=some ti) (htd:ti.d=.string) (hdt:lk S.tab dst=some td) (hdd:td.d=.slice E) (he:lk S.tab E=some te) (hed:te.d=.int .u8) (hsz:s.size≤140737488355328)
  (k:∀ b cap w' o',St w0 ((b,o')::G) w'→Cl w w'→SlA ((b,o')::G) 1 (some ⟨b,0,none⟩) s.size cap (byE s)→OW P n ops Q rest (ovl ((d,.slice (some ⟨b,0,none⟩) s.size cap)::L) b0) w') :
  OX P n ops Q o rest (ovl L b0) w:=by
 intro a ha
 unfold Oper.wp
 rw[ha.eval]
 have h1:=run_bytes_of_string (P:=P) w src dst E s (by rw[S.und ht,htd]) (by rw[S.und hdt,hdd]) (by rw[S.und he,hed])
 simp only[execOp,ho,hx,Sem.run_bind,h1,Result.andThen_ok,Sem.run_pure,Oper.upon_value,hd]
 refine k _ _ _ _ (H.drewAlloc _) ?_ ?_ _ (ha.put hlt _)
 ·exact(Bel.refl _ _).drew.alloc (zzC _) _
 ·refine⟨grownCap_ge w s.size 0 E,hsz,_,0,(bytesRow s (grownCap w s.size 0 E)).toList,E,_,fun _=>⟨rfl,zz2 _,fun j hj=>?_⟩⟩
  have hl:(bytesRow s (grownCap w s.size 0 E)).toList=(s.data.toList.map fun(b:UInt8)=>Value.int .u8 b.toNat)++List.replicate (grownCap w s.size 0 E - s.size) (Value.int .u8 0):=by simp[bytesRow]
  have hsd:s.size=s.data.toList.length:=rfl
  rw[hl]
  have hlt:j<((s.data.toList.map fun(b:UInt8)=>Value.int .u8 b.toNat)++List.replicate (grownCap w s.size 0 E - s.size) (Value.int .u8 0)).length:=by simp only[List.length_append,List.length_map];omega
  refine⟨by omega,?_⟩
  rw[Nat.zero_add,Nat.mul_one,← List.getElem_cons_drop hlt,List.take_succ_cons,List.take_zero,List.getElem_append_left (by rw[List.length_map];omega),List.getElem_map]
  unfold byE zGS
  have h2:j<s.data.size:=hj
  rw[Array.getD,dif_pos h2]
  rfl
set_option maxRecDepth 20000 in
theorem zGU (s:ByteArray)(hsz:s.size≤140737488355328)(w0:World):Calls Tryz.prog 89 [.string s].toArray w0 (Ret (.bool (zAI s)) w0):=by
 refine enter [.tmp 2] Tryz.func89 rfl Tryz.ntmps89 rfl rfl ?_
 have H:=zA w0
 repeat' (first|refine yT ?_|(refine OX.bytes sg H rfl rfl rfl rfl rfl rfl rfl rfl rfl rfl hsz ?_;intro b cap w o1 H _ hB)|refine yU ?_|with_reducible apply zB|fail)
 obtain⟨hcap,_,b2,off,cs,T,fr,hs⟩:=hB
 refine zI [(2,2),(4,4),(8,34)] (fun k:Nat=>[(8,.int .i64 (k:Int))]) (fun k w=>k≤s.size∧zKx s k=true∧St w0 [(b,o1)] w) (fun k=>s.size - k) 0 ⟨rfl,trivial⟩ ⟨zzD _,rfl,H⟩ ?_
 clear H
 rintro k gh w ⟨hk,ho,H⟩
 repeat' (first|refine yT ?_|refine yU ?_|fail)
 refine zD rfl (fun h=>?_) (fun h=>?_)
 ·have hlt:k<s.size:=by have:=zzA h;omega
  clear h
  obtain⟨c,hc⟩:∃ c,zGS s k=c:=⟨_,rfl⟩
  have hb:=zTV c
  have good:okB c=true→zKx s (k+1)=true:=fun h=>by rw[zO2,ho,hc,h];rfl
  have bad:okB c=false→zAI s=false:=fun h=>by rw[zAI,zQ5 (hc ▸ h) hlt,Bool.and_false]
  have nok:∀ {p:Prop},¬ ((97≤c∧c≤122)∨(48≤c∧c≤57)∨c=45∨c=95)→okB c=false:=fun h=>by
   cases hq:okB c with
   | false=>rfl
   | true=>exact absurd (hb.1 hq) h
  repeat' (first|refine yT ?_|(refine zd rfl rfl (zG sg hs rfl rfl rfl rfl rfl rfl rfl (zz1 _) qO qO) ?_)|(refine y46 sg (hs) (H.mem) ?_ ?_;(omega))|refine yU ?_|(refine y17 ?_ ?_;all_goals intro h)|with_reducible apply zB|(refine y23 ?_ ?_;all_goals intro h)|fail)
  all_goals try rw[hc] at *
  all_goals simp only[decide_eq_true_eq,decide_eq_false_iff_not,ge_iff_le,Bool.not_eq_true',Bool.not_eq_false',beq_iff_eq,beq_eq_false_iff_ne,ne_eq,Bool.not_eq_true,Bool.not_eq_false,bne_iff_ne,bne_eq_false_iff_eq] at *
  all_goals first
   | exact zF (k+1) rfl ⟨zf qO,trivial⟩ ⟨hlt,good (hb.2 qO),H⟩ qO
   | exact zP rfl H.cl (congrArg Value.bool (bad (nok (p:=True) qO)).symm)
   | fail
 ·obtain rfl:k=s.size:=by have:=zzB h;omega
  repeat' (first|refine yT ?_|refine yU ?_|(refine y17 ?_ ?_;all_goals intro h)|fail)
  all_goals simp only[decide_eq_true_eq,decide_eq_false_iff_not,ge_iff_le] at *
  all_goals exact zP rfl H.cl (congrArg Value.bool (by
   unfold zAI
   rw[ho,Bool.and_true]
   by_cases q1:1≤s.size
   ·by_cases q2:s.size≤24
    ·simp[q1,q2]<;>omega
    ·simp[q1,q2]<;>omega
   ·simp[q1]<;>omega))
end
section
open Go Go.Sk Go.RowKit
attribute [local irreducible] Go.Calls
theorem c_IdxS {n cap:Nat}{a:Option Addr}(nm:Nat→ByteArray){f:FuncId}{caps:List Value}{F:zC}(p:Nat→Bool)(w0:World)(hF:Mem w0 F)(hs:SlA F 1 a n cap fun j=>[.string (nm j)])(hf:Ent Tryz.prog f)
  (hp:∀ j,j<n→∀ w,Cl w0 w→Calls Tryz.prog f ([Value.string (nm j)]++caps).toArray w (Ret (.bool (p j)) w)) :
  Calls Tryz.prog 233 [.slice a n cap,.func (.func f) #[] caps.toArray].toArray w0 (Ret (.int .i64 (idx p n)) w0):=by
 obtain⟨hn,hc,b,off,cs,T,fr,hs⟩:=hs
 refine enter [.tmp 4] Tryz.func233 rfl Tryz.ntmps233 rfl rfl ?_
 have H:=zA w0
 repeat' (first|refine yT ?_|refine yU ?_|with_reducible apply zB|fail)
 refine zI [(4,5),(8,18)] (fun k:Nat=>[(8,.int .i64 (k:Int))]) (fun k w=>k≤n∧(∀ j,j<k→p j=false)∧St w0 [] w) (fun k=>n - k) 0 ⟨rfl,trivial⟩ ⟨zzD _,fun j hj=>by omega,H⟩ ?_
 clear H
 rintro k g w ⟨hk,hpk,H⟩
 repeat' (first|refine yT ?_|refine yU ?_|fail)
 refine zD rfl (fun h=>?_) (fun h=>?_)
 ·have hlt:k<n:=by simpa using h
  repeat' (first|refine yT ?_|(refine zd rfl rfl (zG sg hs rfl rfl rfl rfl rfl rfl rfl (zz1 _) qO qO) ?_)|(refine y46 sg (hs) ((H.memF hF)) ?_ ?_;(omega))|(refine OX.call rfl rfl (zBT hf rfl rfl rfl) (hp k hlt _ H.cl) ?_;refine w2 H ?_;clear H;intro w H)|refine yU ?_|with_reducible apply zB|fail)
  refine zD rfl (fun h2=>?_) (fun h2=>?_)
  ·repeat' (first|refine yT ?_|refine yU ?_|fail)
   exact zP rfl H.cl (by rw[zBh hlt hpk h2])
  ·repeat' (first|refine yT ?_|refine yU ?_|fail)
   refine zF (k+1) rfl ⟨zf qO,trivial⟩ ⟨hlt,fun j hj=>?_,H⟩ qO
   by_cases hj':j=k
   ·rw[hj',h2]
   ·exact hpk j qO
 ·repeat' (first|refine yT ?_|refine yU ?_|fail)
  have hkn:k=n:=by simp at h;omega
  exact zP rfl H.cl (by rw[zAo (hkn ▸ hpk)])
theorem zTm {n cap:Nat}{a:Option Addr}(nm:Nat→ByteArray){f:FuncId}{caps:List Value}{F:zC}(p:Nat→Bool)(w0:World)(hF:Mem w0 F)(hs:SlA F 1 a n cap fun j=>[.string (nm j)])(hf:Ent Tryz.prog f)
  (hp:∀ j,j<n→∀ w,Cl w0 w→Calls Tryz.prog f ([Value.string (nm j)]++caps).toArray w (Ret (.bool (p j)) w)) :
  Calls Tryz.prog 215 [.slice a n cap,.func (.func f) #[] caps.toArray].toArray w0 (Ret (.bool (decide (idx p n ≥ 0))) w0):=by
 refine enter [.tmp 4] Tryz.func215 rfl Tryz.ntmps215 rfl rfl ?_
 have H:=zA w0
 repeat' (first|refine yT ?_|(refine' y30 ent233 ?_ ?_;rotate_left;exact c_IdxS nm p _ (H.memF hF) hs hf (fun j hj w' hw'=>hp j hj w' (H.cl.trans hw'));refine w2 H ?_;clear H;intro w H)|refine yU ?_|fail)
 all_goals exact zP rfl H.cl rfl
theorem zRN {n cap:Nat}{a:Option Addr}(nm:Nat→ByteArray){F:zC}(w0:World)(hF:Mem w0 F)(hs:SlA F 1 a n cap fun j=>[.string (nm j)])(hn:n*16≤140737488355328) :
  Calls Tryz.prog 219 [.slice a n cap].toArray w0 (zi (fun M v=>∃ a' cap',v=.slice a' n cap'∧Go.Sk.Own M 9 1 a' n cap' ((List.range n).flatMap fun j=>[.string (nm j)])) w0):=by
 obtain⟨hnc,hcb,b,off,cs,T,fr,hs⟩:=hs
 refine enter [.tmp 2] Tryz.func219 rfl Tryz.ntmps219 rfl rfl ?_
 have H:=zA w0
 repeat' (first|refine yT ?_|(refine zd rfl rfl (Yq.nilS sg rfl rfl rfl rfl) ?_)|refine yU ?_|fail)
 refine zD rfl (fun h=>?_) (fun h=>?_)
 ·have hn0:n=0:=by
   rcases Nat.eq_zero_or_pos n with h0|h0
   ·exact h0
   ·rw[(hs h0).1] at h;cases h
  subst hn0
  repeat' (first|refine yT ?_|refine yU ?_|fail)
  exact zS rfl H ⟨_,_,rfl,zTP _ _ _⟩
 ·have hlen:∀ m,((List.range m).flatMap fun j=>[Value.string (nm j)]).length=m*1:=by
   intro m
   induction m with
   | zero=>rfl
   | succ m ih=>rw[List.range_succ,List.flatMap_append,List.length_append,ih,List.flatMap_singleton];rfl
  have hsrc:∀ w,Mem w F→Src w (.slice a n cap) n ((List.range n).flatMap fun j=>[Value.string (nm j)]):=by
   intro w hM
   rcases Nat.eq_zero_or_pos n with h0|h0
   ·subst h0
    cases a with
    | none=>cases h
    | some a=>exact .inl ⟨a,cap,rfl,fun j u hj=>by cases hj⟩
   ·obtain⟨rfl,hm,hx⟩:=hs h0
    refine .inl ⟨_,_,rfl,fun j u hj=>?_⟩
    rw[zAC,zBq hM hm]
    have hjn:j<n:=by
     have:=(List.getElem?_eq_some_iff.1 hj).1
     rw[hlen] at this;omega
    have hj2:((List.range n).flatMap fun j=>[Value.string (nm j)])=(List.range n).map fun j=>Value.string (nm j):=by
     rw[List.flatMap_def];induction (List.range n) with
     | nil=>rfl
     | cons x t ih=>simp only[List.map_cons,List.flatten_cons,ih,List.singleton_append]
    rw[hj2,List.getElem?_map,List.getElem?_range hjn] at hj
    have h3:=(hx j hjn).2
    have h4:((cs.drop (off+j*1)).take 1)[0]?=some (Value.string (nm j)):=by rw[h3];rfl
    rw[List.getElem?_take_of_lt qO,List.getElem?_drop] at h4
    rw[show off+j=off+j*1+0 by omega,h4,← hj];rfl
  have hone:∀ u∈((List.range n).flatMap fun j=>[Value.string (nm j)]),u.oneCell'=true:=by
   intro u hu;obtain⟨j,hj,hu⟩:=List.mem_flatMap.1 hu;rw[List.mem_singleton] at hu;subst hu;rfl
  repeat' (first|refine yT ?_|(refine zBy sg H rfl rfl rfl rfl rfl rfl ?_;intro b w H _)|(refine zj sg 1 16 (M:=[]) (G:=[]) H rfl rfl rfl rfl rfl rfl rfl rfl rfl rfl rfl (zTP _ _ _) (hsrc _ (H.memF hF)) (hlen n) hone (by unfold maxLen;omega) qO ?_;intro a' cap' M w hO H;simp only[Nat.zero_add,List.nil_append] at hO;rw[List.append_nil] at H;rw[Nat.zero_add])|refine yU ?_|fail)
  exact zS rfl H ⟨_,_,rfl,hO⟩
theorem zRO (s:ByteArray)(hsz:s.size≤140737488355328)(w0:World):Calls Tryz.prog 216 [.string s].toArray w0 (Ret (.bool (!zAI s)) w0):=by
 refine enter [.tmp 2] Tryz.func216 rfl Tryz.ntmps216 rfl rfl ?_
 have H:=zA w0
 repeat' (first|refine yT ?_|(refine' y30 zQf ?_ ?_;rotate_left;exact zGU s hsz _;refine w2 H ?_;clear H;intro w H)|refine yU ?_|fail)
 all_goals exact zP rfl H.cl rfl
def zBu (n lo hi:Int):Bool:=decide (lo≤n)&&decide (n≤hi)
theorem zD7 (n lo hi:Int):zBu n lo hi=true↔(lo≤n∧n≤hi):=by simp[zBu]
theorem zHL (n lo hi:Int)(w:World):Calls Tryz.prog 184 [.int .i64 n,.int .i64 lo,.int .i64 hi].toArray w (Ret (.bool (zBu n lo hi)) w):=by
 refine enter [.tmp 6] Tryz.func184 rfl Tryz.ntmps184 rfl rfl ?_
 have H:=zA w
 repeat' (first|refine yT ?_|refine yU ?_|(refine y17 ?_ ?_;all_goals intro h)|fail)
 all_goals simp only[decide_eq_true_eq,decide_eq_false_iff_not,ge_iff_le] at *
 all_goals exact zP rfl H.cl (congrArg Value.bool (by unfold zBu;simp only[*,decide_true,decide_false,Bool.true_and,Bool.and_true,Bool.false_and,Bool.and_false]))
def zEm (l:List Ac)(s:ByteArray)(j:Nat):Bool:=(ac_ l j).name.toList==s.toList
def zA3 (l:List Ac)(s:ByteArray):Int:=idx (zEm l s) l.length
def zRP (l:List Ac)(k:Nat):Bool:=zAI (ac_ l k).name&&(zA3 l (ac_ l k).name==(k:Int))
def zEn (l:List Ac):Bool:=decide (l.length≤64)&&(List.range l.length).all fun k=>zRP l k
theorem zMc {l:List Ac}:zEn l=true↔l.length≤64∧∀ k,k<l.length→zAI (ac_ l k).name=true∧zA3 l (ac_ l k).name=k:=by
 unfold zEn zRP
 rw[Bool.and_eq_true,decide_eq_true_eq,List.all_eq_true]
 simp only[List.mem_range,Bool.and_eq_true,beq_iff_eq]
theorem zIy (l:List Ac)(s:ByteArray):-1≤zA3 l s∧zA3 l s<l.length:=by
 rcases zZ (zEm l s) l.length with ⟨k,h1,_,_,h2⟩|⟨_,h2⟩<;>(unfold zA3;rw[h2];omega)
def zJt (l:List Ins)(k:Nat)(n:Nat):Bool:=(List.range n).all fun j=>!((in_ l j).name.toList==(in_ l k).name.toList)
def zRQ (l:List Ins)(k:Nat):Bool:=zAI (in_ l k).name&&zBu (in_ l k).tick 1 1073741824&&zJt l k k
def zCu (l:List Ins):Bool:=decide (l.length≤16)&&(List.range l.length).all fun k=>zRQ l k
theorem zK3 {l:List Ins}{k n:Nat}:zJt l k n=true↔∀ j,j<n→((in_ l j).name.toList==(in_ l k).name.toList)=false:=by
 unfold zJt
 rw[List.all_eq_true]
 simp only[List.mem_range,Bool.not_eq_true']
theorem zHs {l:List Ins}:zCu l=true↔l.length≤16∧∀ k,k<l.length→zAI (in_ l k).name=true∧(1≤(in_ l k).tick∧(in_ l k).tick≤1073741824)∧∀ j,j<k→((in_ l j).name.toList==(in_ l k).name.toList)=false:=by
 unfold zCu zRQ
 rw[Bool.and_eq_true,decide_eq_true_eq,List.all_eq_true]
 simp only[List.mem_range,Bool.and_eq_true,zD7,zK3,and_assoc]
def zD8 (s:Sta)(k:Nat):Bool:=(decide ((rw_ s.rows k).acct≤0)||(zBE s.accts (rw_ s.rows k).acct).2)&&decide ((rw_ s.rows k).asset≤s.insts.length)
def zCv (s:Sta):Bool:=zAY s.rows&&(List.range s.rows.length).all fun k=>zD8 s k
theorem zD9 {s:Sta}:zCv s=true↔zAY s.rows=true∧∀ k,k<s.rows.length→zD8 s k=true:=by
 unfold zCv
 rw[Bool.and_eq_true,List.all_eq_true]
 simp only[List.mem_range]
theorem zG0 {s:Sta}{k:Nat}:zD8 s k=true↔((rw_ s.rows k).acct≤0∨(zBE s.accts (rw_ s.rows k).acct).2=true)∧(rw_ s.rows k).asset≤s.insts.length:=by
 unfold zD8
 rw[Bool.and_eq_true,Bool.or_eq_true,decide_eq_true_eq,decide_eq_true_eq]
end
end Go.Proofs.YthbflajpdhgfiaaGreatDoor
namespace Go.Sk
open Go Go.Proofs Go.RowKit
open Go.Sort (grow putRow Holds mapBlock putCells onCells)
variable {α:Type}[Inhabited α]
def zEY (enc:α→Value)(d:Array α)(cs:List Value):List Value:=d.toList.map enc++cs.drop d.size
theorem zJu (enc:α→Value)(d:Array α)(cs:List Value)(h:d.size≤cs.length):putCells enc 0 d cs.toArray=(zEY enc d cs).toArray:=by
 apply Array.ext_getElem?
 intro k
 simp only[putCells,Array.getElem?_mapIdx,List.getElem?_toArray,zEY]
 by_cases hk:k<d.size
 ·have hc:k<cs.length:=by omega
  rw[List.getElem?_append_left (by simpa using hk),List.getElem?_eq_getElem hc,Option.map_some,if_pos ⟨by omega,by omega⟩,List.getElem?_map,Array.getElem?_toList,Nat.sub_zero,
   Array.getElem?_eq_getElem hk,Option.map_some,getElem!_pos d k hk]
 ·rw[List.getElem?_append_right (by simpa using Nat.le_of_not_lt hk),List.getElem?_drop]
  simp only[List.length_map,Array.length_toList]
  rw[show d.size+(k - d.size)=k by omega]
  cases cs[k]? with
  | none=>rfl
  | some y=>rw[Option.map_some,if_neg (by omega)]
theorem St.put {enc:α→Value}{w0 w:World}{G G':zC}{b:Nat}{cs:List Value}{T:TypeId}{fr:Nat × Nat}{d:Array α}(n:Nat)(os:Array Obj)(H:St w0 G w)
  (hu:Up b (.cells cs.toArray T fr) (.cells (zEY enc d cs).toArray T fr) G G') (hl:d.size≤cs.length):St w0 G' (grow (putRow enc (Go.Sort.ahead w n) b 0 d) os):=by
 have hb:w.heap[b]?=some (.cells cs.toArray T fr):=H.mem _ hu.mem
 have h1:St w0 G' (putRow enc (Go.Sort.ahead w n) b 0 d):=by
  refine St.up H hu rfl rfl rfl (by simp[putRow,mapBlock,Go.Sort.ahead]) ?_ fun k hk=>?_
  ·show(w.heap.modify b (onCells (putCells enc 0 d)))[b]?=_
   rw[Array.getElem?_modify,if_pos rfl,hb]
   simp only[Option.map_some,onCells,zJu enc d cs hl]
  ·show(w.heap.modify b (onCells (putCells enc 0 d)))[k]?=_
   rw[Array.getElem?_modify,if_neg (Ne.symm hk)]
 refine St.ext h1 ⟨⟨rfl,rfl,rfl,by simp,fun k hk=>?_⟩,zzC _⟩
 show((putRow enc (Go.Sort.ahead w n) b 0 d).heap++os)[k]?=_
 rw[Array.getElem?_append_left hk]
theorem zHt {enc:α→Value}{w0 w:World}{G:zC}{b:Nat}{cs:List Value}{T:TypeId}{d:Array α}(H:St w0 G w)(hm:cb b cs T∈G)(he:cs.take d.size=d.toList.map enc):Holds enc w b 0 d:=by
 intro j hj
 have hb:w.heap[b]?=some (.cells cs.toArray T (0,0)):=H.mem _ hm
 refine⟨?_,?_⟩
 ·rw[Nat.zero_add,cell_of_row w b j _ T (0,0) hb,List.getElem?_toArray]
  have:(cs.take d.size)[j]?=cs[j]?:=List.getElem?_take_of_lt hj
  rw[← this,he,List.getElem?_map,Array.getElem?_toList,Array.getElem?_eq_getElem hj,Option.map_some,getElem!_pos d j hj]
 ·simp only[World.frozen?,hb]
  simp
section
variable {β:Type}[Inhabited β][DecidableEq β]
open Go.Lib (compactUpTo)
theorem zK4 (s:List β)(r:β→β→Prop)(hr:∀ x y,r x y→r y x→x=y)(hs:s.Pairwise r):(compactUpTo s.toArray s.length).length=s.length↔s.Nodup:=by
 have hg:∀ j,j<s.length→s.toArray[j]! = s[j]! := fun j hj=>by simp
 have e0:(compactUpTo s.toArray s.length).length=((List.range s.length).filter (Lib.keeps s.toArray)).length:=by unfold compactUpTo;rw[List.length_map]
 have e1:(compactUpTo s.toArray s.length).length=s.length↔∀ j,j<s.length→Lib.keeps s.toArray j=true:=by
  rw[e0]
  constructor
  ·intro h j hj
   have h2:((List.range s.length).filter (Lib.keeps s.toArray)).length=(List.range s.length).length:=by rw[h,List.length_range]
   exact(List.length_filter_eq_length_iff.1 h2) j (List.mem_range.2 hj)
  ·intro h
   rw[List.filter_eq_self.2 fun j hj=>h j (List.mem_range.1 hj),List.length_range]
 rw[e1]
 have hk:∀ j,j<s.length→(Lib.keeps s.toArray j=true↔(j=0∨s[j]! ≠ s[j - 1]!)):=fun j hj=>by
  unfold Lib.keeps;rw[decide_eq_true_eq,hg j hj,hg (j - 1) (by omega)]
 constructor
 ·intro h
  rw[List.nodup_iff_pairwise_ne,List.pairwise_iff_getElem]
  intro i j hi hj hij he
  have hne:s[j]! ≠ s[j - 1]! := ((hk j hj).1 (h j hj)).resolve_left (by omega)
  rw[getElem!_pos s j hj,getElem!_pos s (j - 1) (by omega)] at hne
  have hp:=List.pairwise_iff_getElem.1 hs
  rcases Nat.lt_or_ge i (j - 1) with g|g
  ·exact hne (hr _ _ (he ▸ hp i (j - 1) hi (by omega) g) (hp (j - 1) j (by omega) hj (by omega)))
  ·have:i=j - 1:=by omega
   subst this
   exact hne he.symm
 ·intro h j hj
  refine(hk j hj).2 ?_
  rcases Nat.eq_zero_or_pos j with g|g
  ·exact .inl g
  ·refine .inr fun he=>?_
   rw[getElem!_pos s j hj,getElem!_pos s (j - 1) (by omega)] at he
   have:=(List.nodup_iff_pairwise_ne.1 h)
   exact(List.pairwise_iff_getElem.1 this (j - 1) j (by omega) hj (by omega)) he.symm
end
theorem zK5 (l:List (List UInt8)):(Go.Lib.compactUpTo (l.mergeSort fun x y=>decide (x≤y)).toArray l.length).length=l.length↔l.Nodup:=by
 have hp:=List.mergeSort_perm l fun x y=>decide (x≤y)
 have h:=zK4 (l.mergeSort fun x y=>decide (x≤y)) (fun x y=>decide (x≤y)=true) (fun x y h1 h2=>List.le_antisymm (zzA h1) (zzA h2))
  (List.pairwise_mergeSort (fun a b c h1 h2=>by simp only[decide_eq_true_eq] at *;exact List.le_trans h1 h2) (fun a b=>by simp only[Bool.or_eq_true,decide_eq_true_eq];exact List.le_total a b) l)
 rw[hp.length_eq] at h
 exact h.trans hp.nodup_iff
end Go.Sk
set_option maxRecDepth 100000
namespace Go.Proofs.YthbflajpdhgfiaaGreatDoor
section
open Go Go.Proofs Go.Shelf
def zRR:Go.Shelf.Ren:=⟨fun|6=>217|8=>74|9=>234|19=>111|20=>112|21=>241|22=>242|23=>243|24=>244|25=>245|26=>246|27=>247|28=>248|29=>249|36=>260|31=>154|32=>155|37=>261|38=>262|39=>263|41=>267|n=>n,fun|27=>31|29=>9|3=>3|32=>130|26=>31|0=>0|44=>177|46=>179|4=>4|36=>171|35=>170|41=>101|5=>5|9=>9|53=>199|57=>203|63=>252|64=>253|n=>n,fun|n=>n⟩
theorem layS:Go.Proofs.SlLaysM.n6 Tryz.prog zRR:={
 mixed:=(by kernel_rfl),
 f6:=⟨Tryz.f217.name,by decide,Tryz.func217.trans (congrArg some (by kernel_rfl))⟩,
 f8:=Tryz.func74.trans (congrArg some (by kernel_rfl)),
 f9:=⟨Tryz.f234.name,by decide,Tryz.func234.trans (congrArg some (by kernel_rfl))⟩,
 f19:=Tryz.func111.trans (congrArg some (by kernel_rfl)),
 f20:=Tryz.func112.trans (congrArg some (by kernel_rfl)),
 f21:=⟨Tryz.f241.name,by decide,Tryz.func241.trans (congrArg some (by kernel_rfl))⟩,
 f22:=⟨Tryz.f242.name,by decide,Tryz.func242.trans (congrArg some (by kernel_rfl))⟩,
 f23:=⟨Tryz.f243.name,by decide,Tryz.func243.trans (congrArg some (by kernel_rfl))⟩,
 f24:=⟨Tryz.f244.name,by decide,Tryz.func244.trans (congrArg some (by kernel_rfl))⟩,
 f25:=⟨Tryz.f245.name,by decide,Tryz.func245.trans (congrArg some (by kernel_rfl))⟩,
 f26:=⟨Tryz.f246.name,by decide,Tryz.func246.trans (congrArg some (by kernel_rfl))⟩,
 f27:=⟨Tryz.f247.name,by decide,Tryz.func247.trans (congrArg some (by kernel_rfl))⟩,
 f28:=⟨Tryz.f248.name,by decide,Tryz.func248.trans (congrArg some (by kernel_rfl))⟩,
 f29:=⟨Tryz.f249.name,by decide,Tryz.func249.trans (congrArg some (by kernel_rfl))⟩,
 f31:=Tryz.func154.trans (congrArg some (by kernel_rfl)),
 f32:=Tryz.func155.trans (congrArg some (by kernel_rfl)),
 f36:=⟨Tryz.f260.name,by decide,Tryz.func260.trans (congrArg some (by kernel_rfl))⟩,
 f37:=⟨Tryz.f261.name,by decide,Tryz.func261.trans (congrArg some (by kernel_rfl))⟩,
 f38:=⟨Tryz.f262.name,by decide,Tryz.func262.trans (congrArg some (by kernel_rfl))⟩,
 f39:=⟨Tryz.f263.name,by decide,Tryz.func263.trans (congrArg some (by kernel_rfl))⟩,
 f41:=⟨Tryz.f267.name,by decide,Tryz.func267.trans (congrArg some (by kernel_rfl))⟩,
 t0:=Tryz.underlying0,
 a0:=Tryz.isAgg0,
 z0:=Tryz.sizeOf0,
 v0:=Tryz.zeroValue0,
 t3:=Tryz.underlying3,
 a3:=Tryz.isAgg3,
 z3:=Tryz.sizeOf3,
 v3:=Tryz.zeroValue3,
 t4:=Tryz.underlying4,
 a4:=Tryz.isAgg4,
 z4:=Tryz.sizeOf4,
 v4:=Tryz.zeroValue4,
 t5:=Tryz.underlying5,
 a5:=Tryz.isAgg5,
 z5:=Tryz.sizeOf5,
 v5:=Tryz.zeroValue5,
 t9:=Tryz.underlying9,
 a9:=Tryz.isAgg9,
 z9:=Tryz.sizeOf9,
 v9:=Tryz.zeroValue9,
 t26:=Tryz.underlying31,
 a26:=Tryz.isAgg31,
 z26:=Tryz.sizeOf31,
 v26:=Tryz.zeroValue31,
 t27:=Tryz.underlying31,
 a27:=Tryz.isAgg31,
 z27:=Tryz.sizeOf31,
 v27:=Tryz.zeroValue31,
 t29:=Tryz.underlying9,
 a29:=Tryz.isAgg9,
 z29:=Tryz.sizeOf9,
 v29:=Tryz.zeroValue9,
 t32:=Tryz.underlying130,
 a32:=Tryz.isAgg130,
 z32:=Tryz.sizeOf130,
 v32:=Tryz.zeroValue130,
 t35:=Tryz.underlying170,
 a35:=Tryz.isAgg170,
 z35:=Tryz.sizeOf170,
 v35:=Tryz.zeroValue170,
 t36:=Tryz.underlying171,
 a36:=Tryz.isAgg171,
 z36:=Tryz.sizeOf171,
 v36:=Tryz.zeroValue171,
 t41:=Tryz.underlying101,
 a41:=Tryz.isAgg101,
 z41:=Tryz.sizeOf101,
 v41:=Tryz.zeroValue101,
 t44:=Tryz.underlying177,
 a44:=Tryz.isAgg177,
 z44:=Tryz.sizeOf177,
 v44:=Tryz.zeroValue177,
 t46:=Tryz.underlying179,
 a46:=Tryz.isAgg179,
 z46:=Tryz.sizeOf179,
 v46:=Tryz.zeroValue179,
 t53:=Tryz.underlying199,
 a53:=Tryz.isAgg199,
 z53:=Tryz.sizeOf199,
 v53:=Tryz.zeroValue199,
 t57:=Tryz.underlying203,
 a57:=Tryz.isAgg203,
 z57:=Tryz.sizeOf203,
 v57:=Tryz.zeroValue203,
 t63:=Tryz.underlying252,
 a63:=Tryz.isAgg252,
 z63:=Tryz.sizeOf252,
 v63:=Tryz.zeroValue252,
 t64:=Tryz.underlying253,
 a64:=Tryz.isAgg253,
 z64:=Tryz.sizeOf253,
 v64:=Tryz.zeroValue253 }
def zPD:Go.Shelf.Ren:=⟨fun|43=>218|n=>n,fun|22=>31|23=>9|3=>3|4=>4|0=>0|n=>n,fun|n=>n⟩
theorem layCS:Go.Proofs.SlLaysE.n43 Tryz.prog zPD:={
 mixed:=(by kernel_rfl),
 f43:=⟨Tryz.f218.name,by decide,Tryz.func218.trans (congrArg some (by kernel_rfl))⟩,
 t0:=Tryz.underlying0,
 a0:=Tryz.isAgg0,
 z0:=Tryz.sizeOf0,
 v0:=Tryz.zeroValue0,
 t3:=Tryz.underlying3,
 a3:=Tryz.isAgg3,
 z3:=Tryz.sizeOf3,
 v3:=Tryz.zeroValue3,
 t4:=Tryz.underlying4,
 a4:=Tryz.isAgg4,
 z4:=Tryz.sizeOf4,
 v4:=Tryz.zeroValue4,
 t22:=Tryz.underlying31,
 a22:=Tryz.isAgg31,
 z22:=Tryz.sizeOf31,
 v22:=Tryz.zeroValue31,
 a23:=Tryz.isAgg9,
 z23:=Tryz.sizeOf9 }
def zPE:Go.Shelf.Ren:=⟨fun|6=>231|15=>74|14=>240|28=>111|29=>112|20=>252|21=>253|22=>254|23=>255|24=>256|25=>257|26=>258|27=>259|46=>264|47=>154|48=>155|49=>265|50=>266|57=>268|n=>n,fun|22=>285|24=>275|25=>287|3=>3|39=>130|0=>0|53=>177|55=>179|4=>4|46=>171|45=>170|50=>101|5=>5|9=>9|66=>199|70=>203|76=>252|77=>253|n=>n,fun|n=>n⟩
theorem layFE:Go.Proofs.SlLaysF0.n6 Tryz.prog zPE:={
 mixed:=(by kernel_rfl),
 f6:=⟨Tryz.f231.name,by decide,Tryz.func231.trans (congrArg some (by kernel_rfl))⟩,
 f14:=⟨Tryz.f240.name,by decide,Tryz.func240.trans (congrArg some (by kernel_rfl))⟩,
 f15:=Tryz.func74.trans (congrArg some (by kernel_rfl)),
 f20:=⟨Tryz.f252.name,by decide,Tryz.func252.trans (congrArg some (by kernel_rfl))⟩,
 f21:=⟨Tryz.f253.name,by decide,Tryz.func253.trans (congrArg some (by kernel_rfl))⟩,
 f22:=⟨Tryz.f254.name,by decide,Tryz.func254.trans (congrArg some (by kernel_rfl))⟩,
 f23:=⟨Tryz.f255.name,by decide,Tryz.func255.trans (congrArg some (by kernel_rfl))⟩,
 f24:=⟨Tryz.f256.name,by decide,Tryz.func256.trans (congrArg some (by kernel_rfl))⟩,
 f25:=⟨Tryz.f257.name,by decide,Tryz.func257.trans (congrArg some (by kernel_rfl))⟩,
 f26:=⟨Tryz.f258.name,by decide,Tryz.func258.trans (congrArg some (by kernel_rfl))⟩,
 f27:=⟨Tryz.f259.name,by decide,Tryz.func259.trans (congrArg some (by kernel_rfl))⟩,
 f28:=Tryz.func111.trans (congrArg some (by kernel_rfl)),
 f29:=Tryz.func112.trans (congrArg some (by kernel_rfl)),
 f46:=⟨Tryz.f264.name,by decide,Tryz.func264.trans (congrArg some (by kernel_rfl))⟩,
 f47:=Tryz.func154.trans (congrArg some (by kernel_rfl)),
 f48:=Tryz.func155.trans (congrArg some (by kernel_rfl)),
 f49:=⟨Tryz.f265.name,by decide,Tryz.func265.trans (congrArg some (by kernel_rfl))⟩,
 f50:=⟨Tryz.f266.name,by decide,Tryz.func266.trans (congrArg some (by kernel_rfl))⟩,
 f57:=⟨Tryz.f268.name,by decide,Tryz.func268.trans (congrArg some (by kernel_rfl))⟩,
 t0:=Tryz.underlying0,
 a0:=Tryz.isAgg0,
 z0:=Tryz.sizeOf0,
 v0:=Tryz.zeroValue0,
 t3:=Tryz.underlying3,
 a3:=Tryz.isAgg3,
 z3:=Tryz.sizeOf3,
 v3:=Tryz.zeroValue3,
 t4:=Tryz.underlying4,
 a4:=Tryz.isAgg4,
 z4:=Tryz.sizeOf4,
 v4:=Tryz.zeroValue4,
 t5:=Tryz.underlying5,
 a5:=Tryz.isAgg5,
 z5:=Tryz.sizeOf5,
 v5:=Tryz.zeroValue5,
 t9:=Tryz.underlying9,
 a9:=Tryz.isAgg9,
 z9:=Tryz.sizeOf9,
 v9:=Tryz.zeroValue9,
 t22:=Tryz.underlying285,
 a22:=Tryz.isAgg285,
 z22:=Tryz.sizeOf285,
 v22:=Tryz.zeroValue285,
 t25:=Tryz.underlying287,
 a25:=Tryz.isAgg287,
 z25:=Tryz.sizeOf287,
 v25:=Tryz.zeroValue287,
 t39:=Tryz.underlying130,
 a39:=Tryz.isAgg130,
 z39:=Tryz.sizeOf130,
 v39:=Tryz.zeroValue130,
 t45:=Tryz.underlying170,
 a45:=Tryz.isAgg170,
 z45:=Tryz.sizeOf170,
 v45:=Tryz.zeroValue170,
 t46:=Tryz.underlying171,
 a46:=Tryz.isAgg171,
 z46:=Tryz.sizeOf171,
 v46:=Tryz.zeroValue171,
 t50:=Tryz.underlying101,
 a50:=Tryz.isAgg101,
 z50:=Tryz.sizeOf101,
 v50:=Tryz.zeroValue101,
 t53:=Tryz.underlying177,
 a53:=Tryz.isAgg177,
 z53:=Tryz.sizeOf177,
 v53:=Tryz.zeroValue177,
 t55:=Tryz.underlying179,
 a55:=Tryz.isAgg179,
 z55:=Tryz.sizeOf179,
 v55:=Tryz.zeroValue179,
 t66:=Tryz.underlying199,
 a66:=Tryz.isAgg199,
 z66:=Tryz.sizeOf199,
 v66:=Tryz.zeroValue199,
 t70:=Tryz.underlying203,
 a70:=Tryz.isAgg203,
 z70:=Tryz.sizeOf203,
 v70:=Tryz.zeroValue203,
 t76:=Tryz.underlying252,
 a76:=Tryz.isAgg252,
 z76:=Tryz.sizeOf252,
 v76:=Tryz.zeroValue252,
 t77:=Tryz.underlying253,
 a77:=Tryz.isAgg253,
 z77:=Tryz.sizeOf253,
 v77:=Tryz.zeroValue253 }
def zPF:Go.Shelf.Ren:=⟨fun|6=>40|15=>74|14=>73|28=>111|29=>112|20=>103|21=>104|22=>105|23=>106|24=>107|25=>108|26=>109|27=>110|46=>153|47=>154|48=>155|49=>156|50=>157|57=>202|n=>n,fun|22=>45|24=>55|25=>99|3=>3|39=>130|0=>0|53=>177|55=>179|4=>4|46=>171|45=>170|50=>101|5=>5|9=>9|66=>199|70=>203|76=>252|77=>253|n=>n,fun|n=>n⟩
theorem layFO:Go.Proofs.SlLaysF0.n6 Tryz.prog zPF:={
 mixed:=(by kernel_rfl),
 f6:=⟨Tryz.f40.name,by decide,Tryz.func40.trans (congrArg some (by kernel_rfl))⟩,
 f14:=⟨Tryz.f73.name,by decide,Tryz.func73.trans (congrArg some (by kernel_rfl))⟩,
 f15:=Tryz.func74.trans (congrArg some (by kernel_rfl)),
 f20:=⟨Tryz.f103.name,by decide,Tryz.func103.trans (congrArg some (by kernel_rfl))⟩,
 f21:=⟨Tryz.f104.name,by decide,Tryz.func104.trans (congrArg some (by kernel_rfl))⟩,
 f22:=⟨Tryz.f105.name,by decide,Tryz.func105.trans (congrArg some (by kernel_rfl))⟩,
 f23:=⟨Tryz.f106.name,by decide,Tryz.func106.trans (congrArg some (by kernel_rfl))⟩,
 f24:=⟨Tryz.f107.name,by decide,Tryz.func107.trans (congrArg some (by kernel_rfl))⟩,
 f25:=⟨Tryz.f108.name,by decide,Tryz.func108.trans (congrArg some (by kernel_rfl))⟩,
 f26:=⟨Tryz.f109.name,by decide,Tryz.func109.trans (congrArg some (by kernel_rfl))⟩,
 f27:=⟨Tryz.f110.name,by decide,Tryz.func110.trans (congrArg some (by kernel_rfl))⟩,
 f28:=Tryz.func111.trans (congrArg some (by kernel_rfl)),
 f29:=Tryz.func112.trans (congrArg some (by kernel_rfl)),
 f46:=⟨Tryz.f153.name,by decide,Tryz.func153.trans (congrArg some (by kernel_rfl))⟩,
 f47:=Tryz.func154.trans (congrArg some (by kernel_rfl)),
 f48:=Tryz.func155.trans (congrArg some (by kernel_rfl)),
 f49:=⟨Tryz.f156.name,by decide,Tryz.func156.trans (congrArg some (by kernel_rfl))⟩,
 f50:=⟨Tryz.f157.name,by decide,Tryz.func157.trans (congrArg some (by kernel_rfl))⟩,
 f57:=⟨Tryz.f202.name,by decide,Tryz.func202.trans (congrArg some (by kernel_rfl))⟩,
 t0:=Tryz.underlying0,
 a0:=Tryz.isAgg0,
 z0:=Tryz.sizeOf0,
 v0:=Tryz.zeroValue0,
 t3:=Tryz.underlying3,
 a3:=Tryz.isAgg3,
 z3:=Tryz.sizeOf3,
 v3:=Tryz.zeroValue3,
 t4:=Tryz.underlying4,
 a4:=Tryz.isAgg4,
 z4:=Tryz.sizeOf4,
 v4:=Tryz.zeroValue4,
 t5:=Tryz.underlying5,
 a5:=Tryz.isAgg5,
 z5:=Tryz.sizeOf5,
 v5:=Tryz.zeroValue5,
 t9:=Tryz.underlying9,
 a9:=Tryz.isAgg9,
 z9:=Tryz.sizeOf9,
 v9:=Tryz.zeroValue9,
 t22:=Tryz.underlying45,
 a22:=Tryz.isAgg45,
 z22:=Tryz.sizeOf45,
 v22:=Tryz.zeroValue45,
 t25:=Tryz.underlying99,
 a25:=Tryz.isAgg99,
 z25:=Tryz.sizeOf99,
 v25:=Tryz.zeroValue99,
 t39:=Tryz.underlying130,
 a39:=Tryz.isAgg130,
 z39:=Tryz.sizeOf130,
 v39:=Tryz.zeroValue130,
 t45:=Tryz.underlying170,
 a45:=Tryz.isAgg170,
 z45:=Tryz.sizeOf170,
 v45:=Tryz.zeroValue170,
 t46:=Tryz.underlying171,
 a46:=Tryz.isAgg171,
 z46:=Tryz.sizeOf171,
 v46:=Tryz.zeroValue171,
 t50:=Tryz.underlying101,
 a50:=Tryz.isAgg101,
 z50:=Tryz.sizeOf101,
 v50:=Tryz.zeroValue101,
 t53:=Tryz.underlying177,
 a53:=Tryz.isAgg177,
 z53:=Tryz.sizeOf177,
 v53:=Tryz.zeroValue177,
 t55:=Tryz.underlying179,
 a55:=Tryz.isAgg179,
 z55:=Tryz.sizeOf179,
 v55:=Tryz.zeroValue179,
 t66:=Tryz.underlying199,
 a66:=Tryz.isAgg199,
 z66:=Tryz.sizeOf199,
 v66:=Tryz.zeroValue199,
 t70:=Tryz.underlying203,
 a70:=Tryz.isAgg203,
 z70:=Tryz.sizeOf203,
 v70:=Tryz.zeroValue203,
 t76:=Tryz.underlying252,
 a76:=Tryz.isAgg252,
 z76:=Tryz.sizeOf252,
 v76:=Tryz.zeroValue252,
 t77:=Tryz.underlying253,
 a77:=Tryz.isAgg253,
 z77:=Tryz.sizeOf253,
 v77:=Tryz.zeroValue253 }
end
section
open Go Go.Sk Go.RowKit
open Go.Sort (grow putRow)
attribute [local irreducible] Go.Calls
theorem eqStrD (P:Program)(T:TypeId):EqlAt P T encStr (fun x y=>decide (x=y)) :=
 ⟨fun x y w=>by rw[(EqlAt.string P T).1 ⟨x.toArray⟩ ⟨y.toArray⟩ w];by_cases h:x=y<;>simp[ByteArray.toList_eq,h],fun op a b x y w=>(EqlAt.string P T).2 op a b ⟨x.toArray⟩ ⟨y.toArray⟩ w⟩
theorem neStrD (P:Program)(T:TypeId):NeqAt P T encStr (fun x y=>decide (x=y)) :=
 ⟨fun x y w=>by rw[(NeqAt.string P T).1 ⟨x.toArray⟩ ⟨y.toArray⟩ w];by_cases h:x=y<;>simp[ByteArray.toList_eq,h],fun op a b x y w=>(NeqAt.string P T).2 op a b ⟨x.toArray⟩ ⟨y.toArray⟩ w⟩
theorem zTn {w0 w:World}{M G:zC}{a:Option Addr}{cap:Nat}(ss:List (List UInt8))(hn:ss.length≤140737488355328)(H:St w0 (M++G) w)(hO:Go.Sk.Own M 9 1 a ss.length cap (ss.map encStr)) :
  Calls Tryz.prog 217 [.slice a ss.length cap].toArray w (zi (fun N v=>v=.tuple #[]∧∃ M',N=M'++G∧Go.Sk.Own M' 9 1 a ss.length cap ((ss.mergeSort fun x y=>decide (x≤y)).map encStr)) w0):=by
 have hl2:(ss.mergeSort fun x y=>decide (x≤y)).length=ss.length:=(List.mergeSort_perm ss _).length_eq
 rcases hO.2 with ⟨h1,h2,h3⟩|⟨g,cs,rfl,rfl,h4,h5,h6,h7⟩
 ·have hs0:ss=[]:=List.eq_nil_of_length_eq_zero h1
  subst hs0;subst h3;subst h2
  refine Calls.mono (AnyM.slices_Sort_string_none layS a 0 w) ?_
  rintro e w' ⟨rfl,rfl⟩
  exact⟨_,G,rfl,⟨rfl,[],rfl,by simpa using zTP _ _ _⟩,by simpa using H⟩
 ·have hm:cb g cs 9∈([cb g cs 9]++G):=zz2 _
  have hz:ss.length*1=ss.length:=Nat.mul_one _
  refine Calls.mono (AnyM.slices_Sort_string layS g 0 cap ss w (zHt H hm (by simpa using h7)) (zBx (H.mem _ hm)) qO) ?_
  rintro e w' ⟨rfl,n,os,rfl⟩
  have hd:(ss.mergeSort fun x y=>decide (x≤y)).toArray.size=ss.length:=by simp
  refine⟨_,[cb g (zEY encStr (ss.mergeSort fun x y=>decide (x≤y)).toArray cs) 9]++G,rfl,⟨rfl,_,rfl,?_⟩,St.put n os H Up.here (by rw[hd];omega)⟩
  refine⟨by simp,.inr ⟨g,_,rfl,rfl,h4,h5,?_,?_⟩⟩
  ·simp only[zEY,List.length_append,List.length_map,List.length_drop,List.toList_toArray,hd,hl2];omega
  ·rw[zEY,List.toList_toArray,List.take_left' (by rw[List.length_map,hl2,hz])]
theorem zTo {w0 w:World}{M G:zC}{a:Option Addr}{cap:Nat}(ss:List (List UInt8))(hn:ss.length≤140737488355328)(H:St w0 (M++G) w)(hO:Go.Sk.Own M 9 1 a ss.length cap (ss.map encStr)) :
  Calls Tryz.prog 218 [.slice a ss.length cap].toArray w (zi (fun N v=>N=G∧∃ a' c',v=.slice a' (Lib.compactUpTo ss.toArray ss.length).length c') w0):=by
 rcases hO.2 with ⟨h1,h2,h3⟩|⟨g,cs,rfl,rfl,h4,h5,h6,h7⟩
 ·have hs0:ss=[]:=List.eq_nil_of_length_eq_zero h1
  subst hs0;subst h3;subst h2
  refine enter [.tmp 2] Tryz.func218 rfl Tryz.ntmps218 rfl rfl ?_
  repeat' (first|refine yT ?_|refine yU ?_|fail)
  exact zS rfl H ⟨rfl,a,0,rfl⟩
 ·have hm:cb g cs 9∈([cb g cs 9]++G):=zz2 _
  refine Calls.mono (AnyE.slices_Compact layCS encStr (fun _=>rfl) (eqStrD _ _) (neStrD _ _) [] (fun w=>Tryz.zeroValue9 w) g 0 cap ss.toArray w (zHt H hm (by simpa using h7)) (by simp;omega) (by simp;omega)) ?_
  rintro e w' ⟨rfl,q,rfl⟩
  refine⟨_,G,rfl,⟨rfl,_,cap,rfl⟩,?_⟩
  have:=St.put (enc:=encStr) (d:=(Lib.compactUpTo ss.toArray ss.toArray.size++List.replicate (ss.toArray.size - (Lib.compactUpTo ss.toArray ss.toArray.size).length) ([])).toArray) q #[] H Up.here (by
   have hle:(Lib.compactUpTo ss.toArray ss.length).length≤ss.length:=by
    unfold Lib.compactUpTo;rw[List.length_map];exact Nat.le_trans (List.length_filter_le _ _) (by simp)
   simp only[List.size_toArray,List.length_append,List.length_replicate];omega)
  rw[Go.Sort.grow_empty] at this
  exact this.sub (zz7 _ _)
def nmL (l:List ByteArray):List (List UInt8):=l.map fun s=>s.data.toList
def zBZ (l:List ByteArray):Bool:=l.all zAI&&decide (nmL l).Nodup
theorem zGV {α:Type}(f:α→Value)(l:List α)(d:α):((List.range l.length).flatMap fun j=>[f (l.getD j d)])=l.map f:=by
 have:∀ k,k≤l.length→((List.range k).flatMap fun j=>[f (l.getD j d)])=(l.take k).map f:=by
  intro k
  induction k with
  | zero=>intro _;rfl
  | succ k ih =>
    intro hk
    rw[List.range_succ,List.flatMap_append,ih qO,List.flatMap_singleton,List.take_succ_eq_append_getElem qO,List.map_append]
    congr 1
    simp[List.getElem?_eq_getElem (show k<l.length by omega)]
 rw[this _ (Nat.le_refl _),List.take_length]
theorem zTp (l:List ByteArray):(nmL l).map encStr=l.map Value.string:=by simp[nmL]
theorem zNv {w0 w:World}{M G:zC}{a:Option Addr}{cap:Nat}(l:List ByteArray)(hn:l.length≤10000)(hz:∀ k,k<l.length→(l.getD k ByteArray.empty).size≤140737488355328)(H:St w0 (M++G) w)(hO:Go.Sk.Own M 9 1 a l.length cap (l.map Value.string)) :
  Calls Tryz.prog 185 [.slice a l.length cap].toArray w (zi (fun N v=>N=G∧v=.bool (zBZ l)) w0):=by
 have hO1:=hO
 rw[← zGV Value.string l ByteArray.empty] at hO1
 have hs:=Go.Sk.Own.sl hO1 (F:=M++G) (List.subset_append_left _ _) (fun _ _=>rfl) qO
 have hln:(nmL l).length=l.length:=by simp[nmL]
 rw[← hln,← zTp] at hO
 have hcmp:=zK5 (nmL l)
 obtain⟨S,hS⟩:∃ S,((nmL l).mergeSort fun x y=>decide (x≤y))=S:=⟨_,rfl⟩
 have hSl:S.length=(nmL l).length:=by rw[← hS];exact(List.mergeSort_perm _ _).length_eq
 rw[hS] at hcmp
 refine enter [.tmp 2] Tryz.func185 rfl Tryz.ntmps185 rfl rfl ?_
 repeat' (first|refine yT ?_|(refine' y30 ent215 ?_ ?_;rotate_left;exact zTm (fun j=>l.getD j ByteArray.empty) (caps:=[]) (fun j=>!zAI (l.getD j ByteArray.empty)) _ H.mem hs ent216 (fun j hj w' _=>zRO _ (hz j hj) w');refine w2 H ?_;clear H;intro w H)|refine yU ?_|fail)
 refine zD rfl (fun h=>?_) (fun h=>?_)
 ·repeat' (first|refine yT ?_|refine yU ?_|fail)
  refine zS rfl (H.tail) ⟨rfl,congrArg Value.bool ?_⟩
  have h1:=zzA h
  rcases zZ (fun j=>!zAI (l.getD j ByteArray.empty)) l.length with ⟨k,hk,_,hp,_⟩|⟨_,h2⟩
  ·unfold zBZ
   have:l.all zAI=false:=by
    rw[List.all_eq_false]
    refine⟨l.getD k ByteArray.empty,?_,by simpa using hp⟩
    simp[List.getElem?_eq_getElem hk]
   rw[this];rfl
  ·omega
 ·have h1:=zzB h
  have hall:l.all zAI=true:=by
   rcases zZ (fun j=>!zAI (l.getD j ByteArray.empty)) l.length with ⟨k,hk,_,hp,h2⟩|⟨h2,_⟩
   ·omega
   ·rw[List.all_eq_true]
    intro x hx
    obtain⟨k,hk,rfl⟩:=List.mem_iff_getElem.1 hx
    have:=h2 k hk
    simpa [List.getElem?_eq_getElem hk] using this
  clear h
  rw[← hln]
  repeat' (first|refine yT ?_|(refine' y33 ent217 ?_ ?_;rotate_left 2;exact zTn (nmL l) qO H hO;rintro v N w ⟨rfl,M,rfl,hO⟩ H;rw[hS] at hO)|refine yU ?_|fail)
  have hs2:SlA (M++G) 1 a (nmL l).length cap fun j=>[Value.string ⟨(S.getD j []).toArray⟩]:=Go.Sk.Own.sl (E:=9) (M:=M) (by rw[← hSl,zGV encStr S []];rw[hSl];exact hO) (List.subset_append_left _ _) (fun _ _=>rfl) qO
  repeat' (first|refine yT ?_|(refine' y32 ent219 ?_ ?_;rotate_left;exact zRN (fun j=>⟨(S.getD j []).toArray⟩) _ H.mem hs2 qO;intro v Mc w hR hS;replace H:=H.addR hS;clear hS;(try simp only[List.cons_append,List.nil_append] at H);obtain⟨a3,cap3,rfl,hO3⟩:=hR)|fail)
  rw[← hSl] at hO3
  rw[zGV encStr S []] at hO3
  rw[← hSl]
  repeat' (first|refine yT ?_|(refine' y33 ent218 ?_ ?_;rotate_left 2;exact zTo S qO (H.perm List.perm_append_comm) hO3;rintro v N w ⟨rfl,a4,c4,rfl⟩ H)|refine yU ?_|fail)
  rw[hSl]
  refine zS rfl (H.tail) ⟨rfl,congrArg Value.bool ?_⟩
  unfold zBZ
  rw[hall,Bool.true_and]
  by_cases hd:(nmL l).Nodup
  ·rw[hcmp.2 hd,decide_eq_true hd];simp
  ·have:(Lib.compactUpTo S.toArray (nmL l).length).length≠(nmL l).length:=fun h=>hd (hcmp.1 h)
   rw[decide_eq_false hd]
   exact beq_eq_false_iff_ne.2 qO
end
section
open Go Go.Sk Go.RowKit
attribute [local irreducible] Go.Calls
def nmA (l:List Ac):List ByteArray:=l.map (·.name)
def nmI (l:List Ins):List ByteArray:=l.map (·.name)
theorem zDF {α:Type}(f:α→List UInt8)(l:List α)(d:α):(l.map f).Nodup↔∀ k,k<l.length→∀ j,j<k→f (l.getD j d)≠f (l.getD k d):=by
 rw[List.nodup_iff_pairwise_ne,List.pairwise_iff_getElem]
 constructor
 ·intro h k hk j hj
  have:=h j k (by simpa using (by omega:j<l.length)) (by simpa using hk) hj
  simpa [List.getElem?_eq_getElem hk,List.getElem?_eq_getElem (show j<l.length by omega)] using this
 ·intro h i j hi hj hij
  have hi':i<l.length:=by simpa using hi
  have hj':j<l.length:=by simpa using hj
  have:=h j hj' i hij
  simpa [List.getElem?_eq_getElem hi',List.getElem?_eq_getElem hj'] using this
theorem zBP {α:Type}{l:List α}{x d:α}(h:x∈l):∃ k,k<l.length∧l.getD k d=x:=by
 obtain⟨k,hk,rfl⟩:=List.mem_iff_getElem.1 h
 exact⟨k,hk,by simp[List.getElem?_eq_getElem hk]⟩
theorem zz {α:Type}{l:List α}{k:Nat}(d:α)(h:k<l.length):l.getD k d∈l:=by
 simp[List.getElem?_eq_getElem h]
theorem zF5 (l:List Ac):zEn l=(decide (l.length≤64)&&zBZ (nmA l)):=by
 rw[Bool.eq_iff_iff,zMc,Bool.and_eq_true,decide_eq_true_eq]
 unfold zBZ nmA nmL
 rw[Bool.and_eq_true,List.all_eq_true,decide_eq_true_eq,List.map_map]
 refine and_congr_right fun _=>?_
 have hfi:∀ k,k<l.length→(zA3 l (ac_ l k).name=k↔∀ j,j<k→(ac_ l j).name.data.toList≠(ac_ l k).name.data.toList):=by
  intro k hk
  have hkk:zEm l (ac_ l k).name k=true:=by unfold zEm;exact beq_self_eq_true _
  constructor
  ·intro h j hj he
   rcases zZ (zEm l (ac_ l k).name) l.length with ⟨m,hm,hn,_,h2⟩|⟨hn,_⟩
   ·unfold zA3 at h
    have:m=k:=by omega
    subst this
    have:=hn j hj
    unfold zEm at this
    rw[ByteArray.toList_eq,ByteArray.toList_eq,he] at this
    simp at this
   ·rw[hn k hk] at hkk;cases hkk
  ·intro h
   unfold zA3
   rw[zBh hk (fun j hj=>?_) hkk]
   unfold zEm
   rw[ByteArray.toList_eq,ByteArray.toList_eq]
   exact beq_eq_false_iff_ne.2 (h j hj)
 constructor
 ·intro h
  refine⟨fun x hx=>?_,(zDF (fun x:Ac=>x.name.data.toList) l default).2 fun k hk=>(hfi k hk).1 (h k hk).2⟩
  obtain⟨y,hy,rfl⟩:=List.mem_map.1 hx
  obtain⟨k,hk,rfl⟩:=zBP (d:=default) hy
  exact(h k hk).1
 ·rintro⟨h1,h2⟩ k hk
  exact⟨h1 _ (List.mem_map.2 ⟨_,zz default hk,rfl⟩),(hfi k hk).2 ((zDF (fun x:Ac=>x.name.data.toList) l default).1 h2 k hk)⟩
theorem zEA (l:List Ins):zCu l=(decide (l.length≤16)&&((List.range l.length).all (fun k=>zBu (in_ l k).tick 1 1073741824)&&zBZ (nmI l))):=by
 rw[Bool.eq_iff_iff,zHs,Bool.and_eq_true,decide_eq_true_eq]
 unfold zBZ nmI nmL
 rw[Bool.and_eq_true,Bool.and_eq_true,List.all_eq_true,List.all_eq_true,decide_eq_true_eq,List.map_map]
 simp only[List.mem_range,zD7]
 refine and_congr_right fun _=>?_
 have hne:∀ {j k},((in_ l j).name.toList==(in_ l k).name.toList)=false↔(in_ l j).name.data.toList≠(in_ l k).name.data.toList:=fun{j k}=>by
  rw[ByteArray.toList_eq,ByteArray.toList_eq,beq_eq_false_iff_ne]
 constructor
 ·intro h
  refine⟨fun k hk=>(h k hk).2.1,fun x hx=>?_,(zDF (fun x:Ins=>x.name.data.toList) l default).2 fun k hk j hj=>hne.1 ((h k hk).2.2 j hj)⟩
  obtain⟨y,hy,rfl⟩:=List.mem_map.1 hx
  obtain⟨k,hk,rfl⟩:=zBP (d:=default) hy
  exact(h k hk).1
 ·rintro⟨h0,h1,h2⟩ k hk
  exact⟨h1 _ (List.mem_map.2 ⟨_,zz default hk,rfl⟩),h0 k hk,fun j hj=>hne.2 ((zDF (fun x:Ins=>x.name.data.toList) l default).1 h2 k hk j hj)⟩
structure Gr where
 k:Nat
 a:Option Addr
 cap:Nat
 M:zC
theorem zK6 {α:Type}(f:α→Value)(l:List α)(d:α){k:Nat}(hk:k<l.length):(l.take k).map f++[f (l.getD k d)]=(l.take (k+1)).map f:=by
 rw[List.take_succ_eq_append_getElem hk,List.map_append]
 simp[List.getElem?_eq_getElem hk]
theorem zMd {F:zC}(s:Sta)(p:SPt)(hb:s.accts.length≤10000)(hz:∀ k,k<s.accts.length→(ac_ s.accts k).name.size≤140737488355328)(w0:World)(hF:Mem w0 F)(hs0:StaM F s p) :
  Calls Tryz.prog 143 [.agg (s.cells p).toArray].toArray w0 (Ret (.bool (zEn s.accts)) w0):=by
 obtain⟨hnc,hcb,b0,off,cs,T,fr,hs⟩:=hs0.ac
 refine enter [.tmp 2] Tryz.func143 rfl Tryz.ntmps143 rfl rfl ?_
 have H:=zA w0
 repeat' (first|refine yT ?_|refine y7 sg H ?_|(refine y9 H ?_;intro b w H)|refine yU ?_|with_reducible apply zB|fail)
 refine zI [(3,3),(5,5),(9,18)] (fun x:Gr=>[(9,.int .i64 (x.k:Int)),(3,.slice x.a x.k x.cap)]) (fun x w=>x.k≤s.accts.length∧Go.Sk.Own x.M 9 1 x.a x.k x.cap ((s.accts.take x.k).map fun y=>Value.string y.name)∧St w0 (cb _ (s.cells p) 48::x.M) w) (fun x=>s.accts.length - x.k) ⟨0,none,0,[]⟩ ⟨rfl,rfl,trivial⟩ ⟨zzD _,zTP _ _ _,H⟩ ?_
 clear H
 rintro⟨k,ao,co,M⟩ gh w ⟨hk,hO,H⟩
 simp only at hk hO H ⊢
 repeat' (first|refine yT ?_|refine yU ?_|fail)
 refine zD rfl (fun h=>?_) (fun h=>?_)
 ·have hlt:k<s.accts.length:=by have:=zzA h;omega
  clear h
  repeat' (first|refine yT ?_|refine y7 sg H ?_|(refine y10 sg H ?_;intro b w H)|(refine y11 sg H ?_;intro w H)|refine x40 sg hs ?_|refine x42 sg hs (H.memF hF) ?_|(refine z14 sg H ?_;intro b w H)|(have hp:=H.perm (List.perm_append_comm (l₁:=[_,_,_]) (l₂:=M));refine zj sg 1 16 (M:=M) hp rfl rfl rfl rfl rfl rfl rfl rfl rfl rfl rfl hO (zAL hp.mem (zz3 _ (zz2 _))) rfl (zAU rfl) (by unfold maxLen;omega) qO ?_;clear hp hO;intro ao co M w hO H;replace H:=H.perm (List.perm_append_comm (l₁:=M) (l₂:=[_,_,_])))|refine yU ?_|with_reducible apply zB|fail)
  exact zF ⟨k+1,ao,co,M⟩ rfl ⟨zf qO,rfl,trivial⟩ ⟨hlt,by show Go.Sk.Own M _ 1 ao (k+1) co _;rw[← zK6 (fun y:Ac=>Value.string y.name) s.accts default hlt];exact hO,(H.sub (zz7 _ _)).sub (zz7 _ _)⟩ (by show s.accts.length - (k+1)<s.accts.length - k;omega)
 ·obtain rfl:k=s.accts.length:=by have:=zzB h;omega
  have hln:(nmA s.accts).length=s.accts.length:=by simp[nmA]
  rw[List.take_length] at hO
  have hO2:Go.Sk.Own M 9 1 ao (nmA s.accts).length co ((nmA s.accts).map Value.string):=by rw[hln];simpa [nmA,Function.comp_def] using hO
  have hnz:∀ k,k<(nmA s.accts).length→((nmA s.accts).getD k ByteArray.empty).size≤140737488355328:=fun k hk=>by
   rw[hln] at hk
   have:=hz k hk
   simpa [nmA,ac_,List.getElem?_eq_getElem hk] using this
  have hcn:=fun{G:zC} {w:World}=>zNv (w0:=w0) (w:=w) (G:=G) (M:=M) (a:=ao) (cap:=co) (nmA s.accts) qO hnz
  rw[hln] at hcn hO2
  repeat' (first|refine yT ?_|(refine' y33 zQo ?_ ?_;rotate_left 2;exact hcn (H.perm (List.perm_append_comm (l₁:=[_]) (l₂:=M))) hO2;rintro v N w ⟨rfl,rfl⟩ H)|refine yU ?_|(refine y17 ?_ ?_;all_goals intro h)|fail)
  all_goals refine zP rfl H.cl (congrArg Value.bool ?_)
  all_goals rw[zF5]
  all_goals simp only[decide_eq_true_eq,decide_eq_false_iff_not] at h
  ·rw[decide_eq_true qO];rfl
  ·rw[decide_eq_false qO];rfl
theorem zIe {F:zC}(s:Sta)(p:SPt)(hb:s.insts.length≤10000)(hz:∀ k,k<s.insts.length→(in_ s.insts k).name.size≤140737488355328)(w0:World)(hF:Mem w0 F)(hs0:StaM F s p) :
  Calls Tryz.prog 144 [.agg (s.cells p).toArray].toArray w0 (Ret (.bool (zCu s.insts)) w0):=by
 obtain⟨hnc,hcb,b0,off,cs,T,fr,hs⟩:=hs0.ins
 refine enter [.tmp 2] Tryz.func144 rfl Tryz.ntmps144 rfl rfl ?_
 have H:=zA w0
 repeat' (first|refine yT ?_|refine y7 sg H ?_|(refine y9 H ?_;intro b w H)|refine yU ?_|with_reducible apply zB|fail)
 refine zI [(2,3),(5,5),(9,22)] (fun x:Gr=>[(9,.int .i64 (x.k:Int)),(3,.slice x.a x.k x.cap)]) (fun x w=>x.k≤s.insts.length∧(∀ j,j<x.k→zBu (in_ s.insts j).tick 1 1073741824=true)∧Go.Sk.Own x.M 9 1 x.a x.k x.cap ((s.insts.take x.k).map fun y=>Value.string y.name)∧St w0 (cb _ (s.cells p) 48::x.M) w) (fun x=>s.insts.length - x.k) ⟨0,none,0,[]⟩ ⟨rfl,rfl,trivial⟩ ⟨zzD _,fun j hj=>absurd hj (zzE _),zTP _ _ _,H⟩ ?_
 clear H
 rintro⟨k,ao,co,M⟩ gh w ⟨hk,hr,hO,H⟩
 simp only at hk hr hO H ⊢
 repeat' (first|refine yT ?_|refine yU ?_|fail)
 refine zD rfl (fun h=>?_) (fun h=>?_)
 ·have hlt:k<s.insts.length:=by have:=zzA h;omega
  clear h
  repeat' (first|refine yT ?_|refine y7 sg H ?_|(refine y10 sg H ?_;intro b w H)|(refine y11 sg H ?_;intro w H)|refine x40 sg hs ?_|refine x42 sg hs (H.memF hF) ?_|(refine' y30 zJb ?_ ?_;rotate_left;exact zHL (in_ s.insts k).tick 1 1073741824 _;refine w2 H ?_;clear H;intro w H)|refine yU ?_|with_reducible apply zB|fail)
  refine zD rfl (fun h=>?_) (fun h=>?_)
  ·repeat' (first|refine yT ?_|refine yU ?_|fail)
   refine zP rfl H.cl (congrArg Value.bool ?_)
   rw[zEA]
   have:(List.range s.insts.length).all (fun k=>zBu (in_ s.insts k).tick 1 1073741824)=false:=by
    rw[List.all_eq_false]
    exact⟨k,List.mem_range.2 hlt,by simpa using h⟩
   rw[this,Bool.false_and,Bool.and_false]
  ·have hrk:zBu (in_ s.insts k).tick 1 1073741824=true:=by simpa using h
   repeat' (first|refine yT ?_|refine y7 sg H ?_|(refine z14 sg H ?_;intro b w H)|(have hp:=H.perm (List.perm_append_comm (l₁:=[_,_,_]) (l₂:=M));refine zj sg 1 16 (M:=M) hp rfl rfl rfl rfl rfl rfl rfl rfl rfl rfl rfl hO (zAL hp.mem (zz3 _ (zz2 _))) rfl (zAU rfl) (by unfold maxLen;omega) qO ?_;clear hp hO;intro ao co M w hO H;replace H:=H.perm (List.perm_append_comm (l₁:=M) (l₂:=[_,_,_])))|refine yU ?_|fail)
   exact zF ⟨k+1,ao,co,M⟩ rfl ⟨zf qO,rfl,trivial⟩ ⟨hlt,fun j hj=>by
    rcases(show j<k∨j=k by have:j<k+1:=hj;omega) with g|rfl
    ·exact hr j g
    ·exact hrk,by show Go.Sk.Own M _ 1 ao (k+1) co _;rw[← zK6 (fun y:Ins=>Value.string y.name) s.insts default hlt];exact hO,(H.sub (zz7 _ _)).sub (zz7 _ _)⟩ (by show s.insts.length - (k+1)<s.insts.length - k;omega)
 ·obtain rfl:k=s.insts.length:=by have:=zzB h;omega
  have hln:(nmI s.insts).length=s.insts.length:=by simp[nmI]
  rw[List.take_length] at hO
  have hO2:Go.Sk.Own M 9 1 ao (nmI s.insts).length co ((nmI s.insts).map Value.string):=by rw[hln];simpa [nmI,Function.comp_def] using hO
  have hnz:∀ k,k<(nmI s.insts).length→((nmI s.insts).getD k ByteArray.empty).size≤140737488355328:=fun k hk=>by
   rw[hln] at hk
   have:=hz k hk
   simpa [nmI,in_,List.getElem?_eq_getElem hk] using this
  have hcn:=fun{G:zC} {w:World}=>zNv (w0:=w0) (w:=w) (G:=G) (M:=M) (a:=ao) (cap:=co) (nmI s.insts) qO hnz
  rw[hln] at hcn hO2
  have hall:(List.range s.insts.length).all (fun k=>zBu (in_ s.insts k).tick 1 1073741824)=true:=List.all_eq_true.2 fun k hk=>hr k (List.mem_range.1 hk)
  repeat' (first|refine yT ?_|(refine' y33 zQo ?_ ?_;rotate_left 2;exact hcn (H.perm (List.perm_append_comm (l₁:=[_]) (l₂:=M))) hO2;rintro v N w ⟨rfl,rfl⟩ H)|refine yU ?_|(refine y17 ?_ ?_;all_goals intro h)|fail)
  all_goals refine zP rfl H.cl (congrArg Value.bool ?_)
  all_goals rw[zEA,hall,Bool.true_and]
  all_goals simp only[decide_eq_true_eq,decide_eq_false_iff_not] at h
  ·rw[decide_eq_true qO];rfl
  ·rw[decide_eq_false qO];rfl
def zG1 (s:Sta):Bool:=zBu s.clock 0 1099511627776&&zBu s.fee 0 1000&&zBu s.nextO 1 1099511627777&&zBu s.nextA 1 1099511627777
theorem zMe (n:Int)(w0:World):Calls Tryz.prog 183 [.int .i64 n].toArray w0 (Ret (.bool (zBu n 1 1099511627777)) w0):=by
 refine enter [.tmp 2] Tryz.func183 rfl Tryz.ntmps183 rfl rfl ?_
 have H:=zA w0
 repeat' (first|refine yT ?_|(refine' y30 zJb ?_ ?_;rotate_left;exact zHL n 1 1099511627777 _;refine w2 H ?_;clear H;intro w H)|refine yU ?_|fail)
 all_goals exact zP rfl H.cl rfl
theorem zPG (s:Sta)(p:SPt)(w0:World) :
  Calls Tryz.prog 142 [.agg (s.cells p).toArray].toArray w0 (Ret (.bool (zG1 s)) w0):=by
 refine enter [.tmp 2] Tryz.func142 rfl Tryz.ntmps142 rfl rfl ?_
 have H:=zA w0
 repeat' (first|refine yT ?_|refine y7 sg H ?_|(refine y9 H ?_;intro b w H)|(refine' y30 zJb ?_ ?_;rotate_left;exact zHL s.clock 0 1099511627776 _;refine w2 H ?_;clear H;intro w H)|(refine' y30 zJb ?_ ?_;rotate_left;exact zHL s.fee 0 1000 _;refine w2 H ?_;clear H;intro w H)|(refine' y34 ent183 ?_ ?_;rotate_left;exact zMe _ _;refine w2 H ?_;clear H;intro w H)|refine yU ?_|(refine y17 ?_ ?_;all_goals intro h)|fail)
 all_goals exact zP rfl H.cl (congrArg Value.bool (by unfold zG1;simp only[*,Bool.true_and,Bool.and_true,Bool.false_and,Bool.and_false]))
def zCS (s:Sta)(o:Odr):Bool:=decide (o.id<s.nextO)&&(zBE s.accts o.acct).2&&(zB0 s.insts o.inst).2&&(o.price.tmod (zB0 s.insts o.inst).1.tick==0)
def zA8 (s:Sta):Bool:=ze s.orders&&(List.range s.orders.length).all fun k=>zCS s (od_ s.orders k)
theorem zCC {s:Sta}:zA8 s=true↔ze s.orders=true∧∀ k,k<s.orders.length→zCS s (od_ s.orders k)=true:=by
 unfold zA8
 rw[Bool.and_eq_true,List.all_eq_true]
 simp only[List.mem_range]
theorem zRS {l:List Ins}(h:zCu l=true){a:Int}(ha:(zB0 l a).2=true):1≤(zB0 l a).1.tick:=by
 unfold zB0 at ha ⊢
 split at ha
 ·rename_i hh
  rw[if_pos hh]
  exact((zHs.1 h).2 _ qO).2.1.1
 ·cases ha
end
end Go.Proofs.YthbflajpdhgfiaaGreatDoor
