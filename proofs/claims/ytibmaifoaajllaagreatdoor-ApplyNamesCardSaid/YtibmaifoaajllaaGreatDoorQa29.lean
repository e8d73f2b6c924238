/- Texts of ours, joined: the steps of the proof, or the claim's theorem. -/
import Derived.Test.YtibmaifoaajllaaGreatDoorQa28
set_option linter.unusedSimpArgs false
set_option linter.unusedVariables false
set_option maxHeartbeats 16000000
namespace Go.Proofs.YtibmaifoaajllaaGreatDoor
section
open Go Go.Sk Go.RowKit
theorem wi {n m:Int}(h:1≤n∧n≤m):zp n m=true:=by simp[zp,h]
theorem zN5 {a:Auc}(hb:a.bids=[])(h1:1≤a.id∧a.id≤1099511627776)(h2:1≤a.seller∧a.seller≤64)(h3:1≤a.inst∧a.inst≤16)(h4:1≤a.qty∧a.qty≤1048576)(h5:1≤a.reserve∧a.reserve≤1125899906842624)(h6:1≤a.fin∧a.fin≤1099511627776)(h7:a.sealed=true→a.step=0)(h8:a.sealed=false→1≤a.step∧a.step≤1125899906842624):zAV a=true :=
 mayP.2 ⟨wi h1,wi h2,wi h3,wi h4,wi h5,wi h6,h7,fun e=>wi (h8 e),by rw[hb];decide,fun _=>by rw[hb];decide,fun _ j hj=>by rw[hb] at hj;exact absurd hj (zzE _),fun j hj=>by rw[hb] at hj;exact absurd hj (zzE _)⟩
theorem kinds {k:Int}(h:1≤k∧k≤23):k=1∨k=2∨k=3∨k=4∨k=5∨k=6∨k=7∨k=8∨k=9∨k=10∨k=11∨k=12∨k=13∨k=14∨k=15∨k=16∨k=17∨k=18∨k=19∨k=20∨k=21∨k=22∨k=23:=by omega
theorem zRr {s t:Sta}{e:Evt}(h:Good s)(he:EvOk e)(hd:zBE s e.kind e.nums (e.texts.getD 0 ByteArray.empty)=(t,0)):Good t:=by
 have hat:=fun(i c:Nat) (hc:(zII e.kind)[i]?=some c)=>he.at i hc
 have htx:=he.text
 obtain⟨k,hk⟩:∃ k,e.kind=k:=⟨_,rfl⟩
 have hkk:=he.kind
 rw[hk] at hd hat htx hkk
 clear he hk
 generalize e.nums=n at *
 generalize e.texts.getD 0 ByteArray.empty=nm at *
 have z:(0:Int)≤s.insts.length:=by omega
 unfold zBE at hd
 rcases kinds hkk with rfl|rfl|rfl|rfl|rfl|rfl|rfl|rfl|rfl|rfl|rfl|rfl|rfl|rfl|rfl|rfl|rfl|rfl|rfl|rfl|rfl|rfl|rfl<;>simp only[Int.reduceEq,if_false,if_true] at hd
 ·exact zMd h (zHI (hat 0 97 rfl)).2 (htx rfl) hd
 ·exact zMi h hd
 ·exact zMg h (zDL (hat 0 105 rfl)).2 (bnd_k (hat 1 107 rfl)) (htx rfl) hd
 ·exact zLM h hd
 ·exact zLM h hd
 ·split at hd
  ·rename_i g;exact zEx h hd (.inl (Int.le_refl _)) (.inr g) z
  ·exact absurd (Prod.mk.inj hd).2 (by decide)
 ·split at hd
  ·rename_i g;exact zEx h hd (.inr g) (.inl (Int.le_refl _)) z
  ·exact absurd (Prod.mk.inj hd).2 (by decide)
 ·split at hd
  ·rename_i g;exact zEx h hd (.inl (Int.le_refl _)) (.inr g.1) (zAT.1 g.2).2
  ·exact absurd (Prod.mk.inj hd).2 (by decide)
 ·split at hd
  ·rename_i g;exact zEx h hd (.inr g.1) (.inl (Int.le_refl _)) (zAT.1 g.2).2
  ·exact absurd (Prod.mk.inj hd).2 (by decide)
 ·obtain rfl:=(Prod.mk.inj hd).1
  exact zT0 h (bnd_b (hat 0 98 rfl))
 ·exact zMj h ((zAi _).2 ⟨zRj (hat 0 111 rfl),zHI (hat 1 97 rfl),zDL (hat 2 105 rfl),by have:=zRk (hat 3 115 rfl);show nF n 3=1∨nF n 3=2;omega,zNy (hat 4 112 rfl),zDc (hat 5 113 rfl)⟩) hd
 ·exact zIp h hd
 ·exact zMk h hd
 ·exact zJF h (zN5 rfl (bnd_c (hat 0 99 rfl)) (zHI (hat 1 97 rfl)) (zDL (hat 2 105 rfl)) (zDc (hat 3 113 rfl)) (zDM (hat 4 109 rfl)) (zRl (hat 6 116 rfl)) (fun e=>by cases e) (fun _=>zDM (hat 5 109 rfl))) rfl hd
 ·exact zN3 h hd
 ·exact zJF h (zN5 rfl (bnd_c (hat 0 99 rfl)) (zHI (hat 1 97 rfl)) (zDL (hat 2 105 rfl)) (zDc (hat 3 113 rfl)) (zDM (hat 4 109 rfl)) (zRl (hat 5 116 rfl)) (fun _=>rfl) (fun e=>by cases e)) rfl hd
 ·exact zN3 h hd
 ·exact zRq h hd
 ·exact zMl h hd
 ·exact zPL h (zRl (hat 0 116 rfl)).2 hd
 ·unfold zAe at hd
  split at hd
  ·rename_i g
   split at hd
   ·exact absurd (Prod.mk.inj hd).2 (by decide)
   ·exact zEx h hd (.inr g.1) (.inr g.2) z
  ·exact absurd (Prod.mk.inj hd).2 (by decide)
 ·exact zLK h (htx rfl) hd
 ·exact zMh h (bnd_k (hat 1 107 rfl)) hd
theorem zEU {s t:Sta}{e:Evt}(h:Good s)(hd:zy s e=(t,0)):Good t:=by
 unfold zy at hd
 by_cases h1:e.v=3∧zBa e=true
 ·rw[if_pos h1] at hd
  split at hd
  ·exact zRr h (zNx h1.1 h1.2) hd
  ·rename_i g;exact absurd (Prod.mk.inj hd).2 g
 ·rw[if_neg h1] at hd;exact absurd (Prod.mk.inj hd).2 (by decide)
theorem zJG {s t:Sta}{e:Evt}(hd:zk s e=(t,0)):Good s∧Good t:=by
 unfold zk at hd
 by_cases h1:zCC s=true
 ·rw[if_pos h1] at hd;exact⟨zAl.1 h1,zEU (zAl.1 h1) hd⟩
 ·rw[if_neg h1] at hd;exact absurd (Prod.mk.inj hd).2 (by decide)
theorem all_cons (e:Evt)(l:List Evt)(s:Sta)(i:Int):zAB s (e::l) i=if (zy s e).2=0 then zAB (zy s e).1 l (i+1) else(zCt,i,(zy s e).2):=rfl
theorem zGQ:∀ {l m:List Evt} {s:Sta} {i:Int},zAB s (l++m) i=if (zAB s l i).2.2=0 then zAB (zAB s l i).1 m (zAB s l i).2.1 else zAB s l i
 | [],m,s,i=>by rw[List.nil_append];rfl
 | e::l,m,s,i=>by
   rw[List.cons_append,all_cons,all_cons]
   by_cases h1:(zy s e).2=0
   ·rw[if_pos h1,if_pos h1];exact zGQ
   ·rw[if_neg h1,if_neg h1];simp only;rw[if_neg h1]
def zBR:Int:=1125899906842624
theorem zGx {E:Pl→Int × Int}:(zAt E=0↔∀ x∈zBb,zAN x.1 (E x).1 (E x).2=0)∧((∃ x∈zBb,zAN x.1 (E x).1 (E x).2=47)→zAt E=47)∧((∀ x∈zBb,zAN x.1 (E x).1 (E x).2≠47)→(∃ x∈zBb,zAN x.1 (E x).1 (E x).2=41)→zAt E=41):=by
 refine⟨zIC,fun⟨x,hx,e⟩=>?_,fun h ⟨x,hx,e⟩=>?_⟩
 ·unfold zAt
  rw[if_pos (List.any_eq_true.2 ⟨x,hx,by simp[e]⟩)]
 ·unfold zAt
  rw[if_neg,if_pos (List.any_eq_true.2 ⟨x,hx,by simp[e]⟩)]
  rw[List.any_eq_true]
  rintro⟨y,hy,g⟩
  exact h y hy (by simpa using g)
theorem zHb {l:List Row4}{p:List Pst}(h:zAJ l=true)(hp:zAd p=0):zAn l p=if zAt (zm l p)=0 then(mkR (zm l p),0) else([],zAt (zm l p)):=by
 unfold zAn;rw[if_pos h,if_pos hp]
theorem zRs {l:List Row4}{p:List Pst}(h:zAJ l=true){x:Pl}(hx:dlF p x=(0,0)):zAN x.1 (zm l p x).1 (zm l p x).2=0:=by
 have hg:=(zBc h x).2
 rcases zCm x.1 (zm l p x).1 (zm l p x).2 with e|e|e
 ·exact e.1
 ·have:=hg e.2.1;unfold zm at e;rw[hx] at e;simp only at e;omega
 ·have:=hg e.2.1;unfold zm at e;rw[hx] at e;simp only at e;omega
theorem zGy {p:List Pst}:zAd p=0↔p.length≤64∧p.any zCs=false∧∀ s:Nat,s<17→zBU p s=0:=by
 refine⟨zIB,fun⟨h1,h2,h3⟩=>?_⟩
 unfold zAd
 rw[if_neg (by omega),h2,if_neg (by simp),if_neg]
 rw[List.any_eq_true]
 rintro⟨s,hs,e⟩
 rw[h3 s (List.mem_range.1 hs)] at e
 simp at e
def zLR (a s:Int):Prop:=(0≤a∧a≤64)∧0≤s∧s≤16
theorem zFJ {q:Pst}:zCs q=false↔zLR q.acct q.asset∧(-zBR≤q.free∧q.free≤zBR)∧(-zBR≤q.held∧q.held≤zBR)∧(q.acct=0→q.held=0):=by
 unfold zCs zCX zIn zLR zBR
 simp only[Bool.or_eq_false_iff,Bool.not_eq_false',Bool.and_eq_true,decide_eq_true_eq,decide_eq_false_iff_not,Bool.and_eq_false_iff,beq_eq_false_iff_ne,bne_eq_false_iff_eq]
 constructor
 ·rintro⟨⟨⟨⟨⟨⟨a,b⟩,c⟩,d⟩,e,f⟩,g,h⟩,i⟩
  exact⟨⟨⟨a,b⟩,c,d⟩,⟨by omega,by omega⟩,⟨by omega,by omega⟩,fun h0=>i.resolve_left fun n=>n h0⟩
 ·rintro⟨⟨⟨a,b⟩,c,d⟩,⟨e,f⟩,⟨g,h⟩,i⟩
  refine⟨⟨⟨⟨⟨⟨a,b⟩,c⟩,d⟩,by omega,by omega⟩,by omega,by omega⟩,?_⟩
  by_cases h0:q.acct=0
  ·exact .inr (i h0)
  ·exact .inl h0
theorem zCn {l:List Row4}(h:zAJ l=true){a s:Int}(ha:a≠0):zs l a s=(atR l (a,s)).1+(atR l (a,s)).2:=by
 have g:=(zBc h (a,s)).2 ha
 unfold zs zMI zBj
 rw[if_neg (by omega)]
def SameW (r t:Sta × Int):Prop:=r.2=t.2∧(t.2=0→r.1=t.1)
theorem SameW.refl (r:Sta × Int):SameW r r:=⟨rfl,fun _=>rfl⟩
theorem zJH (p r:List Pst)(x:Pl):dlF (p++r) x=((dlF p x).1+(dlF r x).1,(dlF p x).2+(dlF r x).2):=by
 induction p with
 | nil=>simp[dlF]
 | cons q p ih =>
   rw[List.cons_append,zAW,zAW,ih]
   split
   ·ext<;>simp only<;>omega
   ·rfl
theorem zLS {p:List Pst}(h:∀ q∈p,q.free+q.held=0)(x:Pl):(dlF p x).1+(dlF p x).2=0:=by
 induction p with
 | nil=>rfl
 | cons q p ih =>
   have h1:=ih fun y hy=>h y (zz5 _ hy)
   have h2:=h q (zz2 _)
   rw[zAW]
   split
   ·simp only;omega
   ·exact h1
def zAw (n:List Int):Odr:=⟨nF n 0,nF n 1,nF n 2,nF n 3,nF n 4,nF n 5⟩
def zDP (k:Int)(n:List Int)(q:Int):Int :=
 if k=6 then(if q=0 then nF n 1 else 0) else if k=7 then(if q=0 then -nF n 1 else 0) else if k=8 then(if q=nF n 1 then nF n 2 else 0) else if k=9 then(if q=nF n 1 then -nF n 2 else 0)
 else if k=13 then(if q=0 then -nF n 4 else 0) else if k=18 then(if q=0 then -nF n 3 else 0) else 0
theorem zCo {s:Sta}(h:Good s):s.accts.length≤64:=(zB8.1 h.accts).1
theorem zEz {s:Sta}(h:Good s):s.insts.length≤16:=(zB9.1 h.insts).1
end
section
open Go Go.Sk Go.RowKit
attribute [local irreducible] Go.Calls
theorem zAA {k:Int}{a:Option Addr}{len cap:Nat}(w0:World) :
  Calls Tryz.prog 25 [.int .u8 k,.slice a len cap].toArray w0 (Ret (.agg #[.int .u8 3,.int .u8 k,.slice a len cap,.slice none 0 0]) w0):=by
 refine enter [.cell 4 32] Tryz.func25 rfl Tryz.ntmps25 rfl rfl ?_
 have H:=zB w0
 repeat' (first|refine yT ?_|(refine y10 sg H ?_;intro b w H)|(refine y11 sg H ?_;intro w H)|refine yU ?_|fail)
 exact zBT (vs:=[_]) ⟨zAf sg rfl H.mem qB rfl rfl,trivial⟩ H.cl rfl
theorem zRt {k:Int}{t:ByteArray}{a:Option Addr}{len cap:Nat}(w0:World) :
  Calls Tryz.prog 24 [.int .u8 k,.string t,.slice a len cap].toArray w0 (zn (fun M v=>∃ b,M=[cb b [.string t] 9]∧v=.agg #[.int .u8 3,.int .u8 k,.slice a len cap,.slice (some ⟨b,0,none⟩) 1 1]) w0):=by
 refine enter [.cell 6 32] Tryz.func24 rfl Tryz.ntmps24 rfl rfl ?_
 have H:=zB w0
 repeat' (first|refine yT ?_|(refine y10 sg H ?_;intro b w H)|(refine y11 sg H ?_;intro w H)|(refine z14 sg H ?_;intro b w H)|refine yU ?_|fail)
 exact zAY (vs:=[_]) (M:=[_]) ⟨zAf sg rfl H.mem qB rfl rfl,trivial⟩ (H.sub (by first|exact List.Sublist.cons_cons _ (zz9 _)|exact List.Sublist.cons _ (List.Sublist.cons_cons _ (zz9 _)))) ⟨_,rfl,rfl⟩
def ev_ (l:List Evt)(j:Nat):Evt:=l.getD j ⟨0,0,[],[]⟩
def EvsM (F:zH)(a:Option Addr)(cap:Nat)(l:List Evt)(q:Nat→EPt):Prop:=SlA F 4 a l.length cap (fun j=>(ev_ l j).cells (q j))∧∀ j,j<l.length→EvtM F (ev_ l j) (q j)
theorem EvsM.mono {F G:zH}{a:Option Addr}{cap:Nat}{l:List Evt}{q:Nat→EPt}(h:EvsM F a cap l q)(hs:F⊆G):EvsM G a cap l q:=⟨SlA.mono h.1 hs,fun j hj=>(h.2 j hj).mono hs⟩
theorem zIP {F:zH}{b:Nat}{T:TypeId}(n:List Int)(hl:n.length≤1000)(h:cb b (n.map (Value.int .i64)) T∈F):Ints F (some ⟨b,0,none⟩) n.length n:=by
 refine⟨zzC _,by omega,b,0,_,T,(0,0),fun _=>⟨rfl,h,fun j hj=>?_⟩⟩
 refine⟨by simp;omega,?_⟩
 simp only[Nat.zero_add,Nat.mul_one]
 rw[List.drop_eq_getElem_cons (by simpa using hj)]
 simp[iel,List.getElem?_eq_getElem hj]
theorem zT1 {F:zH}{b:Nat}{T:TypeId}(t:ByteArray)(h:cb b [.string t] T∈F):SlA F 1 (some ⟨b,0,none⟩) 1 1 fun j=>[Value.string (([t]:List ByteArray).getD j ByteArray.empty)] :=
 ⟨Nat.le_refl 1,(show 1≤140737488355328 by decide),b,0,_,T,(0,0),fun _=>⟨rfl,h,fun j hj=>by
  have:j=0:=by have:j<1:=hj;omega
  subst this
  exact⟨Nat.le_refl 1,rfl⟩⟩⟩
theorem zEV {F:zH}{b:Nat}{T:TypeId}(k:Int)(n:List Int)(hl:n.length≤1000)(h:cb b (n.map (Value.int .i64)) T∈F):EvtM F (evF k n) ⟨some ⟨b,0,none⟩,n.length,none,0⟩:=⟨zIP n hl h,⟨zzD _,zzD _,0,0,[],0,(0,0),fun h=>absurd h (Nat.lt_irrefl 0)⟩⟩
theorem zKI {F:zH}{b bt:Nat}{T T2:TypeId}(k:Int)(t:ByteArray)(n:List Int)(hl:n.length≤1000)(h:cb b (n.map (Value.int .i64)) T∈F)(ht:cb bt [.string t] T2∈F):EvtM F (evN k t n) ⟨some ⟨b,0,none⟩,n.length,some ⟨bt,0,none⟩,1⟩:=⟨zIP n hl h,zT1 t ht⟩
end
section
open Go Go.Sk Go.RowKit Go.ChangeShapes
structure StaA (s:Sta):Prop where
 acN:∀ k,k<s.accts.length→(ac_ s.accts k).name.size≤140737488355328
 insN:∀ k,k<s.insts.length→(in_ s.insts k).name.size≤140737488355328
 rw:∀ j,j<s.rows.length→(rw_ s.rows j).wf
 od:∀ k,k<s.orders.length→0≤(od_ s.orders k).side∧(od_ s.orders k).side<256
theorem zMm {i:Int}(h:(Lit.int .i64 i).wf=true):-9223372036854775808≤i∧i≤9223372036854775807:=by
 simpa [Lit.wf,IntKind.min,IntKind.max,IntKind.signed,IntKind.bits] using h
theorem zRu {i:Int}(h:(Lit.int .u8 i).wf=true):0≤i∧i<256:=by
 have:0≤i∧i≤255:=by simpa [Lit.wf,IntKind.min,IntKind.max,IntKind.signed,IntKind.bits] using h
 omega
section
variable {H:Type}{enc:TypeId × Value→H}{w:World}
set_option maxRecDepth 20000 in
theorem rz_ac {cs:List Value}(h:Rz enc Tryz.prog w 74 cs):∃ x:Ac,cs=x.cells∧x.name.size≤140737488355328:=by
 have h:=h.struct (sg.desc rfl rfl) (by kernel_rfl)
 obtain⟨x0,cs,rfl,b0,h⟩:=h.string (sg.desc rfl rfl) (sg.ncells rfl rfl)
 obtain⟨x1,cs,rfl,_,h⟩:=h.bool (sg.desc rfl rfl) (sg.ncells rfl rfl)
 obtain rfl:=h.nil
 exact⟨⟨x0,x1⟩,rfl,b0⟩
set_option maxRecDepth 20000 in
theorem rz_ins {cs:List Value}(h:Rz enc Tryz.prog w 76 cs):∃ x:Ins,cs=x.cells∧x.name.size≤140737488355328:=by
 have h:=h.struct (sg.desc rfl rfl) (by kernel_rfl)
 obtain⟨x0,cs,rfl,b0,h⟩:=h.string (sg.desc rfl rfl) (sg.ncells rfl rfl)
 obtain⟨x1,cs,rfl,_,h⟩:=h.int (sg.desc rfl rfl) (sg.ncells rfl rfl)
 obtain⟨x2,cs,rfl,_,h⟩:=h.bool (sg.desc rfl rfl) (sg.ncells rfl rfl)
 obtain rfl:=h.nil
 exact⟨⟨x0,x1,x2⟩,rfl,b0⟩
set_option maxRecDepth 20000 in
theorem rz_row {cs:List Value}(h:Rz enc Tryz.prog w 70 cs):∃ x:Row4,cs=x.cells∧x.wf:=by
 have h:=h.struct (sg.desc rfl rfl) (by kernel_rfl)
 obtain⟨x0,cs,rfl,_,h⟩:=h.int (sg.desc rfl rfl) (sg.ncells rfl rfl)
 obtain⟨x1,cs,rfl,_,h⟩:=h.int (sg.desc rfl rfl) (sg.ncells rfl rfl)
 obtain⟨x2,cs,rfl,b2,h⟩:=h.int (sg.desc rfl rfl) (sg.ncells rfl rfl)
 obtain⟨x3,cs,rfl,b3,h⟩:=h.int (sg.desc rfl rfl) (sg.ncells rfl rfl)
 obtain rfl:=h.nil
 exact⟨⟨x0,x1,x2,x3⟩,rfl,zMm b2,zMm b3⟩
set_option maxRecDepth 20000 in
theorem rz_odr {cs:List Value}(h:Rz enc Tryz.prog w 43 cs):∃ x:Odr,cs=x.cells∧(0≤x.side∧x.side<256):=by
 have h:=h.struct (sg.desc rfl rfl) (by kernel_rfl)
 obtain⟨x0,cs,rfl,_,h⟩:=h.int (sg.desc rfl rfl) (sg.ncells rfl rfl)
 obtain⟨x1,cs,rfl,_,h⟩:=h.int (sg.desc rfl rfl) (sg.ncells rfl rfl)
 obtain⟨x2,cs,rfl,_,h⟩:=h.int (sg.desc rfl rfl) (sg.ncells rfl rfl)
 obtain⟨x3,cs,rfl,b3,h⟩:=h.int (sg.desc rfl rfl) (sg.ncells rfl rfl)
 obtain⟨x4,cs,rfl,_,h⟩:=h.int (sg.desc rfl rfl) (sg.ncells rfl rfl)
 obtain⟨x5,cs,rfl,_,h⟩:=h.int (sg.desc rfl rfl) (sg.ncells rfl rfl)
 obtain rfl:=h.nil
 exact⟨⟨x0,x1,x2,x3,x4,x5⟩,rfl,zRu b3⟩
set_option maxRecDepth 20000 in
theorem rz_bid {cs:List Value}(h:Rz enc Tryz.prog w 91 cs):∃ x:Bid,cs=x.cells∧True:=by
 have h:=h.struct (sg.desc rfl rfl) (by kernel_rfl)
 obtain⟨x0,cs,rfl,_,h⟩:=h.int (sg.desc rfl rfl) (sg.ncells rfl rfl)
 obtain⟨x1,cs,rfl,_,h⟩:=h.int (sg.desc rfl rfl) (sg.ncells rfl rfl)
 obtain rfl:=h.nil
 exact⟨⟨x0,x1⟩,rfl,trivial⟩
set_option maxRecDepth 20000 in
theorem rz_auc {cs:List Value}(h:Rz enc Tryz.prog w 62 cs):∃ x:Auc × (Option Addr × Nat),cs=x.1.cells x.2.1 x.2.2∧Bids (zEh w) x.2.1 x.2.2 x.1.bids:=by
 have h:=h.struct (sg.desc rfl rfl) (by kernel_rfl)
 obtain⟨x0,cs,rfl,_,h⟩:=h.int (sg.desc rfl rfl) (sg.ncells rfl rfl)
 obtain⟨x1,cs,rfl,_,h⟩:=h.int (sg.desc rfl rfl) (sg.ncells rfl rfl)
 obtain⟨x2,cs,rfl,_,h⟩:=h.int (sg.desc rfl rfl) (sg.ncells rfl rfl)
 obtain⟨x3,cs,rfl,_,h⟩:=h.bool (sg.desc rfl rfl) (sg.ncells rfl rfl)
 obtain⟨x4,cs,rfl,_,h⟩:=h.int (sg.desc rfl rfl) (sg.ncells rfl rfl)
 obtain⟨x5,cs,rfl,_,h⟩:=h.int (sg.desc rfl rfl) (sg.ncells rfl rfl)
 obtain⟨x6,cs,rfl,_,h⟩:=h.int (sg.desc rfl rfl) (sg.ncells rfl rfl)
 obtain⟨x7,cs,rfl,_,h⟩:=h.int (sg.desc rfl rfl) (sg.ncells rfl rfl)
 obtain⟨a,len,cap,cs,rfl,hs,h⟩:=h.slice (sg.desc rfl rfl) (sg.ncells rfl rfl) (sg.ncells rfl rfl) (sg.nbytes rfl rfl)
 obtain rfl:=h.nil
 obtain⟨l,rfl,hl,_⟩:=hs.named (el:=Bid.cells) (fun _=>rz_bid)
 exact⟨⟨⟨x0,x1,x2,x3,x4,x5,x6,x7,l⟩,a,cap⟩,rfl,hl⟩
set_option maxRecDepth 20000 in
theorem rz_sta {cs:List Value}(h:Rz enc Tryz.prog w 28 cs):∃ (s:Sta) (p:SPt),cs=s.cells p∧StaM (zEh w) s p∧StaA s:=by
 have h:=h.struct (sg.desc rfl rfl) (by kernel_rfl)
 obtain⟨x0,cs,rfl,_,h⟩:=h.int (sg.desc rfl rfl) (sg.ncells rfl rfl)
 obtain⟨x1,cs,rfl,_,h⟩:=h.int (sg.desc rfl rfl) (sg.ncells rfl rfl)
 obtain⟨x2,cs,rfl,_,h⟩:=h.int (sg.desc rfl rfl) (sg.ncells rfl rfl)
 obtain⟨x3,cs,rfl,_,h⟩:=h.int (sg.desc rfl rfl) (sg.ncells rfl rfl)
 obtain⟨a4,n4,c4,cs,rfl,h4,h⟩:=h.slice (sg.desc rfl rfl) (sg.ncells rfl rfl) (sg.ncells rfl rfl) (sg.nbytes rfl rfl)
 obtain⟨a5,n5,c5,cs,rfl,h5,h⟩:=h.slice (sg.desc rfl rfl) (sg.ncells rfl rfl) (sg.ncells rfl rfl) (sg.nbytes rfl rfl)
 obtain⟨a6,n6,c6,cs,rfl,h6,h⟩:=h.slice (sg.desc rfl rfl) (sg.ncells rfl rfl) (sg.ncells rfl rfl) (sg.nbytes rfl rfl)
 obtain⟨a7,n7,c7,cs,rfl,h7,h⟩:=h.slice (sg.desc rfl rfl) (sg.ncells rfl rfl) (sg.ncells rfl rfl) (sg.nbytes rfl rfl)
 obtain⟨a8,n8,c8,cs,rfl,h8,h⟩:=h.slice (sg.desc rfl rfl) (sg.ncells rfl rfl) (sg.ncells rfl rfl) (sg.nbytes rfl rfl)
 obtain rfl:=h.nil
 obtain⟨l4,rfl,m4,w4⟩:=h4.named (el:=Ac.cells) (fun _=>rz_ac)
 obtain⟨l5,rfl,m5,w5⟩:=h5.named (el:=Ins.cells) (fun _=>rz_ins)
 obtain⟨l6,rfl,m6,w6⟩:=h6.named (el:=Row4.cells) (fun _=>rz_row)
 obtain⟨l7,rfl,m7,w7⟩:=h7.named (el:=Odr.cells) (fun _=>rz_odr)
 obtain⟨l8,rfl,m8,w8⟩:=h8.named (α:=Auc × (Option Addr × Nat)) (el:=fun x=>x.1.cells x.2.1 x.2.2) (fun _=>rz_auc)
 have hg:∀ j,(l8.map (·.1)).getD j default=(l8.getD j default).1:=fun j=>by
  simp only[List.getD_eq_getElem?_getD,List.getElem?_map]
  cases l8[j]?<;>rfl
 refine⟨⟨x0,x1,x2,x3,l4,l5,l6,l7,l8.map (·.1)⟩,⟨a4,c4,a5,c5,a6,c6,a7,c7,a8,c8,fun j=>(l8.getD j default).2⟩,?_,⟨m4,m5,m6,m7,?_,?_⟩,w4,w5,w6,w7⟩
 ·simp[Sta.cells]
 ·simp only[List.length_map]
  have:ael (l8.map (·.1)) (fun j=>(l8.getD j default).2)=fun j=>(l8.getD j default).1.cells (l8.getD j default).2.1 (l8.getD j default).2.2:=by
   funext j
   unfold ael
   rw[hg]
  rw[this]
  exact m8
 ·intro j hj
  simp only[List.length_map] at hj
  simp only[hg]
  exact w8 j hj
set_option maxRecDepth 20000 in
theorem zFK {v:Value}{d:DataW H}{p:List MemPlace}(h:DataW.Trod enc Tryz.prog w 0 (fun _=>true) true 28 v d p)(hz:∀ n∈d.weights Tryz.prog 28,n≤reachBytes)(hv:Value.okWide Tryz.prog w .any 0 28 v) :
  ∃ (s:Sta) (p:SPt),v=.agg (s.cells p).toArray∧StaM (zEh w) s p∧StaA s:=by
 obtain⟨cs,rfl,_⟩:=Go.WideShapes.okWide_struct (sg.desc rfl rfl) hv
 obtain⟨s,p,e,hM,hA⟩:=rz_sta (Rz.of h hz)
 refine⟨s,p,?_,hM,hA⟩
 have:cs.toList=s.cells p:=e
 rw[← this]
set_option maxRecDepth 20000 in
theorem zGR {t:TypeId}{v:Value}{d:DataW H}{p:List MemPlace}(ht:Tryz.prog.underlying t=some (.int .i64))(h:DataW.Trod enc Tryz.prog w 0 (fun _=>true) true t v d p)(hv:Value.okWide Tryz.prog w .any 0 t v) :
  ∃ i:Int,v=.int .i64 i∧-9223372036854775808≤i∧i≤9223372036854775807:=by
 obtain⟨i,rfl,_,_,hw⟩:=open_int ht hv h
 exact⟨i,rfl,zMm hw⟩
instance:Inhabited Evt:=⟨⟨0,0,[],[]⟩⟩
instance:Inhabited EPt:=⟨⟨none,0,none,0⟩⟩
theorem rz_i64 {cs:List Value}(h:Rz enc Tryz.prog w 2 cs):∃ x:Int,cs=[.int .i64 x]∧True:=by
 obtain⟨i,rfl,_⟩:=Rd.int (Rz.rd h) (sg.desc rfl rfl)
 exact⟨i,rfl,trivial⟩
theorem rz_str {cs:List Value}(h:Rz enc Tryz.prog w 9 cs):∃ x:ByteArray,cs=[.string x]∧x.size≤140737488355328:=h.string (sg.desc rfl rfl)
set_option maxRecDepth 20000 in
theorem zRv {cs:List Value}(h:Rz enc Tryz.prog w 32 cs):∃ x:Evt × EPt,cs=x.1.cells x.2∧EvtM (zEh w) x.1 x.2∧zFq x.1:=by
 have h:=h.struct (sg.desc rfl rfl) (by kernel_rfl)
 obtain⟨x0,cs,rfl,b0,h⟩:=h.int (sg.desc rfl rfl) (sg.ncells rfl rfl)
 obtain⟨x1,cs,rfl,b1,h⟩:=h.int (sg.desc rfl rfl) (sg.ncells rfl rfl)
 obtain⟨a2,n2,c2,cs,rfl,h2,h⟩:=h.slice (sg.desc rfl rfl) (sg.ncells rfl rfl) (sg.ncells rfl rfl) (sg.nbytes rfl rfl)
 obtain⟨a3,n3,c3,cs,rfl,h3,h⟩:=h.slice (sg.desc rfl rfl) (sg.ncells rfl rfl) (sg.ncells rfl rfl) (sg.nbytes rfl rfl)
 obtain rfl:=h.nil
 obtain⟨l2,rfl,m2,_⟩:=h2.named (el:=fun x:Int=>[.int .i64 x]) (fun _=>rz_i64)
 obtain⟨l3,rfl,m3,w3⟩:=h3.named (el:=fun x:ByteArray=>[.string x]) (fun _=>rz_str)
 have b0:=zRu b0
 have b1:=zRu b1
 refine⟨⟨⟨x0,x1,l2,l3⟩,⟨a2,c2,a3,c3⟩⟩,rfl,⟨m2,m3⟩,by simp only;omega,by simp only;omega,fun t ht=>?_⟩
 obtain⟨j,hj,rfl⟩:=List.getElem_of_mem (show t∈l3 from ht)
 have:=w3 j hj
 rw[List.getD_eq_getElem?_getD,List.getElem?_eq_getElem hj] at this
 exact this
set_option maxRecDepth 20000 in
theorem zHc {v:Value}{d:DataW H}{p:List MemPlace}(h:DataW.Trod enc Tryz.prog w 0 (fun _=>true) true 32 v d p)(hz:∀ n∈d.weights Tryz.prog 32,n≤reachBytes)(hv:Value.okWide Tryz.prog w .any 0 32 v) :
  ∃ (e:Evt) (p:EPt),v=.agg (e.cells p).toArray∧EvtM (zEh w) e p∧zFq e:=by
 obtain⟨cs,rfl,_⟩:=Go.WideShapes.okWide_struct (sg.desc rfl rfl) hv
 obtain⟨⟨s,p⟩,e,hM,hA⟩:=zRv (Rz.of h hz)
 refine⟨s,p,?_,hM,hA⟩
 have:cs.toList=s.cells p:=e
 rw[← this]
end
end
section
open Go Go.Sk Go.RowKit
structure Opn where
 acct:Int
 id:Int
 inst:Int
 side:Int
 price:Int
 left:Int
 deriving DecidableEq,Inhabited
structure Lt where
 id:Int
 seller:Int
 inst:Int
 qty:Int
 deriving DecidableEq,Inhabited
structure Psn where
 acct:Int
 inst:Int
 bought:Int
 sold:Int
 spent:Int
 got:Int
 deriving DecidableEq,Inhabited
structure Ln where
 acct:Int
 seq:Int
 kind:Int
 delta:Int
 bal:Int
 deriving DecidableEq,Inhabited
def Opn.cells (x:Opn):List Value:=[.int .i64 x.acct,.int .i64 x.id,.int .i64 x.inst,.int .u8 x.side,.int .i64 x.price,.int .i64 x.left]
def Lt.cells (x:Lt):List Value:=[.int .i64 x.id,.int .i64 x.seller,.int .i64 x.inst,.int .i64 x.qty]
def Psn.cells (x:Psn):List Value:=[.int .i64 x.acct,.int .i64 x.inst,.int .i64 x.bought,.int .i64 x.sold,.int .i64 x.spent,.int .i64 x.got]
def Ln.cells (x:Ln):List Value:=[.int .i64 x.acct,.int .i64 x.seq,.int .u8 x.kind,.int .i64 x.delta,.int .i64 x.bal]
def op_ (l:List Opn)(j:Nat):Opn:=l.getD j default
def lt_ (l:List Lt)(j:Nat):Lt:=l.getD j default
def ps_ (l:List Psn)(j:Nat):Psn:=l.getD j default
def ln_ (l:List Ln)(j:Nat):Ln:=l.getD j default
def opl (l:List Opn)(j:Nat):List Value:=(op_ l j).cells
def ltl (l:List Lt)(j:Nat):List Value:=(lt_ l j).cells
def psl (l:List Psn)(j:Nat):List Value:=(ps_ l j).cells
def lnl (l:List Ln)(j:Nat):List Value:=(ln_ l j).cells
structure Vws where
 opn:List Opn
 lots:List Lt
 poss:List Psn
 lins:List Ln
structure VPt where
 opA:Option Addr
 opC:Nat
 ltA:Option Addr
 ltC:Nat
 psA:Option Addr
 psC:Nat
 lnA:Option Addr
 lnC:Nat
def Vws.cells (v:Vws)(p:VPt):List Value:=[.slice p.opA v.opn.length p.opC,.slice p.ltA v.lots.length p.ltC,.slice p.psA v.poss.length p.psC,.slice p.lnA v.lins.length p.lnC]
structure VwM (F:zH)(v:Vws)(p:VPt):Prop where
 op:SlA F 6 p.opA v.opn.length p.opC (opl v.opn)
 lt:SlA F 4 p.ltA v.lots.length p.ltC (ltl v.lots)
 ps:SlA F 6 p.psA v.poss.length p.psC (psl v.poss)
 ln:SlA F 5 p.lnA v.lins.length p.lnC (lnl v.lins)
theorem VwM.mono {F G:zH}{v:Vws}{p:VPt}(h:VwM F v p)(hs:F⊆G):VwM G v p:=⟨SlA.mono h.op hs,SlA.mono h.lt hs,SlA.mono h.ps hs,SlA.mono h.ln hs⟩
end
end Go.Proofs.YtibmaifoaajllaaGreatDoor
