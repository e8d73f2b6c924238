/- Texts of ours, joined: the steps of the proof, or the claim's theorem. -/
import Derived.Test.YtibmaifoaajllaaGreatDoorQa27
import Derived.Test.YtibmaifoaajllaaGreatDoorQa38
set_option linter.unusedSimpArgs false
set_option linter.unusedVariables false
set_option maxHeartbeats 16000000
namespace Go.Proofs.YtibmaifoaajllaaGreatDoor
open Go Go.Sk Go.RowKit
attribute [local irreducible] Go.Calls
def ltA (x y:Auc):Prop:=x.fin<y.fin∨(x.fin=y.fin∧x.id<y.id)
def IsRow (l:List Auc)(clock:Int)(r:List Auc):Prop :=
 (zAS l=true∧r.Pairwise ltA∧r.Perm (l.filter fun x=>zA6 x clock))∨(zAS l=false∧r=[])
theorem zM4 {l:List Auc}:(List.range l.length).map (fun i=>l.getD i default)=l:=by
 apply List.ext_getElem
 ·simp
 ·intro i h1 h2
  simp at h1
  simp[h1]
theorem zKS (l:List Auc)(q:Auc→Bool):((List.range l.length).filter fun i=>q (l.getD i default)).map (fun i=>l.getD i default)=l.filter q:=by
 conv=>rhs;rw[← zM4 (l:=l),List.filter_map]
 rfl
theorem zPm {l:List Auc}(h:zAS l=true):l.length≤32∧(∀ i,i<l.length→zAV (l.getD i default)=true)∧∀ i j,i<j→j<l.length→(l.getD i default).id<(l.getD j default).id:=by
 simp only[zAS,Bool.and_eq_true,decide_eq_true_eq] at h
 have hb:∀ k,k<l.length→zBY l k=false:=by
  rcases zY (zBY l) l.length with ⟨k,hk,_,_,hix⟩|⟨hall,_⟩
  ·rw[hix] at h;omega
  ·exact hall
 have hs:∀ i,i+1<l.length→(l.getD i default).id<(l.getD (i+1) default).id:=by
  intro i hi
  have:=hb (i+1) hi
  simp only[zBY,Bool.or_eq_false_iff,decide_eq_false_iff_not,Int.not_le] at this
  exact this.1
 refine⟨by omega,fun i hi=>?_,fun i j hij=>?_⟩
 ·have:=hb i hi
  simp only[zBY,Bool.or_eq_false_iff,Bool.not_eq_false'] at this
  exact this.2
 ·induction j with
  | zero=>omega
  | succ j ih =>
    intro hj
    rcases(show i=j∨i<j by omega) with rfl|h2
    ·exact hs i hj
    ·exact Int.lt_trans (ih h2 (by omega)) (hs j hj)
theorem zLd (d:Nat→AE)(n:Nat):seg d 0 n=(List.range n).map d:=by
 unfold seg
 rw[Nat.sub_zero]
 refine List.map_congr_left fun t _=>?_
 rw[Nat.zero_add]
theorem kp_asc {p:Nat→Bool}{n i j:Nat}(h:i<j)(hj:j<(kp p n).length):(kp p n).getD i 0<(kp p n).getD j 0:=by
 have hp:(kp p n).Pairwise (·<·):=(List.pairwise_lt_range).filter _
 rw[List.pairwise_iff_getElem] at hp
 have:=hp i j (by omega) hj h
 simpa [List.getD_eq_getElem?_getD,List.getElem?_eq_getElem (show i<(kp p n).length by omega),List.getElem?_eq_getElem hj] using this
theorem kp_mem {p:Nat→Bool}{n i:Nat}(h:i<(kp p n).length):(kp p n).getD i 0<n∧p ((kp p n).getD i 0)=false:=by
 have:(kp p n).getD i 0∈kp p n:=by
  rw[List.getD_eq_getElem?_getD,List.getElem?_eq_getElem h]
  exact List.getElem_mem h
 unfold kp at this ⊢
 simpa [List.mem_filter] using this
theorem row_is {l:List Auc}{ad:Nat→Option Addr × Nat}{clock:Int}{D:Nat→AE}(hm:zAS l=true)(h1:Seg D 0 (zFU l clock))(h2:Pm (zHN (fun j=>!zA6 (l.getD j default) clock) l.length (aed l ad)) D 0 (zFU l clock)) :
  IsRow l clock ((List.range (zFU l clock)).map fun t=>(D t).1):=by
 left
 refine⟨hm,?_,?_⟩
 ·rw[List.pairwise_map]
  refine List.Pairwise.imp_of_mem (R:=(·<·)) (fun ha hb hab=>?_) List.pairwise_lt_range
  exact h1 _ _ (zzD _) hab (List.mem_range.1 hb)
 ·have:=List.Perm.map (fun p:AE=>p.1) h2
  rw[zLd,zLd,List.map_map,List.map_map] at this
  refine this.trans ?_
  have he:(List.range (zFU l clock)).map ((fun p:AE=>p.1) ∘ zHN (fun j=>!zA6 (l.getD j default) clock) l.length (aed l ad))=l.filter fun x=>zA6 x clock:=by
   rw[← zKS l fun x=>zA6 x clock]
   have hk:kp (fun j=>!zA6 (l.getD j default) clock) l.length=(List.range l.length).filter fun i=>zA6 (l.getD i default) clock:=by
    unfold kp;simp
   unfold zFU
   rw[hk]
   apply List.ext_getElem
   ·simp
   ·intro i g1 g2
    simp only[List.length_map,List.length_range] at g1
    simp only[List.getElem_map,List.getElem_range,Function.comp,zHN,aed,hk]
    rw[List.getD_eq_getElem?_getD (l:=List.filter _ _),List.getElem?_eq_getElem g1]
    rfl
  rw[he]
theorem zST {a:Option Addr}{cap:Nat}(l:List Auc)(ad:Nat→Option Addr × Nat)(clock:Int){F:zH}(w0:World)(hF:Mem w0 F)(hs0:Aucs F a cap l ad)(hm:zAS l=false) :
  Calls Tryz.prog 157 [.slice a l.length cap,.int .i64 clock].toArray w0 (Ret (.slice none 0 0) w0):=by
 refine enter [.tmp 4] Tryz.func157 rfl Tryz.ntmps157 rfl rfl ?_
 have H:=zB w0
 repeat' (first|refine yT ?_|(refine y9 H ?_;intro b w H)|(refine' y30 zJh ?_ ?_;rotate_left;exact zF9 l ad _ (H.memF hF) hs0;intro w hcl;replace H:=H.ext hcl;clear hcl)|refine yU ?_|fail)
 refine zJ rfl (fun h=>?_) (fun h=>?_)
 ·repeat' (first|refine yT ?_|refine yU ?_|fail)
  exact zQ rfl H.cl rfl
 ·rw[hm] at h;cases h
theorem c_Row0 {a:Option Addr}{cap:Nat}(clock:Int){F:zH}(w0:World)(hF:Mem w0 F)(hs0:Aucs F a cap [] fun _=>(none,0)) :
  Calls Tryz.prog 157 [.slice a 0 cap,.int .i64 clock].toArray w0 (zn (fun M v=>∃ a' cap',v=.slice a' 0 cap'∧OwnI M a' cap' []) w0):=by
 have c_Index0:∀ {a:Option Addr} {cap:Nat} {b:Nat} {w:World},Calls Tryz.prog 81 [.slice a 0 cap,.func (.func 200) #[] #[.pointer (some ⟨b,0,none⟩)]].toArray w (Ret (.int .i64 (-1)) w):=by
  intro a cap b w
  refine enter [.tmp 4] Tryz.func81 rfl Tryz.ntmps81 rfl rfl ?_
  have H:=zB w
  repeat' (first|refine yT ?_|refine yU ?_|with_reducible apply zA|fail)
  refine zM [(4,5),(8,18)] (fun _:Unit=>[(8,.int .i64 0)]) (fun _ w'=>St w [] w') (fun _=>0) () ⟨rfl,trivial⟩ H ?_
  clear H
  rintro _ gh w H
  repeat' (first|refine yT ?_|refine yU ?_|fail)
  exact zQ rfl H.cl rfl
 have c_Del0:∀ {a:Option Addr} {cap:Nat} {b:Nat} {w:World},Calls Tryz.prog 199 [.slice a 0 cap,.func (.func 200) #[] #[.pointer (some ⟨b,0,none⟩)]].toArray w (Ret (.slice a 0 cap) w):=by
  intro a cap b w
  refine enter [.tmp 4] Tryz.func199 rfl Tryz.ntmps199 rfl rfl ?_
  have H:=zB w
  repeat' (first|refine yT ?_|(refine' y30 zKo ?_ ?_;rotate_left;exact c_Index0;intro w hcl;replace H:=H.ext hcl;clear hcl)|refine yU ?_|fail)
  exact zQ rfl H.cl rfl
 have c_ins0:∀ {a:Option Addr} {cap:Nat} {w:World},Calls Tryz.prog 228 [.slice a 0 cap,.int .i64 0,.int .i64 0,.func (.func 202) #[] #[]].toArray w (Ret (.tuple #[]) w):=by
  intro a cap w
  refine enter [] Tryz.func228 rfl Tryz.ntmps228 rfl rfl ?_
  have H:=zB w
  repeat' (first|refine yT ?_|refine yU ?_|with_reducible apply zA|fail)
  refine zM [(8,9),(12,52)] (fun _:Unit=>[(8,.int .i64 1)]) (fun _ w'=>St w [] w') (fun _=>0) () ⟨rfl,trivial⟩ H ?_
  clear H
  rintro _ gh w H
  repeat' (first|refine yT ?_|refine yU ?_|fail)
  exact zKg (vs:=[]) trivial H.cl rfl
 have c_sta0:∀ {a:Option Addr} {cap:Nat} {w1:World},Calls Tryz.prog 221 [.slice a 0 cap,.int .i64 0,.func (.func 202) #[] #[]].toArray w1 (Ret (.tuple #[]) w1):=by
  intro a cap w1
  refine enter [] Tryz.func221 rfl Tryz.ntmps221 rfl rfl ?_
  have H:=zB w1
  repeat' (first|refine yT ?_|refine yU ?_|with_reducible apply zA|fail)
  refine zM [(7,8),(11,22)] (fun _:Unit=>[(7,.int .i64 0),(8,.int .i64 20)]) (fun _ w'=>St w1 [] w') (fun _=>0) () ⟨rfl,rfl,trivial⟩ H ?_
  clear H
  rintro _ gh w H
  repeat' (first|refine yT ?_|(refine' y30 zJk ?_ ?_;rotate_left;exact c_ins0;intro w hcl;replace H:=H.ext hcl;clear hcl)|refine yU ?_|with_reducible apply zA|fail)
  refine zM [(6,9),(28,62)] (fun _:Unit=>[(6,.int .i64 20)]) (fun _ w'=>St w1 [] w') (fun _=>0) () ⟨rfl,trivial⟩ H ?_
  clear H
  rintro _ gh w H
  repeat' (first|refine yT ?_|refine yU ?_|fail)
  exact zKg (vs:=[]) trivial H.cl rfl
 have c_sort0:∀ {a:Option Addr} {cap:Nat} {w:World},Calls Tryz.prog 201 [.slice a 0 cap,.func (.func 202) #[] #[]].toArray w (Ret (.tuple #[]) w):=by
  intro a cap w
  refine enter [] Tryz.func201 rfl Tryz.ntmps201 rfl rfl ?_
  have H:=zB w
  repeat' (first|refine yT ?_|(refine' y30 zQo ?_ ?_;rotate_left;exact c_sta0;intro w hcl;replace H:=H.ext hcl;clear hcl)|refine yU ?_|fail)
  exact zKg (vs:=[]) trivial H.cl rfl
 refine enter [.tmp 4] Tryz.func157 rfl Tryz.ntmps157 rfl rfl ?_
 have H:=zB w0
 repeat' (first|refine yT ?_|(refine y9 H ?_;intro b w H)|(refine' y30 zJh ?_ ?_;rotate_left;exact zF9 [] (fun _=>(none,0)) _ (H.memF hF) hs0;intro w hcl;replace H:=H.ext hcl;clear hcl)|refine yU ?_|fail)
 repeat' (first|refine yT ?_|(refine' y32 zQP ?_ ?_;rotate_left;exact zFj (n:=0) _ (H.memF hF) hs0.1 (fun j hj=>absurd hj (zzE _)) (fun j hj=>absurd hj (zzE _)) (by omega);intro v M w hR hS;replace H:=H.addR hS;clear hS;(try simp only[List.cons_append,List.nil_append] at H);obtain⟨a',cap',rfl,hO⟩:=hR)|(refine' y30 zQh ?_ ?_;rotate_left;exact c_Del0;intro w hcl;replace H:=H.ext hcl;clear hcl)|(refine' y30 zQi ?_ ?_;rotate_left;exact c_sort0;intro w hcl;replace H:=H.ext hcl;clear hcl)|refine yU ?_|with_reducible apply zA|fail)
 refine zM [(6,6),(8,8),(20,29)] (fun _:Unit=>[(6,.slice none 0 0),(20,.int .i64 0)]) (fun _ w=>St w0 (cb b [Value.int .i64 clock] 2::M) w) (fun _=>0) () ⟨rfl,rfl,trivial⟩ H ?_
 clear H
 rintro _ gh w H
 repeat' (first|refine yT ?_|refine yU ?_|fail)
 exact zAY (vs:=[_]) (M:=[]) ⟨zh rfl,trivial⟩ (H.sub (zz9 _)) ⟨none,0,rfl,zTC _ _ _⟩
theorem zSU {a:Option Addr}{cap:Nat}(l:List Auc)(ad:Nat→Option Addr × Nat)(clock:Int){F:zH}(w0:World)(hF:Mem w0 F)(hs0:Aucs F a cap l ad) :
  Calls Tryz.prog 157 [.slice a l.length cap,.int .i64 clock].toArray w0 (zn (fun M v=>∃ r a' cap',IsRow l clock r∧v=.slice a' r.length cap'∧OwnI M a' cap' (r.map (·.id))) w0):=by
 cases hm:zAS l with
 | false=>exact(zST l ad clock w0 hF hs0 hm).mono fun e w' ⟨he,hc⟩=>⟨_,[],he,⟨[],none,0,.inr ⟨hm,rfl⟩,rfl,zTC _ _ _⟩,(zB w0).ext hc⟩
 | true =>
 obtain⟨h32,hall,hasc⟩:=zPm hm
 rcases Nat.eq_zero_or_pos l.length with h0|h0
 ·obtain rfl:l=[]:=List.eq_nil_of_length_eq_zero h0
  refine(c_Row0 clock w0 hF (show Aucs F a cap [] fun _=>(none,0) from⟨⟨hs0.1.1,hs0.1.2.1,0,0,[],0,(0,0),fun h=>absurd h (Nat.lt_irrefl 0)⟩,fun j hj=>absurd hj (zzE _)⟩)).mono fun e w' ⟨v,M,he,⟨a',cap',hv,hO⟩,hs⟩=>⟨v,M,he,⟨[],a',cap',.inl ⟨hm,List.Pairwise.nil,List.Perm.refl _⟩,hv,hO⟩,hs⟩
 refine enter [.tmp 4] Tryz.func157 rfl Tryz.ntmps157 rfl rfl ?_
 have H:=zB w0
 repeat' (first|refine yT ?_|(refine y9 H ?_;intro b w H)|(refine' y30 zJh ?_ ?_;rotate_left;exact zF9 l ad _ (H.memF hF) hs0;intro w hcl;replace H:=H.ext hcl;clear hcl)|refine yU ?_|fail)
 refine zJ rfl (fun h=>?_) (fun h=>?_)
 ·rw[hm] at h;cases h
 clear h
 repeat' (first|refine yT ?_|(refine' y32 zQP ?_ ?_;rotate_left;exact zFj _ (H.memF hF) hs0.1 (fun j _=>AE.c_one (aed l ad j)) (fun j _=>rfl) (by omega);intro v M w hR hS;replace H:=H.addR hS;clear hS;(try simp only[List.cons_append,List.nil_append] at H);obtain⟨a',cap',rfl,hO⟩:=hR)|refine yU ?_|fail)
 obtain⟨g,cs,rfl,rfl,hnc,he⟩:=hO.els h0 (fun j _=>rfl)
 clear hO
 replace H:=H.perm (List.Perm.swap _ _ _)
 have hkl:=zKA (fun j=>!zA6 (l.getD j default) clock) l.length
 have hA:Asc (zHN (fun j=>!zA6 (l.getD j default) clock) l.length (aed l ad)) 0 (kp (fun j=>!zA6 (l.getD j default) clock) l.length).length:=fun p q g1 g2 g3=>hasc _ _ (kp_asc g2 g3) (kp_mem g3).1
 repeat' (first|refine yT ?_|(refine' y33 zQh ?_ ?_;rotate_left 2;exact zK7 (n:=l.length) (d:=aed l ad) (caps:=[.pointer (some ⟨b,0,none⟩)]) (fun j=>!zA6 (l.getD j default) clock) H he (by omega) hnc ent200 (fun j hj L cs' w' H'=>c_Row1 (l.getD j default) clock w' (H'.all hF) ((hs0.2 j hj).mono (zz8 _ _)) (zz6 _ (zz3 _ (zz5 _ (zz2 _)))));rintro _ _ w ⟨rfl,cs2,rfl,hl2,he2⟩ H2;clear H;have H:=H2;clear H2)|(refine' y33 zQi ?_ ?_;rotate_left 2;exact zIr ⟨H,rfl,he2⟩ (by omega) hA;rintro _ _ w ⟨rfl,D,cs3,rfl,hl3,he3,hD1,hD2,hD3⟩ H2;clear H;have H:=H2;clear H2)|refine yU ?_|with_reducible apply zA|fail)
 change Els cs3 9 (zFU l clock) (fun t=>(D t).c) at he3
 change (zFU l clock)≤l.length at hkl
 change Seg D 0 (zFU l clock) at hD1
 have hrow:=row_is (ad:=ad) hm hD1 hD3
 refine zM [(6,6),(8,8),(20,29)] (fun x:Nat × Option Addr × Nat × zH=>[(6,.slice x.2.1 x.1 x.2.2.1),(20,.int .i64 (x.1:Int))])
  (fun x w=>x.1≤zFU l clock∧Go.Sk.Own x.2.2.2 2 1 x.2.1 x.1 x.2.2.1 ((List.range x.1).map fun t=>Value.int .i64 (D t).1.id)∧St w0 (x.2.2.2++[cb g cs3 62,cb b [Value.int .i64 clock] 2]) w)
  (fun x=>zFU l clock - x.1) (0,none,0,[]) ⟨rfl,rfl,trivial⟩ ⟨zzD _,zTC _ _ _,H⟩ ?_
 clear H he2
 rintro⟨k,a1,cap1,M1⟩ gh w ⟨hk,hO,H⟩
 simp only at hk hO H ⊢
 repeat' (first|refine yT ?_|refine yU ?_|fail)
 refine zJ rfl (fun h=>?_) (fun h=>?_)
 ·have hlt:k<zFU l clock:=by have:=zzA h;unfold zFU;omega
  have hs:=he3.slb (F:=M1++[cb g cs3 62,cb b [Value.int .i64 clock] 2]) (T:=62) (g:=g) (zz3 _ (zz2 _))
  repeat' (first|refine yT ?_|refine y7 sg H ?_|(refine y10 sg H ?_;intro b w H)|(refine y11 sg H ?_;intro w H)|(refine y40 sg (hs) ?_ ?_ ?_;(omega);(omega))|(refine y42 sg (hs) (H.mem) ?_ ?_;(omega))|(refine z14 sg H ?_;intro b w H)|(refine zo sg 1 8 (M:=M1) (G:=[_,_,_,_]) (H.perm (List.perm_append_comm_assoc [_,_] M1 [_,_])) rfl rfl rfl rfl rfl rfl rfl rfl rfl rfl rfl hO (zAM H.mem (zz2 _)) rfl (by intro u hu;simp only[List.mem_cons,List.not_mem_nil,or_false] at hu;subst hu;rfl) (by unfold maxLen;omega) (by omega) ?_;intro a2 cap2 M2 w hO2 H2)|refine yU ?_|with_reducible apply zA|fail)
  refine zK (k+1,a2,cap2,M2) rfl ⟨rfl,zZ (by omega),trivial⟩ ⟨hlt,?_,H2.sub (List.Sublist.append (List.Sublist.refl _) (List.Sublist.cons _ (List.Sublist.cons _ (List.Sublist.refl _))))⟩ (by show zFU l clock - (k+1)<zFU l clock - k;omega)
  show Go.Sk.Own M2 _ 1 a2 (k+1) cap2 ((List.range (k+1)).map fun t=>Value.int .i64 (D t).1.id)
  rw[List.range_succ,List.map_append]
  exact hO2
 ·have hkn:k=zFU l clock:=by have:=zzB h;unfold zFU at *;omega
  subst hkn
  repeat' (first|refine yT ?_|refine yU ?_|fail)
  refine zAY (vs:=[_]) (M:=M1) ⟨zh rfl,trivial⟩ (H.sub (List.sublist_append_left _ _)) ⟨_,a1,cap1,hrow,by rw[List.length_map,List.length_range];rfl,?_⟩
  unfold OwnI
  rw[List.length_map,List.length_map,List.length_range,List.map_map,List.map_map]
  exact hO
end Go.Proofs.YtibmaifoaajllaaGreatDoor
