/- Texts of ours, joined: the steps of the proof, or the claim's theorem. -/
import Derived.Test.YthbflajpdhgfiaaGreatDoorQd13
set_option linter.all false
set_option maxHeartbeats 16000000
namespace Go.Proofs.YthbflajpdhgfiaaGreatDoor
section
open Go Go.Sk Go.RowKit
attribute [local irreducible] Go.Calls
def mkc (s:Sta)(p:SPt)(n:List Int)(na:Option Addr)(nc:Nat)(t:ByteArray):List Value:=s.cells p++[.slice na n.length nc,.string t]
structure Mkt (F:zC)(bm:Nat)(s:Sta)(p:SPt)(n:List Int)(na:Option Addr)(nc:Nat)(t:ByteArray):Prop where
 blk:cb bm (mkc s p n na nc t) 141∈F
 sta:StaM F s p
 num:Ints F na nc n
abbrev mkL (bm:Nat)(cs:List Value)(Ma Mi Mu R:zC):zC:=cb bm cs 141::(Ma++(Mi++(Mu++R)))
theorem zh {s:Sta}{p:SPt}{Ma Mi Mu R L F:zC}{bm:Nat}{n:List Int}{na:Option Addr}{nc:Nat}{t:ByteArray}(hC:Cps s p Ma Mi Mu R)(hL:LtS s)(hN:Ints F na nc n)(hm:cb bm (mkc s p n na nc t) 141∈L:=by repeat (first|exact zz2 _|refine zz5 _ ?_))(hs:(Ma++(Mi++(Mu++R)))⊆L:=by intro p hp;repeat (first|exact hp|apply zz4)):Mkt (L++F) bm s p n na nc t :=
 ⟨zz6 _ hm,(hC.sta hL).mono fun x hx=>zz6 _ (hs hx),SlA.mono hN (zz8 _ _)⟩
theorem zCI (ts:zC){x:Nat × Obj}{A B C D:zC}:(ts++(x::(A++(B++(C++D))))).Perm (x::(A++(B++(C++(D++ts))))):=by
 refine List.perm_append_comm.trans (List.Perm.of_eq ?_)
 simp
section
variable {G:zC}{bm:Nat}{s:Sta}{p:SPt}{n:List Int}{na:Option Addr}{nc:Nat}{t:ByteArray}
theorem zAw (i:Nat)(hi:i<n.length)(w0:World)(hG:Mem w0 G)(hM:Mkt G bm s p n na nc t) :
  Calls Tryz.prog 158 [.pointer (some ⟨bm,0,none⟩),.int .i64 (i:Int)].toArray w0 (Ret (.int .i64 (nF n i)) w0):=by
 obtain⟨hn2,hc2,b2,off2,cs2,T2,fr2,hs2⟩:=hM.num
 refine enter [.tmp 4] Tryz.func158 rfl Tryz.ntmps158 rfl rfl ?_
 have H:=zA w0
 repeat' (first|refine yT ?_|refine z13 (zH sg rfl rfl (H.memF hG) hM.blk rfl rfl) ?_|refine x40 sg hs2 ?_|refine z13 (Yq.loadB1 sg hs2 (H.memF hG) rfl rfl rfl rfl hi rfl) ?_|refine yU ?_|fail)
 exact zP rfl H.cl rfl
theorem zOQ {a:Option Addr}{cap:Nat}(l:List Nat)(hl:l.length≤1000)(hi:∀ k,k<l.length→l.getD k 0<n.length){F:zC}(w0:World)(hF:Mem w0 F)(hs0:SlA F 1 a l.length cap fun k=>[Value.int .i64 ((l.getD k 0:Nat):Int)])(hG:Mem w0 G)(hM:Mkt G bm s p n na nc t) :
  Calls Tryz.prog 160 [.pointer (some ⟨bm,0,none⟩),.slice a l.length cap].toArray w0 (Ret (.int .i64 (if (l.all fun i=>zAG s (nF n i))=true then 0 else 5)) w0):=by
 obtain⟨hn,hc,b0,off,cs,T,fr,hs⟩:=hs0
 refine enter [.tmp 4] Tryz.func160 rfl Tryz.ntmps160 rfl rfl ?_
 have H:=zA w0
 repeat' (first|refine yT ?_|refine yU ?_|with_reducible apply zB|fail)
 refine zI [(4,4),(6,8),(11,28)] (fun k:Nat=>[(11,.int .i64 (k:Int))]) (fun k w=>k≤l.length∧(∀ j,j<k→zAG s (nF n (l.getD j 0))=true)∧St w0 [] w) (fun k=>l.length - k) 0 ⟨rfl,trivial⟩ ⟨zzD _,fun j hj=>absurd hj (zzE _),H⟩ ?_
 clear H
 rintro k gh w ⟨hk,hok,H⟩
 repeat' (first|refine yT ?_|refine yU ?_|fail)
 refine zD rfl (fun h=>?_) (fun h=>?_)
 ·have hlt:k<l.length:=by have:=zzA h;omega
  clear h
  have hik:=hi k hlt
  cases ho:zAG s (nF n (l.getD k 0)) with
  | true =>
    have ho2:(zBE s.accts (nF n (l.getD k 0))).2=true:=ho
    repeat' (first|refine yT ?_|(refine y10 sg H ?_;intro b w H)|(refine y11 sg H ?_;intro w H)|refine x40 sg hs ?_|refine z13 (Yq.loadB1 sg hs (H.memF hF) rfl rfl rfl rfl hlt rfl) ?_|(refine CW.regionL mixed 14 (H.memF hG) [] ?_ ?_;exact rfl;refine w2 H ?_;clear H;intro w H)|((with_reducible apply RL.nil);decide +kernel)|refine lT sg 0 (H.memF hG) ?_|refine lT sg 1 (H.memF hG) ?_|refine lT sg 2 (H.memF hG) ?_|(refine' l1 3 (H.memF hG) ?_ ?_;rotate_left;exact fun _ hM2=>zH sg rfl rfl hM2 hM.blk rfl rfl)|refine lT sg 4 (H.memF hG) ?_|refine lT sg 5 (H.memF hG) ?_|refine lT sg 8 (H.memF hG) ?_|refine lT sg 9 (H.memF hG) ?_|refine lT sg 10 (H.memF hG) ?_|refine l2 6 ?_|refine l2 7 ?_|refine l2 11 ?_|refine l2 12 ?_|refine l2 13 ?_|refine l4 6 11 ?_ ?_|refine l4 7 11 ?_ ?_|(refine l5 (H.memF hG) ?_)|(refine' y30 zAt ?_ ?_;rotate_left;exact zAw _ hik _ (H.memF hG) hM;refine w2 H ?_;clear H;intro w H)|(refine' y30 zML ?_ ?_;rotate_left;exact zMX s p _ _ (H.memF hG) hM.sta;refine w2 H ?_;clear H;intro w H)|refine yU ?_|with_reducible apply zB|(refine y23 ?_ ?_;all_goals(intro h;try (exfalso;first|((rw[ho2] at h;cases h);done))))|fail)
    all_goals refine zF (k+1) rfl ⟨zf qO,trivial⟩ ⟨hlt,fun j hj=>?_,H.sub (zz9 _)⟩ (by show l.length - (k+1)<l.length - k;omega)
    all_goals
     rcases(show j<k∨j=k by have:j<k+1:=hj;omega) with g|rfl
     ·exact hok j g
     ·exact ho
  | false =>
    have ho2:(zBE s.accts (nF n (l.getD k 0))).2=false:=ho
    repeat' (first|refine yT ?_|(refine y10 sg H ?_;intro b w H)|(refine y11 sg H ?_;intro w H)|refine x40 sg hs ?_|refine z13 (Yq.loadB1 sg hs (H.memF hF) rfl rfl rfl rfl hlt rfl) ?_|(refine CW.regionL mixed 14 (H.memF hG) [] ?_ ?_;exact rfl;refine w2 H ?_;clear H;intro w H)|((with_reducible apply RL.nil);decide +kernel)|refine lT sg 0 (H.memF hG) ?_|refine lT sg 1 (H.memF hG) ?_|refine lT sg 2 (H.memF hG) ?_|(refine' l1 3 (H.memF hG) ?_ ?_;rotate_left;exact fun _ hM2=>zH sg rfl rfl hM2 hM.blk rfl rfl)|refine lT sg 4 (H.memF hG) ?_|refine lT sg 5 (H.memF hG) ?_|refine lT sg 8 (H.memF hG) ?_|refine lT sg 9 (H.memF hG) ?_|refine lT sg 10 (H.memF hG) ?_|refine l2 6 ?_|refine l2 7 ?_|refine l2 11 ?_|refine l2 12 ?_|refine l2 13 ?_|refine l4 6 11 ?_ ?_|refine l4 7 11 ?_ ?_|(refine l5 (H.memF hG) ?_)|(refine' y30 zAt ?_ ?_;rotate_left;exact zAw _ hik _ (H.memF hG) hM;refine w2 H ?_;clear H;intro w H)|(refine' y30 zML ?_ ?_;rotate_left;exact zMX s p _ _ (H.memF hG) hM.sta;refine w2 H ?_;clear H;intro w H)|refine yU ?_|with_reducible apply zB|(refine y23 ?_ ?_;all_goals(intro h;try (exfalso;first|((rw[ho2] at h;cases h);done))))|fail)
    all_goals
     refine zP rfl H.cl (congrArg (Value.int .i64) ?_)
     rw[if_neg]
     intro h
     have:=List.all_eq_true.1 h _ (zz 0 hlt)
     rw[ho] at this;cases this
 ·obtain rfl:k=l.length:=by have:=zzB h;omega
  clear h
  repeat' (first|refine yT ?_|refine yU ?_|fail)
  refine zP rfl H.cl (congrArg (Value.int .i64) ?_)
  rw[if_pos]
  rw[List.all_eq_true]
  intro x hx
  obtain⟨j,hj,rfl⟩:=zBP (d:=0) hx
  exact hok j hj
def zCJ (s:Sta)(p:SPt)(x:Int):Option Addr:=if zBD s x=true then p.inA.map (fun a=>a.add ((x - 1).toNat*3)) else none
theorem zKO (i:Nat)(hi:i<n.length)(h1:1≤nF n i∧nF n i≤1000)(w0:World)(hG:Mem w0 G)(hM:Mkt G bm s p n na nc t) :
  Calls Tryz.prog 179 [.pointer (some ⟨bm,0,none⟩),.int .i64 (i:Int)].toArray w0 (Ret (.pointer (zCJ s p (nF n i))) w0):=by
 obtain⟨hn2,hc2,b2,off2,cs2,T2,fr2,hs2⟩:=hM.num
 obtain⟨hn3,hc3,b3,off3,cs3,T3,fr3,hs3⟩:=hM.sta.ins
 cases hh:zBD s (nF n i) with
 | false =>
   have hgt:decide (nF n i>(s.insts.length:Int))=true:=decide_eq_true (by
    by_cases g:nF n i≤s.insts.length
    ·rw[zAe.2 ⟨h1.1,g⟩] at hh;cases hh
    ·omega)
   refine enter [.tmp 4] Tryz.func179 rfl Tryz.ntmps179 rfl rfl ?_
   have H:=zA w0
   repeat' (first|refine yT ?_|((with_reducible apply zT);exact rfl;exact rfl;exact zH sg rfl rfl (H.memF hG) hM.blk rfl rfl)|refine x41 sg hs2 ?_|((with_reducible apply zT);exact rfl;exact rfl;exact Yq.loadB1 sg hs2 (H.memF hG) rfl rfl rfl rfl hi rfl)|refine yU ?_|(with_reducible apply zO;refine w2 H ?_;clear H;intro w H)|refine y20 mixed ?_|(refine y23 ?_ ?_;all_goals(intro h;try (exfalso;first|((rw[hgt] at h;cases h);done))))|fail)
   exact zP rfl H.cl (by unfold zCJ;rw[hh];rfl)
 | true =>
   have hle:=(zAe.1 hh).2
   have hgt:decide (nF n i>(s.insts.length:Int))=false:=decide_eq_false qO
   have hq:IntKind.i64.wrap (nF n i - 1)=(((nF n i - 1).toNat:Nat):Int):=by rw[w64 qO qO];omega
   refine enter [.tmp 4] Tryz.func179 rfl Tryz.ntmps179 rfl rfl ?_
   have H:=zA w0
   repeat' (first|refine yT ?_|((with_reducible apply zT);exact rfl;exact rfl;exact zH sg rfl rfl (H.memF hG) hM.blk rfl rfl)|refine x41 sg hs2 ?_|((with_reducible apply zT);exact rfl;exact rfl;exact Yq.loadB1 sg hs2 (H.memF hG) rfl rfl rfl rfl hi rfl)|((with_reducible apply zT);exact rfl;exact rfl;exact zG sg hs3 rfl rfl rfl rfl rfl rfl rfl ((congrArg Int.toNat hq).trans (zz1 _)) (by rw[hq];omega) (by rw[hq];omega))|refine yU ?_|(with_reducible apply zO;refine w2 H ?_;clear H;intro w H)|refine y20 mixed ?_|(refine y23 ?_ ?_;all_goals(intro h;try (exfalso;first|((rw[hgt] at h;cases h);done))))|fail)
   refine zP rfl H.cl ?_
   unfold zCJ
   rw[if_pos hh,(hs3 qO).1,Option.map_some,zAC]
theorem pl_one {F:zC}{b:Nat}{T:TypeId}(i:Nat)(h:cb b [Value.int .i64 (i:Int)] T∈F):SlA F 1 (some ⟨b,0,none⟩) [i].length 1 fun k=>[Value.int .i64 ((([i]:List Nat).getD k 0:Nat):Int)] :=
 ⟨Nat.le_refl 1,(show 1≤140737488355328 by decide),b,0,_,T,(0,0),fun _=>⟨rfl,h,fun j hj=>by
  have:j=0:=by have:j<1:=hj;omega
  subst this
  exact⟨Nat.le_refl 1,rfl⟩⟩⟩
theorem pl_two {F:zC}{b:Nat}{T:TypeId}(i k:Nat)(h:cb b [Value.int .i64 (i:Int),Value.int .i64 (k:Int)] T∈F):SlA F 1 (some ⟨b,0,none⟩) [i,k].length 2 fun j=>[Value.int .i64 ((([i,k]:List Nat).getD j 0:Nat):Int)] :=
 ⟨Nat.le_refl 2,(show 2≤140737488355328 by decide),b,0,_,T,(0,0),fun _=>⟨rfl,h,fun j hj=>by
  rcases(show j=0∨j=1 by have:j<2:=hj;omega) with rfl|rfl
  ·exact⟨(show 1≤2 by decide),rfl⟩
  ·exact⟨(show 2≤2 by decide),rfl⟩⟩⟩
theorem zCZ {F:zC}{b:Nat}{T:TypeId}(i:Nat)(hi:i<n.length)(w0:World)(hF:Mem w0 F)(hm:cb b [Value.int .i64 (i:Int)] T∈F)(hG:Mem w0 G)(hM:Mkt G bm s p n na nc t) :
  Calls Tryz.prog 160 [.pointer (some ⟨bm,0,none⟩),.slice (some ⟨b,0,none⟩) 1 1].toArray w0 (Ret (.int .i64 (if zAG s (nF n i)=true then 0 else 5)) w0):=by
 have h:=zOQ [i] (show 1≤1000 by decide) (fun k hk=>by
  obtain rfl:k=0:=(by have:k<1:=hk;omega)
  exact hi) w0 hF (pl_one i hm) hG hM
 simp only[List.all_cons,List.all_nil,Bool.and_true] at h
 exact h
theorem zSW {F:zC}{b:Nat}{T:TypeId}(i k:Nat)(hi:i<n.length)(hk:k<n.length)(w0:World)(hF:Mem w0 F)(hm:cb b [Value.int .i64 (i:Int),Value.int .i64 (k:Int)] T∈F)(hG:Mem w0 G)(hM:Mkt G bm s p n na nc t) :
  Calls Tryz.prog 160 [.pointer (some ⟨bm,0,none⟩),.slice (some ⟨b,0,none⟩) 2 2].toArray w0 (Ret (.int .i64 (if zAG s (nF n i)=true∧zAG s (nF n k)=true then 0 else 5)) w0):=by
 have h:=zOQ [i,k] (show 2≤1000 by decide) (fun j hj=>by
  rcases(show j=0∨j=1 by have:j<2:=hj;omega) with rfl|rfl
  ·exact hi
  ·exact hk) w0 hF (pl_two i k hm) hG hM
 simp only[List.all_cons,List.all_nil,Bool.and_true,Bool.and_eq_true] at h
 exact h
theorem zGL (h2:1<n.length)(h1:1≤nF n 1∧nF n 1≤1000)(w0:World)(hG:Mem w0 G)(hM:Mkt G bm s p n na nc t) :
  Calls Tryz.prog 166 [.pointer (some ⟨bm,0,none⟩)].toArray w0 (Ret (.int .i64 (if zAG s (nF n 0)=true∧zBD s (nF n 1)=true then 0 else 5)) w0):=by
 have hi:0<n.length:=by omega
 cases ho:zAG s (nF n 0) with
 | false =>
   have ha:=fun w (b:Nat) (F:zC) (hF:Mem w F) (hm:cb b [Value.int .i64 (0:Int)] 3∈F) (hG:Mem w G)=>zCZ (T:=3) 0 hi w hF hm hG hM
   rw[ho] at ha
   refine enter [.tmp 2] Tryz.func166 rfl Tryz.ntmps166 rfl rfl ?_
   have H:=zA w0
   repeat' (first|refine yT ?_|(refine z14 sg H ?_;intro b w H)|(refine' y30 zAu ?_ ?_;rotate_left;exact ha _ _ _ (H.mem) (zz2 _) (H.memF hG);refine w2 H ?_;clear H;intro w H)|refine yU ?_|fail)
   exact zP rfl H.cl (by simp)
 | true =>
   have ha:=fun w (b:Nat) (F:zC) (hF:Mem w F) (hm:cb b [Value.int .i64 (0:Int)] 3∈F) (hG:Mem w G)=>zCZ (T:=3) 0 hi w hF hm hG hM
   rw[ho] at ha
   have hb:=fun w (hG:Mem w G)=>zKO 1 h2 h1 w hG hM
   cases hh:zBD s (nF n 1) with
   | false =>
     have e:zCJ s p (nF n 1)=none:=by unfold zCJ;rw[hh];rfl
     rw[e] at hb
     refine enter [.tmp 2] Tryz.func166 rfl Tryz.ntmps166 rfl rfl ?_
     have H:=zA w0
     repeat' (first|refine yT ?_|(refine z14 sg H ?_;intro b w H)|(refine' y30 zAu ?_ ?_;rotate_left;exact ha _ _ _ (H.mem) (zz2 _) (H.memF hG);refine w2 H ?_;clear H;intro w H)|(refine' y30 zCp ?_ ?_;rotate_left;exact hb _ (H.memF hG);refine w2 H ?_;clear H;intro w H)|refine yU ?_|fail)
     exact zP rfl H.cl (by simp)
   | true =>
     obtain⟨hn3,hc3,b3,off3,cs3,T3,fr3,hs3⟩:=hM.sta.ins
     have hle:=zAe.1 hh
     have e:zCJ s p (nF n 1)=some ⟨b3,off3+(nF n 1 - 1).toNat*3,none⟩:=by unfold zCJ;rw[if_pos hh,(hs3 qO).1,Option.map_some,zAC]
     rw[e] at hb
     refine enter [.tmp 2] Tryz.func166 rfl Tryz.ntmps166 rfl rfl ?_
     have H:=zA w0
     repeat' (first|refine yT ?_|(refine z14 sg H ?_;intro b w H)|(refine' y30 zAu ?_ ?_;rotate_left;exact ha _ _ _ (H.mem) (zz2 _) (H.memF hG);refine w2 H ?_;clear H;intro w H)|(refine' y30 zCp ?_ ?_;rotate_left;exact hb _ (H.memF hG);refine w2 H ?_;clear H;intro w H)|refine yU ?_|fail)
     exact zP rfl H.cl (by simp)
end
end
section
open Go Go.Sk Go.RowKit
attribute [local irreducible] Go.Calls
theorem Cps.mono {s:Sta}{p:SPt}{Ma Mi Mu R R':zC}(h:Cps s p Ma Mi Mu R)(hs:R⊆R'):Cps s p Ma Mi Mu R' :=
 ⟨h.ac,h.ins,SlA.mono h.rw hs,SlA.mono h.od hs,h.au,fun j hj=>SlA.mono (h.bd j hj) hs⟩
def MkP (bm:Nat)(n:List Int)(na:Option Addr)(nc:Nat)(t:ByteArray)(Ma Mi Mu R:zC)(r:Sta × Int)(M:zC)(v:Value):Prop :=
 v=.int .i64 r.2∧∃ p' M',M=mkL bm (mkc r.1 p' n na nc t) Ma Mi Mu (R++M')∧Cps r.1 p' Ma Mi Mu (R++M')
def zBw (bm:Nat)(n:List Int)(na:Option Addr)(nc:Nat)(t:ByteArray)(r:Sta × Int)(M:zC)(v:Value):Prop :=
 v=.int .i64 r.2∧(r.2=0→∃ p' Ma Mi Mu R,M=mkL bm (mkc r.1 p' n na nc t) Ma Mi Mu R∧Cps r.1 p' Ma Mi Mu R)
def WfR (s:Sta):Prop:=∀ j,j<s.rows.length→(rw_ s.rows j).wf
theorem zIO {F:zC}{b:Nat}{T:TypeId}(ps:List Pst)(hl:ps.length≤1000){cs:List Value}(hcs:cs=ps.flatMap Pst.cells)(h:cb b cs T∈F):SlA F 4 (some ⟨b,0,none⟩) ps.length ps.length (qsl ps):=by
 subst hcs
 have e:ps.flatMap Pst.cells=(List.range ps.length).flatMap (qsl ps):=(zA4 Pst.cells ps default).symm
 rw[e] at h
 refine⟨zzC _,by omega,b,0,_,T,(0,0),fun _=>⟨rfl,h,fun j hj=>?_⟩⟩
 have hfl:=Go.Sk.flat_len (el:=qsl ps) (size:=4) ps.length fun j _=>rfl
 have:(j+1)*4≤ps.length*4:=Nat.mul_le_mul_right _ hj
 refine⟨by rw[hfl];omega,?_⟩
 rw[Nat.zero_add]
 exact Go.Sk.flat_at (el:=qsl ps) (size:=4) ps.length (fun j _=>rfl) j hj
section
variable {F:zC}{bm:Nat}{s:Sta}{p:SPt}{n:List Int}{na:Option Addr}{nc:Nat}{t:ByteArray}{Ma Mi Mu R:zC}
theorem zIP {cs:List Value}{ts:zC}{x:Nat × Obj}(h:x∈ts):x∈mkL bm cs Ma Mi Mu (R++ts):=by
 simp[h]
theorem MkP.mkt {r:Sta × Int}{M:zC}{v:Value}(h:MkP bm n na nc t Ma Mi Mu R r M v):zBw bm n na nc t r M v :=
 let ⟨h1,p',M',h2,h3⟩:=h;⟨h1,fun _=>⟨p',Ma,Mi,Mu,_,h2,h3⟩⟩
theorem MkP.up {ts:zC}{r:Sta × Int}{M:zC}{v:Value}(h:MkP bm n na nc t Ma Mi Mu (R++ts) r M v):MkP bm n na nc t Ma Mi Mu R r M v :=
 let ⟨h1,p',M',h2,h3⟩:=h;⟨h1,p',ts++M',by rw[h2,List.append_assoc],by rw[← List.append_assoc];exact h3⟩
theorem zFm {w0 w:World}{ap:Option Addr}{cp:Nat}(hLt:LtS s)(hW:WfR s)(ps:List Pst){G:zC}(H:St w0 (mkL bm (mkc s p n na nc t) Ma Mi Mu R) w)(hC:Cps s p Ma Mi Mu R)(hG:Mem w G)(hp:SlA G 4 ap ps.length cp (qsl ps)) :
  Calls Tryz.prog 173 [.pointer (some ⟨bm,0,none⟩),.slice ap ps.length cp].toArray w (zi (MkP bm n na nc t Ma Mi Mu R (zm s ps)) w0):=by
 have hpost:=fun w (hM:Mem w (mkL bm (mkc s p n na nc t) Ma Mi Mu R)) (hG:Mem w G)=>c_Post s.rows hLt.rw hW ps (F:=mkL bm (mkc s p n na nc t) Ma Mi Mu R++G) w (hM.app hG) (SlA.mono hC.rw qS) (SlA.mono hp (zz8 _ _))
 refine enter [.tmp 4] Tryz.func173 rfl Tryz.ntmps173 rfl rfl ?_
 by_cases h0:(zBF s.rows ps).2=0
 ·have d0:((zBF s.rows ps).2==0)=true:=by rw[h0];rfl
  have e:zm s ps=({ s with rows:=(zBF s.rows ps).1 },0):=by unfold zm;rw[if_pos h0]
  repeat' (first|refine yT ?_|refine y7 sg H ?_|(refine y11 sg H ?_;intro w H)|(refine' y32 zQt ?_ ?_;rotate_left;exact hpost _ H.mem hG;intro v M w hR hS;replace H:=H.addR hS;clear hS;(try simp only[List.cons_append,List.nil_append] at H);obtain⟨a1,c1,rfl,hsl⟩:=hR)|refine yU ?_|(refine y23 ?_ ?_;all_goals(intro h;try (exfalso;first|((rw[d0] at h;cases h);done))))|fail)
  simp only[List.append_assoc] at H
  refine zS (M:=mkL bm (mkc { s with rows:=(zBF s.rows ps).1 } { p with rwA:=a1,rwC:=c1 } n na nc t) Ma Mi Mu (R++M)) rfl H ⟨by rw[e,h0],{ p with rwA:=a1,rwC:=c1 },M,by rw[e],?_⟩
  rw[e]
  exact⟨hC.ac,hC.ins,SlA.mono hsl (zz8 _ _),SlA.mono hC.od (List.subset_append_left _ _),hC.au,fun j hj=>SlA.mono (hC.bd j hj) (List.subset_append_left _ _)⟩
 ·have d0:((zBF s.rows ps).2==0)=false:=beq_eq_false_iff_ne.2 h0
  have e:zm s ps=(s,(zBF s.rows ps).2):=by unfold zm;rw[if_neg h0]
  repeat' (first|refine yT ?_|refine y7 sg H ?_|(refine' y32 zQt ?_ ?_;rotate_left;exact hpost _ H.mem hG;intro v M w hR hS;replace H:=H.addR hS;clear hS;(try simp only[List.cons_append,List.nil_append] at H);obtain⟨a1,c1,rfl,hsl⟩:=hR)|refine yU ?_|(refine y23 ?_ ?_;all_goals(intro h;try (exfalso;first|((rw[d0] at h;cases h);done))))|fail)
  simp only[List.append_assoc] at H
  refine zS (M:=mkL bm (mkc s p n na nc t) Ma Mi Mu (R++M)) rfl H ⟨by rw[e],p,M,by rw[e],?_⟩
  rw[e]
  exact hC.mono (List.subset_append_left _ _)
theorem zIQ {w0 w:World}(hLt:LtS s)(hW:WfR s)(a1 a2 q z:Int)(hz:-4611686018427387904≤z∧z≤4611686018427387904)(H:St w0 (mkL bm (mkc s p n na nc t) Ma Mi Mu R) w)(hC:Cps s p Ma Mi Mu R) :
  Calls Tryz.prog 165 [.pointer (some ⟨bm,0,none⟩),.int .i64 a1,.int .i64 a2,.int .i64 q,.int .i64 z].toArray w (zi (MkP bm n na nc t Ma Mi Mu R (zDJ s a1 a2 q z)) w0):=by
 have hneg:IntKind.i64.wrap (0 - z)=-z:=by rw[w64 qO qO];omega
 have e:zDJ s a1 a2 q z=zm s [⟨a1,q,IntKind.i64.wrap (0 - z),0⟩,⟨a2,q,z,0⟩]:=by unfold zDJ;rw[hneg]
 rw[e]
 refine enter [.tmp 10] Tryz.func165 rfl Tryz.ntmps165 rfl rfl ?_
 repeat' (first|refine yT ?_|((with_reducible apply OX.buildA sg H);(iterate 12 exact rfl);intro b w H _)|(replace H:=H.perm (zCI [_]);refine za rfl rfl (En.fn zFa rfl rfl) (zFm hLt hW [⟨a1,q,IntKind.i64.wrap (0 - z),0⟩,⟨a2,q,z,0⟩] H (hC.mono (List.subset_append_left _ _)) H.mem (zIO _ (Nat.le_of_ble_eq_true rfl) rfl (zIP (zz2 _)))) ?_;rintro _ _ w ⟨rfl,hR2⟩ H2;clear H;have H:=H2;clear H2)|refine yU ?_|fail)
 exact zS (M:=_) rfl H (MkP.up ⟨rfl,hR2⟩)
theorem c_holds {w0 w:World}(hLt:LtS s)(hW:WfR s)(a1 q z:Int)(hz:-4611686018427387904≤z∧z≤4611686018427387904)(H:St w0 (mkL bm (mkc s p n na nc t) Ma Mi Mu R) w)(hC:Cps s p Ma Mi Mu R) :
  Calls Tryz.prog 169 [.pointer (some ⟨bm,0,none⟩),.int .i64 a1,.int .i64 q,.int .i64 z].toArray w (zi (MkP bm n na nc t Ma Mi Mu R (zAb s a1 q z)) w0):=by
 have hneg:IntKind.i64.wrap (0 - z)=-z:=by rw[w64 qO qO];omega
 have e:zAb s a1 q z=zm s [⟨a1,q,IntKind.i64.wrap (0 - z),z⟩]:=by unfold zAb;rw[hneg]
 rw[e]
 refine enter [.tmp 8] Tryz.func169 rfl Tryz.ntmps169 rfl rfl ?_
 repeat' (first|refine yT ?_|((with_reducible apply OX.buildA sg H);(iterate 12 exact rfl);intro b w H _)|(replace H:=H.perm (zCI [_]);refine za rfl rfl (En.fn zFa rfl rfl) (zFm hLt hW [⟨a1,q,IntKind.i64.wrap (0 - z),z⟩] H (hC.mono (List.subset_append_left _ _)) H.mem (zIO _ (Nat.le_of_ble_eq_true rfl) rfl (zIP (zz2 _)))) ?_;rintro _ _ w ⟨rfl,hR2⟩ H2;clear H;have H:=H2;clear H2)|refine yU ?_|fail)
 exact zS (M:=_) rfl H (MkP.up ⟨rfl,hR2⟩)
theorem zLi {w0 w:World}(hLt:LtS s)(hW:WfR s)(hl:2≤n.length)(hz:0≤nF n 1∧nF n 1≤1125899906842624)(H:St w0 (mkL bm (mkc s p n na nc t) Ma Mi Mu R) w)(hC:Cps s p Ma Mi Mu R)(hF:Mem w0 F)(hN:Ints F na nc n) :
  Calls Tryz.prog 118 [.pointer (some ⟨bm,0,none⟩)].toArray w (zi (zBw bm n na nc t (if zAG s (nF n 0) then zDJ s (0) (nF n 0) 0 (nF n 1) else(s,5))) w0):=by
 obtain⟨hn2,hc2,b2,off2,cs2,T2,fr2,hs2⟩:=id hN
 have ha:=fun w (b:Nat) (X:zC) (hX:Mem w X) (hm:cb b [Value.int .i64 (0:Int)] 3∈X) (G:zC) (hG:Mem w G) (hM:Mkt G bm s p n na nc t)=>zCZ (T:=3) 0 qO w hX hm hG hM
 cases ho:zAG s (nF n 0) with
 | false =>
   rw[ho] at ha
   refine enter [.tmp 2] Tryz.func118 rfl Tryz.ntmps118 rfl rfl ?_
   repeat' (first|refine yT ?_|(refine z14 sg H ?_;intro b w H)|(refine' y30 zAu ?_ ?_;rotate_left;exact ha _ _ _ H.mem (zz2 _) _ (H.all hF) (zh hC hLt hN);refine w2 H ?_;clear H;intro w H)|refine yU ?_|fail)
   exact zS (M:=_) rfl H ⟨rfl,fun h=>absurd h (show(5:Int)≠0 by decide)⟩
 | true =>
   rw[ho] at ha
   refine enter [.tmp 2] Tryz.func118 rfl Tryz.ntmps118 rfl rfl ?_
   repeat' (first|refine yT ?_|refine y8 sg H ?_|refine y12 ?_|(refine z14 sg H ?_;intro b w H)|(refine' y30 zAu ?_ ?_;rotate_left;exact ha _ _ _ H.mem (zz2 _) _ (H.all hF) (zh hC hLt hN);refine w2 H ?_;clear H;intro w H)|(refine CW.regionR mixed ?_;refine w2 H ?_;clear H;intro w H;(with_reducible apply RW.quiet 9);exact rfl;decide +kernel;simp only[List.append_eq,List.cons_append,List.nil_append,List.take_succ_cons,List.take_zero,List.drop_zero])|(refine' y31 zAt ?_ ?_;rotate_left;exact(fun _ hcl=>zAw 0 qO _ ((H.ext hcl).all hF) (zh hC hLt hN)))|refine x41 sg hs2 ?_|((with_reducible apply zT);exact rfl;exact rfl;exact Yq.loadB1 sg hs2 (H.memF hF) rfl rfl rfl rfl (show 1<n.length by omega) rfl)|(replace H:=H.perm (zCI [_]);refine za rfl rfl (En.fn zHg rfl rfl) (zIQ hLt hW (0) (nF n 0) 0 (nF n 1) qO H (hC.mono (List.subset_append_left _ _))) ?_;rintro _ _ w hR2 H2;clear H;have H:=H2;clear H2;obtain⟨rfl,hR2⟩:=hR2)|refine yU ?_|(with_reducible apply zO;refine w2 H ?_;clear H;intro w H)|fail)
   obtain⟨p2,M2,rfl,hC2⟩:=hR2
   exact zS (M:=_) rfl H ⟨rfl,fun _=>⟨p2,Ma,Mi,Mu,_,rfl,hC2⟩⟩
theorem zLj {w0 w:World}(hLt:LtS s)(hW:WfR s)(hl:2≤n.length)(hz:0≤nF n 1∧nF n 1≤1125899906842624)(H:St w0 (mkL bm (mkc s p n na nc t) Ma Mi Mu R) w)(hC:Cps s p Ma Mi Mu R)(hF:Mem w0 F)(hN:Ints F na nc n) :
  Calls Tryz.prog 119 [.pointer (some ⟨bm,0,none⟩)].toArray w (zi (zBw bm n na nc t (if zAG s (nF n 0) then zDJ s (nF n 0) (0) 0 (nF n 1) else(s,5))) w0):=by
 obtain⟨hn2,hc2,b2,off2,cs2,T2,fr2,hs2⟩:=id hN
 have ha:=fun w (b:Nat) (X:zC) (hX:Mem w X) (hm:cb b [Value.int .i64 (0:Int)] 3∈X) (G:zC) (hG:Mem w G) (hM:Mkt G bm s p n na nc t)=>zCZ (T:=3) 0 qO w hX hm hG hM
 cases ho:zAG s (nF n 0) with
 | false =>
   rw[ho] at ha
   refine enter [.tmp 2] Tryz.func119 rfl Tryz.ntmps119 rfl rfl ?_
   repeat' (first|refine yT ?_|(refine z14 sg H ?_;intro b w H)|(refine' y30 zAu ?_ ?_;rotate_left;exact ha _ _ _ H.mem (zz2 _) _ (H.all hF) (zh hC hLt hN);refine w2 H ?_;clear H;intro w H)|refine yU ?_|fail)
   exact zS (M:=_) rfl H ⟨rfl,fun h=>absurd h (show(5:Int)≠0 by decide)⟩
 | true =>
   rw[ho] at ha
   refine enter [.tmp 2] Tryz.func119 rfl Tryz.ntmps119 rfl rfl ?_
   repeat' (first|refine yT ?_|refine y8 sg H ?_|refine y12 ?_|(refine z14 sg H ?_;intro b w H)|(refine' y30 zAu ?_ ?_;rotate_left;exact ha _ _ _ H.mem (zz2 _) _ (H.all hF) (zh hC hLt hN);refine w2 H ?_;clear H;intro w H)|(refine CW.regionR mixed ?_;refine w2 H ?_;clear H;intro w H;(with_reducible apply RW.quiet 9);exact rfl;decide +kernel;simp only[List.append_eq,List.cons_append,List.nil_append,List.take_succ_cons,List.take_zero,List.drop_zero])|(refine' y31 zAt ?_ ?_;rotate_left;exact(fun _ hcl=>zAw 0 qO _ ((H.ext hcl).all hF) (zh hC hLt hN)))|refine x41 sg hs2 ?_|((with_reducible apply zT);exact rfl;exact rfl;exact Yq.loadB1 sg hs2 (H.memF hF) rfl rfl rfl rfl (show 1<n.length by omega) rfl)|(replace H:=H.perm (zCI [_]);refine za rfl rfl (En.fn zHg rfl rfl) (zIQ hLt hW (nF n 0) (0) 0 (nF n 1) qO H (hC.mono (List.subset_append_left _ _))) ?_;rintro _ _ w hR2 H2;clear H;have H:=H2;clear H2;obtain⟨rfl,hR2⟩:=hR2)|refine yU ?_|(with_reducible apply zO;refine w2 H ?_;clear H;intro w H)|fail)
   obtain⟨p2,M2,rfl,hC2⟩:=hR2
   exact zS (M:=_) rfl H ⟨rfl,fun _=>⟨p2,Ma,Mi,Mu,_,rfl,hC2⟩⟩
end
end
end Go.Proofs.YthbflajpdhgfiaaGreatDoor
