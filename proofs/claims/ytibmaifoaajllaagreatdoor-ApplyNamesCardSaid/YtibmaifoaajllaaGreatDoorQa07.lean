/- Texts of ours, joined: the steps of the proof, or the claim's theorem. -/
import Derived.Test.YtibmaifoaajllaaGreatDoorQa03
set_option linter.unusedSimpArgs false
set_option linter.unusedVariables false
set_option maxHeartbeats 16000000
namespace Go.Proofs.YtibmaifoaajllaaGreatDoor
open Go Go.Sk Go.RowKit
def zJp (z:Int):List Value:=[.int .i64 (z / 18446744073709551616),.int .u64 (z % 18446744073709551616)]
theorem zOs (x y:Int)(hx:0≤x)(hy:0≤y)(w:World):(callFunc 132 [Value.int .u64 x,Value.int .u64 y,Value.int .u64 0].toArray).run Tryz.prog w =
  .ok (.value (.tuple #[.int .u64 ((x+y+0) % 18446744073709551616),.int .u64 ((x+y+0) / 18446744073709551616)])) w:=by
 rw[run_callFunc_extern (e:=add64Entry) Tryz.func132 (by kernel_rfl) (by kernel_rfl) (by kernel_rfl) (by kernel_rfl)]
 rw[run_add64 x y 0 hx hy (Int.le_refl 0) (by omega)]
 rfl
theorem u64w (n:Int):IntKind.u64.wrap n=n % 18446744073709551616:=rfl
theorem shr63 (n:Int):n.fdiv (2 ^ min 63 IntKind.i64.bits)=n / 9223372036854775808:=by
 have:((2:Int) ^ min 63 IntKind.i64.bits)=9223372036854775808:=by decide
 rw[this,Int.fdiv_eq_ediv_of_nonneg _ (by omega)]
theorem zOt (z n:Int)(h1:-1267650600228229401496703205376≤z)(h2:z≤1267650600228229401496703205376)(h3:-9223372036854775808≤n)(h4:n≤9223372036854775807) :
  IntKind.i64.wrap (IntKind.i64.wrap (z / 18446744073709551616+n.fdiv (2 ^ min 63 IntKind.i64.bits))+IntKind.i64.wrap ((z % 18446744073709551616+IntKind.u64.wrap n+0) / 18446744073709551616))=(z+n) / 18446744073709551616:=by
 rw[shr63,u64w,w64 (x:=z / 18446744073709551616+n / 9223372036854775808) (by omega) (by omega),w64 (x:=(z % 18446744073709551616+n % 18446744073709551616+0) / 18446744073709551616) (by omega) (by omega),w64 (by omega) (by omega)]
 omega
theorem zQ0 (z n:Int):(z % 18446744073709551616+IntKind.u64.wrap n+0) % 18446744073709551616=(z+n) % 18446744073709551616:=by
 rw[u64w];omega
theorem c_plus (z n:Int)(w0:World)(h1:-1267650600228229401496703205376≤z)(h2:z≤1267650600228229401496703205376)(h3:-9223372036854775808≤n)(h4:n≤9223372036854775807) :
  Calls Tryz.prog 89 [.agg (zJp z).toArray,.int .i64 n].toArray w0 (Ret (.agg (zJp (z+n)).toArray) w0):=by
 refine enter [.cell 4 156] Tryz.func89 rfl Tryz.ntmps89 rfl rfl ?_
 have H:=zB w0
 repeat' (first|refine yT ?_|refine y7 sg H ?_|(refine y9 H ?_;intro b w H)|(refine y10 sg H ?_;intro b w H)|(refine y11 sg H ?_;intro w H)|refine z13 (Yq.ext rfl rfl (zOs (z % 18446744073709551616) (IntKind.u64.wrap n) (by omega) (by rw[u64w];omega))) ?_|refine yU ?_|fail)
 refine zBT (vs:=[_]) ⟨zAf sg rfl H.mem (zz2 _) rfl rfl,trivial⟩ H.cl ?_
 rw[zOt z n h1 h2 h3 h4,zQ0]
 rfl
def zCS (l:List Int):Nat→Int
 | 0=>0
 | k+1=>zCS l k+l.getD k 0
def iel (l:List Int)(j:Nat):List Value:=[.int .i64 (l.getD j 0)]
def Ints (F:zH)(a:Option Addr)(cap:Nat)(l:List Int):Prop:=SlA F 1 a l.length cap (iel l)
def I64 (l:List Int):Prop:=∀ j,-9223372036854775808≤l.getD j 0∧l.getD j 0≤9223372036854775807
theorem zQ1 (l:List Int)(h:I64 l)(k:Nat):-9223372036854775808*k≤zCS l k∧zCS l k≤9223372036854775807*k:=by
 induction k with
 | zero=>exact⟨by simp[zCS],by simp[zCS]⟩
 | succ k ih=>have:=h k;simp only[zCS];constructor<;>omega
def zBj (z:Int):Int × Int:=if z>4611686018427387904∨z < -4611686018427387904 then(0,41) else(z,0)
theorem zOu (z:Int)(h:¬ (-9223372036854775808≤z∧z≤9223372036854775807)):zBj z=(0,41):=by
 rw[zBj,if_pos (by omega)]
theorem vlow (z:Int):(z / 18446744073709551616=(IntKind.i64.wrap (z % 18446744073709551616)).fdiv (2 ^ min 63 IntKind.i64.bits)↔-9223372036854775808≤z∧z≤9223372036854775807) ∧
  ((-9223372036854775808≤z∧z≤9223372036854775807)→IntKind.i64.wrap (z % 18446744073709551616)=z):=by
 rw[shr63,IntKind.wrap_i64]
 constructor
 ·constructor<;>intro h<;>omega
 ·intro h;omega
theorem c_told (z:Int)(w0:World) :
  Calls Tryz.prog 90 [.agg (zJp z).toArray].toArray w0 (Ret (.tuple #[.int .i64 (zBj z).1,.int .i64 (zBj z).2]) w0):=by
 refine enter [.tmp 2,.tmp 3] Tryz.func90 rfl Tryz.ntmps90 rfl rfl ?_
 have H:=zB w0
 repeat' (first|refine yT ?_|refine y7 sg H ?_|(refine y9 H ?_;intro b w H)|refine yU ?_|(refine y17 ?_ ?_;all_goals intro h)|(refine y23 ?_ ?_;all_goals intro h)|fail)
 ·rw[zOu z (fun h1=>by rw[(vlow z).1.2 h1] at h;simp at h)];exact zFg rfl rfl H.cl rfl
 all_goals
  have hz:=(vlow z).1.1 (by simpa using ‹(z / 18446744073709551616 != (IntKind.i64.wrap (z % 18446744073709551616)).fdiv (2 ^ min 63 IntKind.i64.bits))=false›)
  have hv:=(vlow z).2 hz
  simp only[hv] at *
 ·exact zFg rfl rfl H.cl (by rw[zBj,if_pos (.inl (of_decide_eq_true h))])
 ·exact zFg rfl rfl H.cl (by rw[zBj,if_pos (.inr (of_decide_eq_true h))])
 ·refine zFg rfl rfl H.cl ?_
  rw[zBj,if_neg (fun hc=>hc.elim (fun h3=>absurd h3 (of_decide_eq_false ‹decide (z>4611686018427387904)=false›)) (fun h3=>absurd h3 (of_decide_eq_false ‹decide (z < -4611686018427387904)=false›)))]
theorem zQ2 {a:Option Addr}{cap:Nat}(l:List Int)(hl:I64 l)(hlen:l.length≤1048576){F:zH}(w0:World)(hF:Mem w0 F)(hs:Ints F a cap l) :
  Calls Tryz.prog 55 [.slice a l.length cap].toArray w0 (Ret (.tuple #[.int .i64 (zBj (zCS l l.length)).1,.int .i64 (zBj (zCS l l.length)).2]) w0):=by
 obtain⟨hn,hc,b0,off,cs,T,fr,hs⟩:=hs
 refine enter [.tmp 2,.tmp 3] Tryz.func55 rfl Tryz.ntmps55 rfl rfl ?_
 have H:=zB w0
 repeat' (first|refine yT ?_|(refine y10 sg H ?_;intro b w H)|refine yU ?_|with_reducible apply zA|fail)
 refine zM [(6,6),(9,16)] (fun k:Nat=>[(9,.int .i64 (k:Int))]) (fun k w=>k≤l.length∧St w0 [cb _ (zJp (zCS l k)) 156] w) (fun k=>l.length - k) 0 ⟨rfl,trivial⟩ ⟨zzD _,H⟩ ?_
 clear H
 rintro k g w ⟨hk,H⟩
 have hb:=zQ1 l hl k
 have hb2:=hl k
 repeat' (first|refine yT ?_|refine yU ?_|fail)
 refine zJ rfl (fun h=>?_) (fun h=>?_)
 ·have hlt:k<l.length:=by simpa using h
  repeat' (first|refine yT ?_|refine y7 sg H ?_|(refine y11 sg H ?_;intro w H)|(refine y40 sg (hs) ?_ ?_ ?_;(omega);(omega))|refine z13 (Yq.loadB1 sg hs (H.memF hF) rfl rfl rfl rfl hlt rfl) ?_|(refine' y30 ent89 ?_ ?_;rotate_left;exact c_plus (zCS l k) (l.getD k 0) _ (by omega) (by omega) hb2.1 hb2.2;intro w hcl;replace H:=H.ext hcl;clear hcl)|refine yU ?_|with_reducible apply zA|fail)
  refine zK (k+1) rfl ⟨zZ (by omega),trivial⟩ ⟨hlt,H⟩ (by omega)
 ·have hkn:k=l.length:=by simp at h;omega
  subst hkn
  repeat' (first|refine yT ?_|refine y7 sg H ?_|(refine' y30 ent90 ?_ ?_;rotate_left;exact c_told (zCS l l.length) _;intro w hcl;replace H:=H.ext hcl;clear hcl)|refine yU ?_|fail)
  exact zFg rfl rfl H.cl rfl
def zMI (a b:Int):Int × Int:=zBj (a+b)
theorem Ints.two {F:zH}{b:Nat}{x y:Int}{T:TypeId}{fr:Nat × Nat}(h:(b,Obj.cells [Value.int .i64 x,Value.int .i64 y].toArray T fr)∈F):Ints F (some ⟨b,0,none⟩) 2 [x,y] :=
 ⟨zzC _,(by show 2≤140737488355328;omega),b,0,_,T,fr,fun _=>⟨rfl,h,fun j hj=>by
  have:j=0∨j=1:=by simp at hj;omega
  rcases this with rfl|rfl<;>exact⟨by simp,rfl⟩⟩⟩
theorem c_Add (x y:Int)(w0:World)(h1:-9223372036854775808≤x)(h2:x≤9223372036854775807)(h3:-9223372036854775808≤y)(h4:y≤9223372036854775807) :
  Calls Tryz.prog 36 [.int .i64 x,.int .i64 y].toArray w0 (Ret (.tuple #[.int .i64 (zMI x y).1,.int .i64 (zMI x y).2]) w0):=by
 have hI:I64 [x,y]:=by
  intro j
  rcases j with _|_|j
  ·exact⟨h1,h2⟩
  ·exact⟨h3,h4⟩
  ·simp
 have e:zCS [x,y] [x,y].length=x+y:=by simp[zCS]
 refine enter [.tmp 4,.tmp 5] Tryz.func36 rfl Tryz.ntmps36 rfl rfl ?_
 have H:=zB w0
 repeat' (first|refine yT ?_|(refine z14 sg H ?_;intro b w H)|(refine' y30 zQL ?_ ?_;rotate_left;exact zQ2 [x,y] hI (by show 2≤1048576;omega) _ (H.mem) (Ints.two (zz2 _));intro w hcl;replace H:=H.ext hcl;clear hcl)|refine yU ?_|fail)
 refine zFg rfl rfl H.cl ?_
 rw[e];rfl
end Go.Proofs.YtibmaifoaajllaaGreatDoor
