/- Texts of ours, joined: the steps of the proof, or the claim's theorem. -/
import Derived.Test.YtibmaifoaajllaaGreatDoorQa47
set_option linter.unusedSimpArgs false
set_option linter.unusedVariables false
set_option maxHeartbeats 16000000
namespace Go.Proofs.YtibmaifoaajllaaGreatDoor
section
open Go Go.Sk Go.RowKit
def zCP (a b q:Int)(x:Odr):Odr:=if x.id=a∨x.id=b then zBM x q else x
structure TradeFx (s t:Sta)(n:List Int)(o u:Odr):Prop where
 fo:zV s.orders (nF n 0)=(o,true)
 fu:zV s.orders (nF n 1)=(u,true)
 fst:zDF s.orders u.inst u.side=(u,true)
 last:o.id=s.nextO - 1
 side:o.side≠u.side
 inst:o.inst=u.inst
 acct:o.acct≠u.acct
 cross:zAu o u=true
 price:nF n 2=u.price
 prod:0≤nF n 2*nF n 3∧nF n 2*nF n 3≤1125899906842624
 fee:nF n 4=(zBt (nF n 2*nF n 3) s.fee).1
 qty:1≤nF n 3∧nF n 3≤o.left∧nF n 3≤u.left∧(nF n 3=o.left∨nF n 3=u.left)
 ords:t.orders=(s.orders.map (zCP o.id u.id (nF n 3))).filter fun o=>decide (o.left≠0)
 nn:∀ x∈s.orders,0≤(zCP o.id u.id (nF n 3) x).left
 gone:∃ x∈s.orders,(zCP o.id u.id (nF n 3) x).left=0
end
section
open Go Go.Sk Go.RowKit
attribute [local irreducible] Go.Calls
theorem CW.named {P:Program}{nw:Nw}{c:Code}{Q:zAX}{e:Env}{w:World}(R:Env→World→Prop)(h:R e w)(k:∀ e w,R e w→CW P nw c Q e w):CW P nw c Q e w:=k e w h
end
end Go.Proofs.YtibmaifoaajllaaGreatDoor
