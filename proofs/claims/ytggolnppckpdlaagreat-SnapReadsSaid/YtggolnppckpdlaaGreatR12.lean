/- Texts of ours, joined: the steps of the proof, or the claim's theorem. -/
import Derived.Test.YtggolnppckpdlaaGreatR04
import Derived.Test.YtggolnppckpdlaaGreatR07
import Derived.Test.YtggolnppckpdlaaGreatR09
import Derived.Test.YtggolnppckpdlaaGreatR11
set_option linter.unusedSimpArgs false
set_option linter.unusedVariables false
namespace Go.Proofs.YtggolnppckpdlaaGreat
open Go Go.Sk Go.RowKit
def ael (l : List Auc) (ad : Nat → Option Addr × Nat) (j : Nat) : List Value := (l.getD j default).cells (ad j).1 (ad j).2
def Aucs (F : zI) (a : Option Addr) (cap : Nat) (l : List Auc) (ad : Nat → Option Addr × Nat) : Prop :=
 SlA F 9 a l.length cap (ael l ad) ∧ ∀ j, j < l.length → Bids F (ad j).1 (ad j).2 (l.getD j default).bids
def zJg (l : List Auc) : Nat → Int
 | 0 => 0
 | k + 1 => (l.getD k default).id
def zA7 (l : List Auc) (j : Nat) : Bool := decide ((l.getD j default).id ≤ zJg l j) || !zBX (l.getD j default)
def zAf (l : List Auc) : Bool := decide (idx (zA7 l) l.length < 0) && decide ((l.length : Int) ≤ 32)
set_option maxHeartbeats 1000000 in
theorem zNd {a : Option Addr} {cap : Nat} (l : List Auc) (ad : Nat → Option Addr × Nat) {F : zI} (w0 : World) (hF : Mem w0 F) (hs : Aucs F a cap l ad) :
  Calls Tryz.prog 246 [.slice a l.length cap].toArray w0 (Ret (.bool (zAf l)) w0) := by
 obtain ⟨⟨hn, hc, b0, off, cs, T, fr, hs⟩, hbs⟩ := hs
 refine enter [.tmp 2] Tryz.func246 rfl Tryz.ntmps246 rfl rfl ?_
 have H := zH w0
 repeat' (first | refine y1 sg ?_ | (with_reducible first | apply zB | apply zD | apply zC | apply zE) | refine zA ?_ | fail)
 refine zK [(2, 3), (5, 5), (8, 23)] (fun k : Nat => [(8, .int .i64 (k : Int)), (3, .int .i64 (zJg l k))]) (fun k w => k ≤ l.length ∧ (∀ j, j < k → zA7 l j = false) ∧ St w0 [] w) (fun k => l.length - k) 0 ⟨rfl, rfl, trivial⟩ ⟨Nat.zero_le _, fun j hj => by omega, H⟩ ?_
 clear H
 rintro k g w ⟨hk, hpk, H⟩
 repeat' (first | refine y1 sg ?_ | (with_reducible first | apply zB | apply zD | apply zC) | refine zA ?_ | fail)
 refine zM rfl (fun h => ?_) (fun h => ?_)
 ·have hlt : k < l.length := by simpa using h
  repeat' (first | refine y1 sg ?_ | refine y3 ?_ | refine y5 sg ?_ | refine y7 sg H ?_ | (refine y10 sg H ?_; intro b w H) | (refine y11 sg H ?_; intro w H) | (refine y40 sg (hs) ?_ ?_ ?_; (omega); (omega)) | (refine y42 sg (hs) ((H.memF hF)) ?_ ?_; (omega)) | (refine' y30 zNA ?_ ?_; rotate_left; exact c_May (l.getD k default) _ (H.memF hF) (hbs k hlt); intro w hcl; replace H := H.ext hcl; clear hcl) | refine y13 ?_ | refine y14 ?_ | (refine y17 ?_ ?_; all_goals intro h) | (with_reducible first | apply zB | apply zD | apply zC | apply zE | apply zF | apply zG | apply zO | apply zW) | refine zA ?_ | refine y21 ?_ | (refine y23 ?_ ?_; all_goals intro h) | fail)
  all_goals first
   | exact zQ rfl H.cl (by
     have hbad : zA7 l k = true := by simp only [zA7, *]; simp
     rw [zAf, zA5 hlt hpk hbad, decide_eq_false (show ¬ ((k : Int) < 0) by omega), Bool.false_and])
   | (refine zJ (k + 1) rfl ⟨zT (by omega), rfl, trivial⟩ ⟨hlt, fun j hj => ?_, H.sub (List.nil_sublist _)⟩ (by omega)
      by_cases hj' : j = k
      ·have hbad : zA7 l k = false := by simp only [zA7, *]; simp
       rw [hj']; exact hbad
      ·exact hpk j (by omega))
 ·repeat' (first | refine y1 sg ?_ | (with_reducible first | apply zB | apply zD | apply zC | apply zF | apply zL | apply zS) | refine zA ?_ | refine y24 ?_ | fail)
  have hkn : k = l.length := by simp at h; omega
  subst hkn
  exact zQ rfl H.cl (by rw [zAf, zAm hpk]; simp)
def zDV (x y : Auc) : Bool := x.id == y.id && x.seller == y.seller && x.inst == y.inst && x.sealed == y.sealed && x.qty == y.qty && x.reserve == y.reserve && x.step == y.step && x.fin == y.fin && decide (x.bids = y.bids)
set_option maxHeartbeats 1000000 in
theorem c_Same {a a' : Option Addr} {cap cap' : Nat} (x y : Auc) {F : zI} (w0 : World) (hF : Mem w0 F) (hs : Bids F a cap x.bids) (hs' : Bids F a' cap' y.bids) :
  Calls Tryz.prog 56 [.agg (x.cells a cap).toArray, .agg (y.cells a' cap').toArray].toArray w0 (Ret (.bool (zDV x y)) w0) := by
 refine enter [.tmp 4] Tryz.func56 rfl Tryz.ntmps56 rfl rfl ?_
 have H := zH w0
 repeat' (first | refine y1 sg ?_ | refine y3 ?_ | refine y5 sg ?_ | refine y7 sg H ?_ | (refine y9 H ?_; intro b w H) | (refine' y30 ent119 ?_ ?_; rotate_left; exact zJf x.bids y.bids _ (H.memF hF) hs hs'; intro w hcl; replace H := H.ext hcl; clear hcl) | refine y13 ?_ | refine y14 ?_ | (refine y17 ?_ ?_; all_goals intro h) | (with_reducible first | apply zB | apply zD | apply zC | apply zF) | refine zA ?_ | fail)
 all_goals first | exact zQ rfl H.cl (by simp only [zDV, *]; simp)
end Go.Proofs.YtggolnppckpdlaaGreat
set_option linter.unusedSimpArgs false
set_option linter.unusedVariables false
namespace Go.Proofs.YtggolnppckpdlaaGreat
open Go Go.Sk Go.RowKit
attribute [local irreducible] Go.Calls
structure Sta where
 clock : Int
 fee : Int
 nextO : Int
 nextA : Int
 accts : List Ac
 insts : List Ins
 rows : List Row4
 orders : List Odr
 aucs : List Auc
structure SPt where
 acA : Option Addr
 acC : Nat
 inA : Option Addr
 inC : Nat
 rwA : Option Addr
 rwC : Nat
 odA : Option Addr
 odC : Nat
 auA : Option Addr
 auC : Nat
 ad : Nat → Option Addr × Nat
def Sta.cells (s : Sta) (p : SPt) : List Value := [.int .i64 s.clock, .int .i64 s.fee, .int .i64 s.nextO, .int .i64 s.nextA, .slice p.acA s.accts.length p.acC, .slice p.inA s.insts.length p.inC, .slice p.rwA s.rows.length p.rwC, .slice p.odA s.orders.length p.odC, .slice p.auA s.aucs.length p.auC]
def Accs (F : zI) (a : Option Addr) (cap : Nat) (l : List Ac) : Prop := SlA F 2 a l.length cap (acl l)
def Inss (F : zI) (a : Option Addr) (cap : Nat) (l : List Ins) : Prop := SlA F 3 a l.length cap (ing l)
structure StaM (F : zI) (s : Sta) (p : SPt) : Prop where
 ac : Accs F p.acA p.acC s.accts
 ins : Inss F p.inA p.inC s.insts
 rw : zNa F p.rwA p.rwC s.rows
 od : Ords F p.odA p.odC s.orders
 au : Aucs F p.auA p.auC s.aucs p.ad
theorem StaM.mono {F G : zI} {s : Sta} {p : SPt} (h : StaM F s p) (hs : F ⊆ G) : StaM G s p :=
 ⟨SlA.mono h.ac hs, SlA.mono h.ins hs, SlA.mono h.rw hs, SlA.mono h.od hs, SlA.mono h.au.1 hs, fun j hj => SlA.mono (h.au.2 j hj) hs⟩
def Ac.zero : Ac := ⟨ByteArray.empty, false⟩
def Ins.zero : Ins := ⟨ByteArray.empty, 0, false⟩
def zAd (l : List Ac) (a : Int) : Ac × Bool := if 1 ≤ a ∧ a ≤ l.length ∧ (ac_ l (a - 1).toNat).opn = true then (ac_ l (a - 1).toNat, true) else (Ac.zero, false)
def zBG (l : List Ins) (a : Int) : Ins × Bool := if 1 ≤ a ∧ a ≤ l.length then (in_ l (a - 1).toNat, true) else (Ins.zero, false)
theorem c_Acct {F : zI} (s : Sta) (p : SPt) (a : Int) (w0 : World) (hF : Mem w0 F) (hs : StaM F s p) :
  Calls Tryz.prog 273 [.agg (s.cells p).toArray, .int .i64 a].toArray w0 (Ret (.tuple #[.agg (zAd s.accts a).1.cells.toArray, .bool (zAd s.accts a).2]) w0) := by
 obtain ⟨hnc, hcb, b0, off, cs, T, fr, hs⟩ := hs.ac
 rcases Int.lt_or_le a 1 with h1 | h1
 ·have hlt : decide (a < 1) = true := decide_eq_true h1
  refine enter [.cell 4 70, .tmp 5] Tryz.func273 rfl Tryz.ntmps273 rfl rfl ?_
  have H := zH w0
  repeat' (first | refine y1 sg ?_ | refine y3 ?_ | (refine y9 H ?_; intro b w H) | (refine y10 sg H ?_; intro b w H) | (refine y11 sg H ?_; intro w H) | refine y14 ?_ | (refine y17 ?_ ?_; all_goals (intro h; try (exfalso; first | ((rw [hlt] at h; cases h); done)))) | (with_reducible first | apply zB | apply zD | apply zC | apply zF | apply zO) | refine zA ?_ | refine y21 ?_ | fail)
  refine zCY (vs := [_, _]) ⟨zAF sg rfl H.mem (List.Mem.head _) rfl rfl, zZ rfl, trivial⟩ H.cl ?_
  unfold zAd
  rw [if_neg (by omega)]; rfl
 obtain ⟨k, rfl⟩ : ∃ k : Nat, a = ((k + 1 : Nat) : Int) := ⟨(a - 1).toNat, by omega⟩
 have hlt : decide (((k + 1 : Nat) : Int) < 1) = false := decide_eq_false (by omega)
 have hkk : (((k + 1 : Nat) : Int) - 1).toNat = k := by omega
 rcases Nat.lt_or_ge k s.accts.length with h2 | h2
 ·have hgt : decide (((k + 1 : Nat) : Int) > (s.accts.length : Int)) = false := decide_eq_false (by omega)
  have hq : IntKind.i64.wrap (((k + 1 : Nat) : Int) - 1) = (k : Int) := by rw [w64 (by omega) (by omega)]; omega
  refine enter [.cell 4 70, .tmp 5] Tryz.func273 rfl Tryz.ntmps273 rfl rfl ?_
  have H := zH w0
  repeat' (first | refine y1 sg ?_ | refine y3 ?_ | refine y5 sg ?_ | refine y7 sg H ?_ | (refine y9 H ?_; intro b w H) | (refine y10 sg H ?_; intro b w H) | (refine y11 sg H ?_; intro w H) | (refine zY rfl rfl (zAK sg hs rfl rfl rfl rfl rfl rfl rfl ((congrArg Int.toNat hq).trans (Int.toNat_natCast _)) (by rw [hq]; omega) (by rw [hq]; omega)) ?_) | (refine y44 sg (hs) ((H.memF hF)) ?_ ?_; (omega)) | (refine y42 sg (hs) ((H.memF hF)) ?_ ?_; (omega)) | refine y13 ?_ | (refine y17 ?_ ?_; all_goals (intro h; try (exfalso; first | ((rw [hlt] at h; cases h); done) | ((rw [hgt] at h; cases h); done)))) | (with_reducible first | apply zB | apply zD | apply zC | apply zF | apply zG | apply zO) | refine zA ?_ | (refine y23 ?_ ?_; all_goals (intro h; try (exfalso; first | ((rw [hlt] at h; cases h); done) | ((rw [hgt] at h; cases h); done)))) | fail)
  ·have h : (ac_ s.accts k).opn = false := by simpa using h
   refine zCY (vs := [_, _]) ⟨zAF sg rfl H.mem (List.Mem.head _) rfl rfl, zZ rfl, trivial⟩ H.cl ?_
   unfold zAd
   rw [hkk, if_neg (fun hh => by rw [h] at hh; cases hh.2.2)]; rfl
  ·have h : (ac_ s.accts k).opn = true := by simpa using h
   refine zCY (vs := [_, _]) ⟨zAF sg rfl H.mem (List.Mem.head _) rfl rfl, zZ rfl, trivial⟩ H.cl ?_
   unfold zAd
   rw [hkk, if_pos ⟨h1, by omega, h⟩]; rfl
 ·have hgt : decide (((k + 1 : Nat) : Int) > (s.accts.length : Int)) = true := decide_eq_true (by omega)
  refine enter [.cell 4 70, .tmp 5] Tryz.func273 rfl Tryz.ntmps273 rfl rfl ?_
  have H := zH w0
  repeat' (first | refine y1 sg ?_ | refine y3 ?_ | refine y5 sg ?_ | refine y7 sg H ?_ | (refine y9 H ?_; intro b w H) | (refine y10 sg H ?_; intro b w H) | (refine y11 sg H ?_; intro w H) | refine y13 ?_ | refine y14 ?_ | (refine y17 ?_ ?_; all_goals (intro h; try (exfalso; first | ((rw [hlt] at h; cases h); done) | ((rw [hgt] at h; cases h); done)))) | (with_reducible first | apply zB | apply zD | apply zC | apply zF | apply zO) | refine zA ?_ | refine y21 ?_ | fail)
  refine zCY (vs := [_, _]) ⟨zAF sg rfl H.mem (List.Mem.head _) rfl rfl, zZ rfl, trivial⟩ H.cl ?_
  unfold zAd
  rw [if_neg (by omega)]; rfl
theorem zNe {F : zI} (s : Sta) (p : SPt) (a : Int) (w0 : World) (hF : Mem w0 F) (hs : StaM F s p) :
  Calls Tryz.prog 239 [.agg (s.cells p).toArray, .int .i64 a].toArray w0 (Ret (.tuple #[.agg (zBG s.insts a).1.cells.toArray, .bool (zBG s.insts a).2]) w0) := by
 obtain ⟨hnc, hcb, b0, off, cs, T, fr, hs⟩ := hs.ins
 rcases Int.lt_or_le a 1 with h1 | h1
 ·have hlt : decide (a < 1) = true := decide_eq_true h1
  refine enter [.cell 4 72, .tmp 5] Tryz.func239 rfl Tryz.ntmps239 rfl rfl ?_
  have H := zH w0
  repeat' (first | refine y1 sg ?_ | refine y3 ?_ | (refine y9 H ?_; intro b w H) | (refine y10 sg H ?_; intro b w H) | (refine y11 sg H ?_; intro w H) | refine y14 ?_ | (refine y17 ?_ ?_; all_goals (intro h; try (exfalso; first | ((rw [hlt] at h; cases h); done)))) | (with_reducible first | apply zB | apply zD | apply zC | apply zF | apply zO) | refine zA ?_ | refine y21 ?_ | fail)
  refine zCY (vs := [_, _]) ⟨zAF sg rfl H.mem (List.Mem.head _) rfl rfl, zZ rfl, trivial⟩ H.cl ?_
  unfold zBG
  rw [if_neg (by omega)]; rfl
 obtain ⟨k, rfl⟩ : ∃ k : Nat, a = ((k + 1 : Nat) : Int) := ⟨(a - 1).toNat, by omega⟩
 have hlt : decide (((k + 1 : Nat) : Int) < 1) = false := decide_eq_false (by omega)
 have hkk : (((k + 1 : Nat) : Int) - 1).toNat = k := by omega
 rcases Nat.lt_or_ge k s.insts.length with h2 | h2
 ·have hgt : decide (((k + 1 : Nat) : Int) > (s.insts.length : Int)) = false := decide_eq_false (by omega)
  have hq : IntKind.i64.wrap (((k + 1 : Nat) : Int) - 1) = (k : Int) := by rw [w64 (by omega) (by omega)]; omega
  refine enter [.cell 4 72, .tmp 5] Tryz.func239 rfl Tryz.ntmps239 rfl rfl ?_
  have H := zH w0
  repeat' (first | refine y1 sg ?_ | refine y3 ?_ | refine y5 sg ?_ | refine y7 sg H ?_ | (refine y9 H ?_; intro b w H) | (refine y10 sg H ?_; intro b w H) | (refine y11 sg H ?_; intro w H) | (refine zY rfl rfl (zAK sg hs rfl rfl rfl rfl rfl rfl rfl ((congrArg Int.toNat hq).trans (Int.toNat_natCast _)) (by rw [hq]; omega) (by rw [hq]; omega)) ?_) | (refine y42 sg (hs) ((H.memF hF)) ?_ ?_; (omega)) | refine y13 ?_ | (with_reducible first | apply zB | apply zD | apply zC | apply zF | apply zG) | refine zA ?_ | (refine y23 ?_ ?_; all_goals (intro h; try (exfalso; first | ((rw [hlt] at h; cases h); done) | ((rw [hgt] at h; cases h); done)))) | fail)
  refine zCY (vs := [_, _]) ⟨zAF sg rfl H.mem (List.Mem.head _) rfl rfl, zZ rfl, trivial⟩ H.cl ?_
  unfold zBG
  rw [hkk, if_pos ⟨h1, by omega⟩]; rfl
 ·have hgt : decide (((k + 1 : Nat) : Int) > (s.insts.length : Int)) = true := decide_eq_true (by omega)
  refine enter [.cell 4 72, .tmp 5] Tryz.func239 rfl Tryz.ntmps239 rfl rfl ?_
  have H := zH w0
  repeat' (first | refine y1 sg ?_ | refine y3 ?_ | refine y5 sg ?_ | refine y7 sg H ?_ | (refine y9 H ?_; intro b w H) | (refine y10 sg H ?_; intro b w H) | (refine y11 sg H ?_; intro w H) | refine y13 ?_ | (with_reducible first | apply zB | apply zD | apply zC | apply zF | apply zO) | refine zA ?_ | (refine y23 ?_ ?_; all_goals (intro h; try (exfalso; first | ((rw [hlt] at h; cases h); done) | ((rw [hgt] at h; cases h); done)))) | fail)
  refine zCY (vs := [_, _]) ⟨zAF sg rfl H.mem (List.Mem.head _) rfl rfl, zZ rfl, trivial⟩ H.cl ?_
  unfold zBG
  rw [if_neg (by omega)]; rfl
theorem zFa {F : zI} (s : Sta) (p : SPt) (a : Int) (w0 : World) (hF : Mem w0 F) (hs : StaM F s p) :
  Calls Tryz.prog 195 [.agg (s.cells p).toArray, .int .i64 a].toArray w0 (Ret (.tuple #[.agg (zAd s.accts a).1.cells.toArray, .bool (zAd s.accts a).2]) w0) := by
 obtain ⟨hnc, hcb, b0, off, cs, T, fr, hs⟩ := hs.ac
 rcases Int.lt_or_le a 1 with h1 | h1
 ·have hlt : decide (a < 1) = true := decide_eq_true h1
  refine enter [.cell 4 70, .tmp 5] Tryz.func195 rfl Tryz.ntmps195 rfl rfl ?_
  have H := zH w0
  repeat' (first | refine y1 sg ?_ | refine y3 ?_ | (refine y9 H ?_; intro b w H) | (refine y10 sg H ?_; intro b w H) | (refine y11 sg H ?_; intro w H) | refine y14 ?_ | (refine y17 ?_ ?_; all_goals (intro h; try (exfalso; first | ((rw [hlt] at h; cases h); done)))) | (with_reducible first | apply zB | apply zD | apply zC | apply zF | apply zO) | refine zA ?_ | refine y21 ?_ | fail)
  refine zCY (vs := [_, _]) ⟨zAF sg rfl H.mem (List.Mem.head _) rfl rfl, zZ rfl, trivial⟩ H.cl ?_
  unfold zAd
  rw [if_neg (by omega)]; rfl
 obtain ⟨k, rfl⟩ : ∃ k : Nat, a = ((k + 1 : Nat) : Int) := ⟨(a - 1).toNat, by omega⟩
 have hlt : decide (((k + 1 : Nat) : Int) < 1) = false := decide_eq_false (by omega)
 have hkk : (((k + 1 : Nat) : Int) - 1).toNat = k := by omega
 rcases Nat.lt_or_ge k s.accts.length with h2 | h2
 ·have hgt : decide (((k + 1 : Nat) : Int) > (s.accts.length : Int)) = false := decide_eq_false (by omega)
  have hq : IntKind.i64.wrap (((k + 1 : Nat) : Int) - 1) = (k : Int) := by rw [w64 (by omega) (by omega)]; omega
  refine enter [.cell 4 70, .tmp 5] Tryz.func195 rfl Tryz.ntmps195 rfl rfl ?_
  have H := zH w0
  repeat' (first | refine y1 sg ?_ | refine y3 ?_ | refine y5 sg ?_ | refine y7 sg H ?_ | (refine y9 H ?_; intro b w H) | (refine y10 sg H ?_; intro b w H) | (refine y11 sg H ?_; intro w H) | (refine zY rfl rfl (zAK sg hs rfl rfl rfl rfl rfl rfl rfl ((congrArg Int.toNat hq).trans (Int.toNat_natCast _)) (by rw [hq]; omega) (by rw [hq]; omega)) ?_) | (refine y44 sg (hs) ((H.memF hF)) ?_ ?_; (omega)) | (refine y42 sg (hs) ((H.memF hF)) ?_ ?_; (omega)) | refine y13 ?_ | (refine y17 ?_ ?_; all_goals (intro h; try (exfalso; first | ((rw [hlt] at h; cases h); done) | ((rw [hgt] at h; cases h); done)))) | (with_reducible first | apply zB | apply zD | apply zC | apply zF | apply zG | apply zO) | refine zA ?_ | (refine y23 ?_ ?_; all_goals (intro h; try (exfalso; first | ((rw [hlt] at h; cases h); done) | ((rw [hgt] at h; cases h); done)))) | fail)
  ·have h : (ac_ s.accts k).opn = false := by simpa using h
   refine zCY (vs := [_, _]) ⟨zAF sg rfl H.mem (List.Mem.head _) rfl rfl, zZ rfl, trivial⟩ H.cl ?_
   unfold zAd
   rw [hkk, if_neg (fun hh => by rw [h] at hh; cases hh.2.2)]; rfl
  ·have h : (ac_ s.accts k).opn = true := by simpa using h
   refine zCY (vs := [_, _]) ⟨zAF sg rfl H.mem (List.Mem.head _) rfl rfl, zZ rfl, trivial⟩ H.cl ?_
   unfold zAd
   rw [hkk, if_pos ⟨h1, by omega, h⟩]; rfl
 ·have hgt : decide (((k + 1 : Nat) : Int) > (s.accts.length : Int)) = true := decide_eq_true (by omega)
  refine enter [.cell 4 70, .tmp 5] Tryz.func195 rfl Tryz.ntmps195 rfl rfl ?_
  have H := zH w0
  repeat' (first | refine y1 sg ?_ | refine y3 ?_ | refine y5 sg ?_ | refine y7 sg H ?_ | (refine y9 H ?_; intro b w H) | (refine y10 sg H ?_; intro b w H) | (refine y11 sg H ?_; intro w H) | refine y13 ?_ | refine y14 ?_ | (refine y17 ?_ ?_; all_goals (intro h; try (exfalso; first | ((rw [hlt] at h; cases h); done) | ((rw [hgt] at h; cases h); done)))) | (with_reducible first | apply zB | apply zD | apply zC | apply zF | apply zO) | refine zA ?_ | refine y21 ?_ | fail)
  refine zCY (vs := [_, _]) ⟨zAF sg rfl H.mem (List.Mem.head _) rfl rfl, zZ rfl, trivial⟩ H.cl ?_
  unfold zAd
  rw [if_neg (by omega)]; rfl
theorem zK0 {F : zI} (s : Sta) (p : SPt) (a : Int) (w0 : World) (hF : Mem w0 F) (hs : StaM F s p) :
  Calls Tryz.prog 197 [.agg (s.cells p).toArray, .int .i64 a].toArray w0 (Ret (.tuple #[.agg (zBG s.insts a).1.cells.toArray, .bool (zBG s.insts a).2]) w0) := by
 obtain ⟨hnc, hcb, b0, off, cs, T, fr, hs⟩ := hs.ins
 rcases Int.lt_or_le a 1 with h1 | h1
 ·have hlt : decide (a < 1) = true := decide_eq_true h1
  refine enter [.cell 4 72, .tmp 5] Tryz.func197 rfl Tryz.ntmps197 rfl rfl ?_
  have H := zH w0
  repeat' (first | refine y1 sg ?_ | refine y3 ?_ | (refine y9 H ?_; intro b w H) | (refine y10 sg H ?_; intro b w H) | (refine y11 sg H ?_; intro w H) | refine y14 ?_ | (refine y17 ?_ ?_; all_goals (intro h; try (exfalso; first | ((rw [hlt] at h; cases h); done)))) | (with_reducible first | apply zB | apply zD | apply zC | apply zF | apply zO) | refine zA ?_ | refine y21 ?_ | fail)
  refine zCY (vs := [_, _]) ⟨zAF sg rfl H.mem (List.Mem.head _) rfl rfl, zZ rfl, trivial⟩ H.cl ?_
  unfold zBG
  rw [if_neg (by omega)]; rfl
 obtain ⟨k, rfl⟩ : ∃ k : Nat, a = ((k + 1 : Nat) : Int) := ⟨(a - 1).toNat, by omega⟩
 have hlt : decide (((k + 1 : Nat) : Int) < 1) = false := decide_eq_false (by omega)
 have hkk : (((k + 1 : Nat) : Int) - 1).toNat = k := by omega
 rcases Nat.lt_or_ge k s.insts.length with h2 | h2
 ·have hgt : decide (((k + 1 : Nat) : Int) > (s.insts.length : Int)) = false := decide_eq_false (by omega)
  have hq : IntKind.i64.wrap (((k + 1 : Nat) : Int) - 1) = (k : Int) := by rw [w64 (by omega) (by omega)]; omega
  refine enter [.cell 4 72, .tmp 5] Tryz.func197 rfl Tryz.ntmps197 rfl rfl ?_
  have H := zH w0
  repeat' (first | refine y1 sg ?_ | refine y3 ?_ | refine y5 sg ?_ | refine y7 sg H ?_ | (refine y9 H ?_; intro b w H) | (refine y10 sg H ?_; intro b w H) | (refine y11 sg H ?_; intro w H) | (refine zY rfl rfl (zAK sg hs rfl rfl rfl rfl rfl rfl rfl ((congrArg Int.toNat hq).trans (Int.toNat_natCast _)) (by rw [hq]; omega) (by rw [hq]; omega)) ?_) | (refine y42 sg (hs) ((H.memF hF)) ?_ ?_; (omega)) | refine y13 ?_ | (with_reducible first | apply zB | apply zD | apply zC | apply zF | apply zG) | refine zA ?_ | (refine y23 ?_ ?_; all_goals (intro h; try (exfalso; first | ((rw [hlt] at h; cases h); done) | ((rw [hgt] at h; cases h); done)))) | fail)
  refine zCY (vs := [_, _]) ⟨zAF sg rfl H.mem (List.Mem.head _) rfl rfl, zZ rfl, trivial⟩ H.cl ?_
  unfold zBG
  rw [hkk, if_pos ⟨h1, by omega⟩]; rfl
 ·have hgt : decide (((k + 1 : Nat) : Int) > (s.insts.length : Int)) = true := decide_eq_true (by omega)
  refine enter [.cell 4 72, .tmp 5] Tryz.func197 rfl Tryz.ntmps197 rfl rfl ?_
  have H := zH w0
  repeat' (first | refine y1 sg ?_ | refine y3 ?_ | refine y5 sg ?_ | refine y7 sg H ?_ | (refine y9 H ?_; intro b w H) | (refine y10 sg H ?_; intro b w H) | (refine y11 sg H ?_; intro w H) | refine y13 ?_ | (with_reducible first | apply zB | apply zD | apply zC | apply zF | apply zO) | refine zA ?_ | (refine y23 ?_ ?_; all_goals (intro h; try (exfalso; first | ((rw [hlt] at h; cases h); done) | ((rw [hgt] at h; cases h); done)))) | fail)
  refine zCY (vs := [_, _]) ⟨zAF sg rfl H.mem (List.Mem.head _) rfl rfl, zZ rfl, trivial⟩ H.cl ?_
  unfold zBG
  rw [if_neg (by omega)]; rfl
theorem zHb {F : zI} (s : Sta) (p : SPt) (a : Int) (w0 : World) (hF : Mem w0 F) (hs : StaM F s p) :
  Calls Tryz.prog 235 [.agg (s.cells p).toArray, .int .i64 a].toArray w0 (Ret (.bool (zAd s.accts a).2) w0) := by
 refine enter [.tmp 4] Tryz.func235 rfl Tryz.ntmps235 rfl rfl ?_
 have H := zH w0
 repeat' (first | refine y1 sg ?_ | refine y3 ?_ | refine y7 sg H ?_ | (refine y9 H ?_; intro b w H) | (refine y10 sg H ?_; intro b w H) | (refine y11 sg H ?_; intro w H) | (refine' y30 ent273 ?_ ?_; rotate_left; exact c_Acct s p a _ (H.memF hF) hs; intro w hcl; replace H := H.ext hcl; clear hcl) | (with_reducible first | apply zB | apply zD | apply zC | apply zF) | refine zA ?_ | fail)
 exact zQ rfl H.cl rfl
theorem zPQ {F : zI} (s : Sta) (p : SPt) (a : Int) (w0 : World) (hF : Mem w0 F) (hs : StaM F s p) :
  Calls Tryz.prog 244 [.agg (s.cells p).toArray, .int .i64 a].toArray w0 (Ret (.bool (zBG s.insts a).2) w0) := by
 refine enter [.tmp 4] Tryz.func244 rfl Tryz.ntmps244 rfl rfl ?_
 have H := zH w0
 repeat' (first | refine y1 sg ?_ | refine y3 ?_ | refine y7 sg H ?_ | (refine y9 H ?_; intro b w H) | (refine y10 sg H ?_; intro b w H) | (refine y11 sg H ?_; intro w H) | (refine' y30 zM3 ?_ ?_; rotate_left; exact zNe s p a _ (H.memF hF) hs; intro w hcl; replace H := H.ext hcl; clear hcl) | (with_reducible first | apply zB | apply zD | apply zC | apply zF) | refine zA ?_ | fail)
 exact zQ rfl H.cl rfl
end Go.Proofs.YtggolnppckpdlaaGreat
set_option linter.unusedSimpArgs false
set_option linter.unusedVariables false
namespace Go.Proofs.YtggolnppckpdlaaGreat
open Go Go.Sk Go.RowKit
structure Opn where
 acct : Int
 id : Int
 inst : Int
 side : Int
 price : Int
 left : Int
 deriving DecidableEq, Inhabited
structure Lt where
 id : Int
 seller : Int
 inst : Int
 qty : Int
 deriving DecidableEq, Inhabited
structure Psn where
 acct : Int
 inst : Int
 bought : Int
 sold : Int
 spent : Int
 got : Int
 deriving DecidableEq, Inhabited
structure Ln where
 acct : Int
 seq : Int
 kind : Int
 delta : Int
 bal : Int
 deriving DecidableEq, Inhabited
def Opn.cells (x : Opn) : List Value := [.int .i64 x.acct, .int .i64 x.id, .int .i64 x.inst, .int .u8 x.side, .int .i64 x.price, .int .i64 x.left]
def Lt.cells (x : Lt) : List Value := [.int .i64 x.id, .int .i64 x.seller, .int .i64 x.inst, .int .i64 x.qty]
def Psn.cells (x : Psn) : List Value := [.int .i64 x.acct, .int .i64 x.inst, .int .i64 x.bought, .int .i64 x.sold, .int .i64 x.spent, .int .i64 x.got]
def Ln.cells (x : Ln) : List Value := [.int .i64 x.acct, .int .i64 x.seq, .int .u8 x.kind, .int .i64 x.delta, .int .i64 x.bal]
def op_ (l : List Opn) (j : Nat) : Opn := l.getD j default
def lt_ (l : List Lt) (j : Nat) : Lt := l.getD j default
def ps_ (l : List Psn) (j : Nat) : Psn := l.getD j default
def ln_ (l : List Ln) (j : Nat) : Ln := l.getD j default
def opl (l : List Opn) (j : Nat) : List Value := (op_ l j).cells
def ltl (l : List Lt) (j : Nat) : List Value := (lt_ l j).cells
def psl (l : List Psn) (j : Nat) : List Value := (ps_ l j).cells
def lnl (l : List Ln) (j : Nat) : List Value := (ln_ l j).cells
structure Vws where
 opn : List Opn
 lots : List Lt
 poss : List Psn
 lins : List Ln
structure VPt where
 opA : Option Addr
 opC : Nat
 ltA : Option Addr
 ltC : Nat
 psA : Option Addr
 psC : Nat
 lnA : Option Addr
 lnC : Nat
def Vws.cells (v : Vws) (p : VPt) : List Value := [.slice p.opA v.opn.length p.opC, .slice p.ltA v.lots.length p.ltC, .slice p.psA v.poss.length p.psC, .slice p.lnA v.lins.length p.lnC]
structure VwM (F : zI) (v : Vws) (p : VPt) : Prop where
 op : SlA F 6 p.opA v.opn.length p.opC (opl v.opn)
 lt : SlA F 4 p.ltA v.lots.length p.ltC (ltl v.lots)
 ps : SlA F 6 p.psA v.poss.length p.psC (psl v.poss)
 ln : SlA F 5 p.lnA v.lins.length p.lnC (lnl v.lins)
theorem VwM.mono {F G : zI} {v : Vws} {p : VPt} (h : VwM F v p) (hs : F ⊆ G) : VwM G v p := ⟨SlA.mono h.op hs, SlA.mono h.lt hs, SlA.mono h.ps hs, SlA.mono h.ln hs⟩
end Go.Proofs.YtggolnppckpdlaaGreat
set_option linter.unusedSimpArgs false
set_option linter.unusedVariables false
namespace Go.Proofs.YtggolnppckpdlaaGreat
open Go Go.Sk Go.RowKit
attribute [local irreducible] Go.Calls
def zAu (n : Int) : Nat := (IntKind.u64.wrap n).toNat
theorem zK1 (n : Int) : zAu n < 18446744073709551616 := by
 have h := zMl n
 have h2 : IntKind.u64.wrap n < 18446744073709551616 := by
  have : IntKind.u64.wrap n = n % 18446744073709551616 := by simp [IntKind.wrap, IntKind.bits, IntKind.signed]
  rw [this]; exact Int.emod_lt_of_pos _ (by decide)
 unfold zAu; omega
theorem zPR (n : Int) : IntKind.u64.wrap n = (zAu n : Int) := by have := zMl n; unfold zAu; omega
theorem zAv {n : Int} (h0 : 0 ≤ n) (h1 : n < 18446744073709551616) : zAu n = n.toNat := by unfold zAu; rw [zMk h0 h1]
def zr (xs : List Int) : List Nat := xs.flatMap fun n => short (zAu n)
theorem zLm (a b : List Int) : zr (a ++ b) = zr a ++ zr b := by simp [zr]
theorem zG0 (xs : List Int) : (zr xs).length ≤ 10 * xs.length := by
 induction xs with
 | nil => simp [zr]
 | cons x t ih =>
   have := zl (zK1 x)
   have e : zr (x :: t) = short (zAu x) ++ zr t := by simp [zr]
   rw [e, List.length_append, List.length_cons]; omega
def i64c (xs : List Int) (j : Nat) : List Value := [.int .i64 (xs.getD j 0)]
theorem zBp {F : zI} {b : Nat} {T : TypeId} (xs : List Int) (hm : cb b (xs.map (Value.int .i64)) T ∈ F) (hn : xs.length ≤ 1000) : SlA F 1 (some ⟨b, 0, none⟩) xs.length xs.length (i64c xs) :=
 ⟨Nat.le_refl _, by omega, b, 0, xs.map (Value.int .i64), T, (0, 0), fun _ => ⟨rfl, hm, fun j hj => ⟨by rw [List.length_map]; omega, by
  rw [Nat.zero_add, Nat.mul_one, List.drop_eq_getElem_cons (by rw [List.length_map]; exact hj), List.take_succ_cons, List.take_zero, List.getElem_map]
  simp [i64c, List.getElem?_eq_getElem hj]⟩⟩⟩
theorem zBH {w0 w : World} {M G : zI} {pw : Nat} {l : List Nat} {a : Option Addr} {cap : Nat} (xs : List Int) (H : St w0 (M ++ G) w) (hM : Wr M pw l) (hs : SlA G 1 a xs.length cap (i64c xs)) (hl : l.length + 10 * xs.length ≤ 35184372088832) :
  Calls Tryz.prog 87 [ptr pw, .slice a xs.length cap].toArray w (zf (WrR G pw (l ++ zr xs)) w0) := by
 obtain ⟨hnc, hcb, b0, off, cs, T, fr, hs⟩ := hs
 refine enter [] Tryz.func87 rfl Tryz.ntmps87 rfl rfl ?_
 repeat' (first | refine y1 sg ?_ | (with_reducible first | apply zB | apply zD | apply zC | apply zE) | refine zA ?_ | fail)
 refine zK [(5, 5), (8, 16)] (fun x : Nat × zI => [(8, .int .i64 (x.1 : Int))]) (fun x w => x.1 ≤ xs.length ∧ St w0 (x.2 ++ G) w ∧ Wr x.2 pw (l ++ zr (xs.take x.1))) (fun x => xs.length - x.1) (0, M) ⟨rfl, trivial⟩ ⟨Nat.zero_le _, H, by simpa [zr] using hM⟩ ?_
 clear H hM
 rintro ⟨k, M⟩ gh w ⟨hk, H, hM⟩
 simp only at hk H hM ⊢
 have hlen : (l ++ zr (xs.take k)).length ≤ 35184372088832 := by
  have := zG0 (xs.take k)
  rw [List.length_take] at this
  rw [List.length_append]; omega
 repeat' (first | refine y1 sg ?_ | (with_reducible first | apply zB | apply zD | apply zC) | refine zA ?_ | fail)
 refine zM rfl (fun h => ?_) (fun h => ?_)
 ·have hlt : k < xs.length := by have := of_decide_eq_true h; omega
  clear h
  repeat' (first | refine y1 sg ?_ | refine y3 ?_ | (refine zY rfl rfl (zAK sg hs rfl rfl rfl rfl rfl rfl rfl (Int.toNat_natCast _) (by omega) (by omega)) ?_) | (refine y46 sg (hs) ((H.tail).mem) ?_ ?_; (omega)) | (refine' y33 zB8 ?_ ?_; rotate_left 2; exact zBc (zAu (xs.getD k 0)) (zK1 _) (zPR _) H hM hlen; rintro v N w ⟨rfl, M, rfl, hM⟩ H) | (with_reducible first | apply zB | apply zD | apply zC | apply zE | apply zG) | refine zA ?_ | fail)
  refine zJ (k + 1, M) rfl ⟨zT (by omega), trivial⟩ ⟨hlt, H, ?_⟩ (by simp only; omega)
  have e : zr (xs.take (k + 1)) = zr (xs.take k) ++ short (zAu (xs.getD k 0)) := by
   rw [List.take_succ_eq_append_getElem hlt, zLm]
   simp [zr, List.getElem?_eq_getElem hlt]
  rw [e, ← List.append_assoc]; exact hM
 ·obtain rfl : k = xs.length := by have := of_decide_eq_false h; omega
  repeat' (first | (with_reducible first | apply zL | apply zS) | refine y24 ?_ | fail)
  exact zu (vs := []) trivial H ⟨rfl, _, rfl, by rw [List.take_length] at hM; exact hM⟩
def zAS (b : Bool) : List Nat := [if b then 1 else 0]
theorem zJh {w0 w : World} {M G : zI} {pw : Nat} {l : List Nat} (b : Bool) (H : St w0 (M ++ G) w) (hM : Wr M pw l) (hl : l.length ≤ 35184372088832) :
  Calls Tryz.prog 91 [ptr pw, .bool b].toArray w (zf (WrR G pw (l ++ zAS b)) w0) := by
 cases b
 ·refine enter [] Tryz.func91 rfl Tryz.ntmps91 rfl rfl ?_
  repeat' (first | refine y1 sg ?_ | refine y3 ?_ | (refine' y33 zFs ?_ ?_; rotate_left 2; exact zJV 0 (by decide) rfl H hM (by omega); rintro v N w ⟨rfl, M, rfl, hM⟩ H) | (with_reducible first | apply zB | apply zD | apply zC | apply zG) | refine zA ?_ | refine y22 ?_ | fail)
  exact zu (vs := []) trivial H ⟨rfl, _, rfl, hM⟩
 ·refine enter [] Tryz.func91 rfl Tryz.ntmps91 rfl rfl ?_
  repeat' (first | refine y1 sg ?_ | refine y3 ?_ | (refine' y33 zFs ?_ ?_; rotate_left 2; exact zJV 1 (by decide) rfl H hM (by omega); rintro v N w ⟨rfl, M, rfl, hM⟩ H) | (with_reducible first | apply zB | apply zD | apply zC) | refine zA ?_ | refine y21 ?_ | fail)
  exact zu (vs := []) trivial H ⟨rfl, _, rfl, hM⟩
def One (w0 : World) (G : zI) (pw : Nat) (g : FuncId) (caps : List Value) (v : Value) (ob : List Nat) (B : Nat) : Prop :=
 ∀ (M G' : zI) (l : List Nat) (w : World), G ⊆ G' → St w0 (M ++ G') w → Wr M pw l → l.length ≤ B → Calls Tryz.prog g ([v] ++ caps).toArray w (zf (WrR G' pw (l ++ ob)) w0)
def zAT (n : Nat) (ob : Nat → List Nat) : List Nat := short n ++ (List.range n).flatMap ob
theorem zAQ {ob : Nat → List Nat} {C : Nat} : ∀ {n : Nat}, (∀ k, k < n → (ob k).length ≤ C) → ((List.range n).flatMap ob).length ≤ n * C
 | 0, _ => by simp
 | n + 1, h => by
   rw [List.range_succ, List.flatMap_append, List.length_append, List.flatMap_singleton, Nat.add_mul, Nat.one_mul]
   exact Nat.add_le_add (zAQ fun k hk => h k (by omega)) (h n (by omega))
theorem zLn {w0 w : World} {M G F : zI} {pw : Nat} {l : List Nat} {a : Option Addr} {cap : Nat} (x : List Ac) {g : FuncId} {caps : List Value} {B : Nat} (ob : Nat → List Nat) (C : Nat) (hB : B ≤ 17592186044416) (hF : Mem w0 F) (hs : SlA F 2 a x.length cap (acl x)) (hg : Ent Tryz.prog g)
  (hone : ∀ k, k < x.length → One w0 G pw g caps (.agg (acl x k).toArray) (ob k) B) (hC : ∀ k, k < x.length → (ob k).length ≤ C) (H : St w0 (M ++ G) w) (hM : Wr M pw l) (hl : l.length + 10 + x.length * C ≤ B) :
  Calls Tryz.prog 88 [ptr pw, .slice a x.length cap, .func (.func g) #[] caps.toArray].toArray w (zf (WrR G pw (l ++ zAT x.length ob)) w0) := by
 obtain ⟨hnc, hcb, b0, off, cs, T, fr, hs⟩ := hs
 have h10 := zl (n := x.length) (by omega)
 refine enter [] Tryz.func88 rfl Tryz.ntmps88 rfl rfl ?_
 repeat' (first | refine y1 sg ?_ | refine y3 ?_ | (refine' y33 zB8 ?_ ?_; rotate_left 2; exact zBc x.length (by omega) (zBI (by omega)) H hM (by omega); rintro v N w ⟨rfl, M, rfl, hM⟩ H) | (with_reducible first | apply zB | apply zD | apply zC | apply zE) | refine zA ?_ | fail)
 refine zK [(7, 7), (15, 22)] (fun y : Nat × zI => [(15, .int .i64 (y.1 : Int))]) (fun y w => y.1 ≤ x.length ∧ St w0 (y.2 ++ G) w ∧ Wr y.2 pw (l ++ (short x.length ++ (List.range y.1).flatMap ob))) (fun y => x.length - y.1) (0, M) ⟨rfl, trivial⟩ ⟨Nat.zero_le _, H, by simpa using hM⟩ ?_
 clear H hM
 rintro ⟨k, M⟩ gh w ⟨hk, H, hM⟩
 simp only at hk H hM ⊢
 repeat' (first | refine y1 sg ?_ | (with_reducible first | apply zB | apply zD | apply zC) | refine zA ?_ | fail)
 refine zM rfl (fun h => ?_) (fun h => ?_)
 ·have hlt : k < x.length := by have := of_decide_eq_true h; omega
  clear h
  have hlen : (l ++ (short x.length ++ (List.range k).flatMap ob)).length ≤ B := by
   have h1 := zAQ (n := k) (ob := ob) (C := C) fun j hj => hC j (by omega)
   have h2 : k * C ≤ x.length * C := Nat.mul_le_mul_right _ hk
   rw [List.length_append, List.length_append]; omega
  repeat' (first | refine y1 sg ?_ | refine y3 ?_ | refine y7 sg H ?_ | (refine y10 sg H ?_; intro b w H) | (refine y11 sg H ?_; intro w H) | (refine y40 sg (hs) ?_ ?_ ?_; (omega); (omega)) | (refine y42 sg (hs) ((H.memF hF)) ?_ ?_; (omega)) | (refine zAL rfl rfl (zAH hg rfl rfl rfl) (hone k hlt M (_ :: G) _ _ (List.subset_cons_self _ _) (H.perm (zAJ M G)) hM hlen) ?_; rintro v N w ⟨rfl, M, rfl, hM⟩ H) | (with_reducible first | apply zB | apply zD | apply zC | apply zE | apply zG) | refine zA ?_ | fail)
  refine zJ (k + 1, M) rfl ⟨zT (by omega), trivial⟩ ⟨hlt, (H.perm (zAJ M G).symm).sub (List.sublist_cons_self _ _), ?_⟩ (by simp only; omega)
  rw [List.range_succ, List.flatMap_append, List.flatMap_singleton, ← List.append_assoc, ← List.append_assoc, List.append_assoc l]
  exact hM
 ·obtain rfl : k = x.length := by have := of_decide_eq_false h; omega
  repeat' (first | (with_reducible first | apply zL | apply zS) | refine y24 ?_ | fail)
  exact zu (vs := []) trivial H ⟨rfl, _, rfl, hM⟩
theorem zLo {w0 w : World} {M G F : zI} {pw : Nat} {l : List Nat} {a : Option Addr} {cap : Nat} (x : List Ins) {g : FuncId} {caps : List Value} {B : Nat} (ob : Nat → List Nat) (C : Nat) (hB : B ≤ 17592186044416) (hF : Mem w0 F) (hs : SlA F 3 a x.length cap (ing x)) (hg : Ent Tryz.prog g)
  (hone : ∀ k, k < x.length → One w0 G pw g caps (.agg (ing x k).toArray) (ob k) B) (hC : ∀ k, k < x.length → (ob k).length ≤ C) (H : St w0 (M ++ G) w) (hM : Wr M pw l) (hl : l.length + 10 + x.length * C ≤ B) :
  Calls Tryz.prog 92 [ptr pw, .slice a x.length cap, .func (.func g) #[] caps.toArray].toArray w (zf (WrR G pw (l ++ zAT x.length ob)) w0) := by
 obtain ⟨hnc, hcb, b0, off, cs, T, fr, hs⟩ := hs
 have h10 := zl (n := x.length) (by omega)
 refine enter [] Tryz.func92 rfl Tryz.ntmps92 rfl rfl ?_
 repeat' (first | refine y1 sg ?_ | refine y3 ?_ | (refine' y33 zB8 ?_ ?_; rotate_left 2; exact zBc x.length (by omega) (zBI (by omega)) H hM (by omega); rintro v N w ⟨rfl, M, rfl, hM⟩ H) | (with_reducible first | apply zB | apply zD | apply zC | apply zE) | refine zA ?_ | fail)
 refine zK [(7, 7), (15, 22)] (fun y : Nat × zI => [(15, .int .i64 (y.1 : Int))]) (fun y w => y.1 ≤ x.length ∧ St w0 (y.2 ++ G) w ∧ Wr y.2 pw (l ++ (short x.length ++ (List.range y.1).flatMap ob))) (fun y => x.length - y.1) (0, M) ⟨rfl, trivial⟩ ⟨Nat.zero_le _, H, by simpa using hM⟩ ?_
 clear H hM
 rintro ⟨k, M⟩ gh w ⟨hk, H, hM⟩
 simp only at hk H hM ⊢
 repeat' (first | refine y1 sg ?_ | (with_reducible first | apply zB | apply zD | apply zC) | refine zA ?_ | fail)
 refine zM rfl (fun h => ?_) (fun h => ?_)
 ·have hlt : k < x.length := by have := of_decide_eq_true h; omega
  clear h
  have hlen : (l ++ (short x.length ++ (List.range k).flatMap ob)).length ≤ B := by
   have h1 := zAQ (n := k) (ob := ob) (C := C) fun j hj => hC j (by omega)
   have h2 : k * C ≤ x.length * C := Nat.mul_le_mul_right _ hk
   rw [List.length_append, List.length_append]; omega
  repeat' (first | refine y1 sg ?_ | refine y3 ?_ | refine y7 sg H ?_ | (refine y10 sg H ?_; intro b w H) | (refine y11 sg H ?_; intro w H) | (refine y40 sg (hs) ?_ ?_ ?_; (omega); (omega)) | (refine y42 sg (hs) ((H.memF hF)) ?_ ?_; (omega)) | (refine zAL rfl rfl (zAH hg rfl rfl rfl) (hone k hlt M (_ :: G) _ _ (List.subset_cons_self _ _) (H.perm (zAJ M G)) hM hlen) ?_; rintro v N w ⟨rfl, M, rfl, hM⟩ H) | (with_reducible first | apply zB | apply zD | apply zC | apply zE | apply zG) | refine zA ?_ | fail)
  refine zJ (k + 1, M) rfl ⟨zT (by omega), trivial⟩ ⟨hlt, (H.perm (zAJ M G).symm).sub (List.sublist_cons_self _ _), ?_⟩ (by simp only; omega)
  rw [List.range_succ, List.flatMap_append, List.flatMap_singleton, ← List.append_assoc, ← List.append_assoc, List.append_assoc l]
  exact hM
 ·obtain rfl : k = x.length := by have := of_decide_eq_false h; omega
  repeat' (first | (with_reducible first | apply zL | apply zS) | refine y24 ?_ | fail)
  exact zu (vs := []) trivial H ⟨rfl, _, rfl, hM⟩
theorem zLp {w0 w : World} {M G F : zI} {pw : Nat} {l : List Nat} {a : Option Addr} {cap : Nat} (x : List Row4) {g : FuncId} {caps : List Value} {B : Nat} (ob : Nat → List Nat) (C : Nat) (hB : B ≤ 17592186044416) (hF : Mem w0 F) (hs : SlA F 4 a x.length cap (rwl x)) (hg : Ent Tryz.prog g)
  (hone : ∀ k, k < x.length → One w0 G pw g caps (.agg (rwl x k).toArray) (ob k) B) (hC : ∀ k, k < x.length → (ob k).length ≤ C) (H : St w0 (M ++ G) w) (hM : Wr M pw l) (hl : l.length + 10 + x.length * C ≤ B) :
  Calls Tryz.prog 94 [ptr pw, .slice a x.length cap, .func (.func g) #[] caps.toArray].toArray w (zf (WrR G pw (l ++ zAT x.length ob)) w0) := by
 obtain ⟨hnc, hcb, b0, off, cs, T, fr, hs⟩ := hs
 have h10 := zl (n := x.length) (by omega)
 refine enter [] Tryz.func94 rfl Tryz.ntmps94 rfl rfl ?_
 repeat' (first | refine y1 sg ?_ | refine y3 ?_ | (refine' y33 zB8 ?_ ?_; rotate_left 2; exact zBc x.length (by omega) (zBI (by omega)) H hM (by omega); rintro v N w ⟨rfl, M, rfl, hM⟩ H) | (with_reducible first | apply zB | apply zD | apply zC | apply zE) | refine zA ?_ | fail)
 refine zK [(7, 7), (15, 22)] (fun y : Nat × zI => [(15, .int .i64 (y.1 : Int))]) (fun y w => y.1 ≤ x.length ∧ St w0 (y.2 ++ G) w ∧ Wr y.2 pw (l ++ (short x.length ++ (List.range y.1).flatMap ob))) (fun y => x.length - y.1) (0, M) ⟨rfl, trivial⟩ ⟨Nat.zero_le _, H, by simpa using hM⟩ ?_
 clear H hM
 rintro ⟨k, M⟩ gh w ⟨hk, H, hM⟩
 simp only at hk H hM ⊢
 repeat' (first | refine y1 sg ?_ | (with_reducible first | apply zB | apply zD | apply zC) | refine zA ?_ | fail)
 refine zM rfl (fun h => ?_) (fun h => ?_)
 ·have hlt : k < x.length := by have := of_decide_eq_true h; omega
  clear h
  have hlen : (l ++ (short x.length ++ (List.range k).flatMap ob)).length ≤ B := by
   have h1 := zAQ (n := k) (ob := ob) (C := C) fun j hj => hC j (by omega)
   have h2 : k * C ≤ x.length * C := Nat.mul_le_mul_right _ hk
   rw [List.length_append, List.length_append]; omega
  repeat' (first | refine y1 sg ?_ | refine y3 ?_ | refine y7 sg H ?_ | (refine y10 sg H ?_; intro b w H) | (refine y11 sg H ?_; intro w H) | (refine y40 sg (hs) ?_ ?_ ?_; (omega); (omega)) | (refine y42 sg (hs) ((H.memF hF)) ?_ ?_; (omega)) | (refine zAL rfl rfl (zAH hg rfl rfl rfl) (hone k hlt M (_ :: G) _ _ (List.subset_cons_self _ _) (H.perm (zAJ M G)) hM hlen) ?_; rintro v N w ⟨rfl, M, rfl, hM⟩ H) | (with_reducible first | apply zB | apply zD | apply zC | apply zE | apply zG) | refine zA ?_ | fail)
  refine zJ (k + 1, M) rfl ⟨zT (by omega), trivial⟩ ⟨hlt, (H.perm (zAJ M G).symm).sub (List.sublist_cons_self _ _), ?_⟩ (by simp only; omega)
  rw [List.range_succ, List.flatMap_append, List.flatMap_singleton, ← List.append_assoc, ← List.append_assoc, List.append_assoc l]
  exact hM
 ·obtain rfl : k = x.length := by have := of_decide_eq_false h; omega
  repeat' (first | (with_reducible first | apply zL | apply zS) | refine y24 ?_ | fail)
  exact zu (vs := []) trivial H ⟨rfl, _, rfl, hM⟩
theorem zLq {w0 w : World} {M G F : zI} {pw : Nat} {l : List Nat} {a : Option Addr} {cap : Nat} (x : List Odr) {g : FuncId} {caps : List Value} {B : Nat} (ob : Nat → List Nat) (C : Nat) (hB : B ≤ 17592186044416) (hF : Mem w0 F) (hs : SlA F 6 a x.length cap (odl x)) (hg : Ent Tryz.prog g)
  (hone : ∀ k, k < x.length → One w0 G pw g caps (.agg (odl x k).toArray) (ob k) B) (hC : ∀ k, k < x.length → (ob k).length ≤ C) (H : St w0 (M ++ G) w) (hM : Wr M pw l) (hl : l.length + 10 + x.length * C ≤ B) :
  Calls Tryz.prog 97 [ptr pw, .slice a x.length cap, .func (.func g) #[] caps.toArray].toArray w (zf (WrR G pw (l ++ zAT x.length ob)) w0) := by
 obtain ⟨hnc, hcb, b0, off, cs, T, fr, hs⟩ := hs
 have h10 := zl (n := x.length) (by omega)
 refine enter [] Tryz.func97 rfl Tryz.ntmps97 rfl rfl ?_
 repeat' (first | refine y1 sg ?_ | refine y3 ?_ | (refine' y33 zB8 ?_ ?_; rotate_left 2; exact zBc x.length (by omega) (zBI (by omega)) H hM (by omega); rintro v N w ⟨rfl, M, rfl, hM⟩ H) | (with_reducible first | apply zB | apply zD | apply zC | apply zE) | refine zA ?_ | fail)
 refine zK [(7, 7), (15, 22)] (fun y : Nat × zI => [(15, .int .i64 (y.1 : Int))]) (fun y w => y.1 ≤ x.length ∧ St w0 (y.2 ++ G) w ∧ Wr y.2 pw (l ++ (short x.length ++ (List.range y.1).flatMap ob))) (fun y => x.length - y.1) (0, M) ⟨rfl, trivial⟩ ⟨Nat.zero_le _, H, by simpa using hM⟩ ?_
 clear H hM
 rintro ⟨k, M⟩ gh w ⟨hk, H, hM⟩
 simp only at hk H hM ⊢
 repeat' (first | refine y1 sg ?_ | (with_reducible first | apply zB | apply zD | apply zC) | refine zA ?_ | fail)
 refine zM rfl (fun h => ?_) (fun h => ?_)
 ·have hlt : k < x.length := by have := of_decide_eq_true h; omega
  clear h
  have hlen : (l ++ (short x.length ++ (List.range k).flatMap ob)).length ≤ B := by
   have h1 := zAQ (n := k) (ob := ob) (C := C) fun j hj => hC j (by omega)
   have h2 : k * C ≤ x.length * C := Nat.mul_le_mul_right _ hk
   rw [List.length_append, List.length_append]; omega
  repeat' (first | refine y1 sg ?_ | refine y3 ?_ | refine y7 sg H ?_ | (refine y10 sg H ?_; intro b w H) | (refine y11 sg H ?_; intro w H) | (refine y40 sg (hs) ?_ ?_ ?_; (omega); (omega)) | (refine y42 sg (hs) ((H.memF hF)) ?_ ?_; (omega)) | (refine zAL rfl rfl (zAH hg rfl rfl rfl) (hone k hlt M (_ :: G) _ _ (List.subset_cons_self _ _) (H.perm (zAJ M G)) hM hlen) ?_; rintro v N w ⟨rfl, M, rfl, hM⟩ H) | (with_reducible first | apply zB | apply zD | apply zC | apply zE | apply zG) | refine zA ?_ | fail)
  refine zJ (k + 1, M) rfl ⟨zT (by omega), trivial⟩ ⟨hlt, (H.perm (zAJ M G).symm).sub (List.sublist_cons_self _ _), ?_⟩ (by simp only; omega)
  rw [List.range_succ, List.flatMap_append, List.flatMap_singleton, ← List.append_assoc, ← List.append_assoc, List.append_assoc l]
  exact hM
 ·obtain rfl : k = x.length := by have := of_decide_eq_false h; omega
  repeat' (first | (with_reducible first | apply zL | apply zS) | refine y24 ?_ | fail)
  exact zu (vs := []) trivial H ⟨rfl, _, rfl, hM⟩
theorem zLr {w0 w : World} {M G F : zI} {pw : Nat} {l : List Nat} {a : Option Addr} {cap : Nat} (x : List Auc) (ad : Nat → Option Addr × Nat) {g : FuncId} {caps : List Value} {B : Nat} (ob : Nat → List Nat) (C : Nat) (hB : B ≤ 17592186044416) (hF : Mem w0 F) (hs : SlA F 9 a x.length cap (ael x ad)) (hg : Ent Tryz.prog g)
  (hone : ∀ k, k < x.length → One w0 G pw g caps (.agg (ael x ad k).toArray) (ob k) B) (hC : ∀ k, k < x.length → (ob k).length ≤ C) (H : St w0 (M ++ G) w) (hM : Wr M pw l) (hl : l.length + 10 + x.length * C ≤ B) :
  Calls Tryz.prog 100 [ptr pw, .slice a x.length cap, .func (.func g) #[] caps.toArray].toArray w (zf (WrR G pw (l ++ zAT x.length ob)) w0) := by
 obtain ⟨hnc, hcb, b0, off, cs, T, fr, hs⟩ := hs
 have h10 := zl (n := x.length) (by omega)
 refine enter [] Tryz.func100 rfl Tryz.ntmps100 rfl rfl ?_
 repeat' (first | refine y1 sg ?_ | refine y3 ?_ | (refine' y33 zB8 ?_ ?_; rotate_left 2; exact zBc x.length (by omega) (zBI (by omega)) H hM (by omega); rintro v N w ⟨rfl, M, rfl, hM⟩ H) | (with_reducible first | apply zB | apply zD | apply zC | apply zE) | refine zA ?_ | fail)
 refine zK [(7, 7), (15, 22)] (fun y : Nat × zI => [(15, .int .i64 (y.1 : Int))]) (fun y w => y.1 ≤ x.length ∧ St w0 (y.2 ++ G) w ∧ Wr y.2 pw (l ++ (short x.length ++ (List.range y.1).flatMap ob))) (fun y => x.length - y.1) (0, M) ⟨rfl, trivial⟩ ⟨Nat.zero_le _, H, by simpa using hM⟩ ?_
 clear H hM
 rintro ⟨k, M⟩ gh w ⟨hk, H, hM⟩
 simp only at hk H hM ⊢
 repeat' (first | refine y1 sg ?_ | (with_reducible first | apply zB | apply zD | apply zC) | refine zA ?_ | fail)
 refine zM rfl (fun h => ?_) (fun h => ?_)
 ·have hlt : k < x.length := by have := of_decide_eq_true h; omega
  clear h
  have hlen : (l ++ (short x.length ++ (List.range k).flatMap ob)).length ≤ B := by
   have h1 := zAQ (n := k) (ob := ob) (C := C) fun j hj => hC j (by omega)
   have h2 : k * C ≤ x.length * C := Nat.mul_le_mul_right _ hk
   rw [List.length_append, List.length_append]; omega
  repeat' (first | refine y1 sg ?_ | refine y3 ?_ | refine y7 sg H ?_ | (refine y10 sg H ?_; intro b w H) | (refine y11 sg H ?_; intro w H) | (refine y40 sg (hs) ?_ ?_ ?_; (omega); (omega)) | (refine y42 sg (hs) ((H.memF hF)) ?_ ?_; (omega)) | (refine zAL rfl rfl (zAH hg rfl rfl rfl) (hone k hlt M (_ :: G) _ _ (List.subset_cons_self _ _) (H.perm (zAJ M G)) hM hlen) ?_; rintro v N w ⟨rfl, M, rfl, hM⟩ H) | (with_reducible first | apply zB | apply zD | apply zC | apply zE | apply zG) | refine zA ?_ | fail)
  refine zJ (k + 1, M) rfl ⟨zT (by omega), trivial⟩ ⟨hlt, (H.perm (zAJ M G).symm).sub (List.sublist_cons_self _ _), ?_⟩ (by simp only; omega)
  rw [List.range_succ, List.flatMap_append, List.flatMap_singleton, ← List.append_assoc, ← List.append_assoc, List.append_assoc l]
  exact hM
 ·obtain rfl : k = x.length := by have := of_decide_eq_false h; omega
  repeat' (first | (with_reducible first | apply zL | apply zS) | refine y24 ?_ | fail)
  exact zu (vs := []) trivial H ⟨rfl, _, rfl, hM⟩
theorem zLs {w0 w : World} {M G F : zI} {pw : Nat} {l : List Nat} {a : Option Addr} {cap : Nat} (x : List Bid) {g : FuncId} {caps : List Value} {B : Nat} (ob : Nat → List Nat) (C : Nat) (hB : B ≤ 17592186044416) (hF : Mem w0 F) (hs : SlA F 2 a x.length cap (bel x)) (hg : Ent Tryz.prog g)
  (hone : ∀ k, k < x.length → One w0 G pw g caps (.agg (bel x k).toArray) (ob k) B) (hC : ∀ k, k < x.length → (ob k).length ≤ C) (H : St w0 (M ++ G) w) (hM : Wr M pw l) (hl : l.length + 10 + x.length * C ≤ B) :
  Calls Tryz.prog 102 [ptr pw, .slice a x.length cap, .func (.func g) #[] caps.toArray].toArray w (zf (WrR G pw (l ++ zAT x.length ob)) w0) := by
 obtain ⟨hnc, hcb, b0, off, cs, T, fr, hs⟩ := hs
 have h10 := zl (n := x.length) (by omega)
 refine enter [] Tryz.func102 rfl Tryz.ntmps102 rfl rfl ?_
 repeat' (first | refine y1 sg ?_ | refine y3 ?_ | (refine' y33 zB8 ?_ ?_; rotate_left 2; exact zBc x.length (by omega) (zBI (by omega)) H hM (by omega); rintro v N w ⟨rfl, M, rfl, hM⟩ H) | (with_reducible first | apply zB | apply zD | apply zC | apply zE) | refine zA ?_ | fail)
 refine zK [(7, 7), (15, 22)] (fun y : Nat × zI => [(15, .int .i64 (y.1 : Int))]) (fun y w => y.1 ≤ x.length ∧ St w0 (y.2 ++ G) w ∧ Wr y.2 pw (l ++ (short x.length ++ (List.range y.1).flatMap ob))) (fun y => x.length - y.1) (0, M) ⟨rfl, trivial⟩ ⟨Nat.zero_le _, H, by simpa using hM⟩ ?_
 clear H hM
 rintro ⟨k, M⟩ gh w ⟨hk, H, hM⟩
 simp only at hk H hM ⊢
 repeat' (first | refine y1 sg ?_ | (with_reducible first | apply zB | apply zD | apply zC) | refine zA ?_ | fail)
 refine zM rfl (fun h => ?_) (fun h => ?_)
 ·have hlt : k < x.length := by have := of_decide_eq_true h; omega
  clear h
  have hlen : (l ++ (short x.length ++ (List.range k).flatMap ob)).length ≤ B := by
   have h1 := zAQ (n := k) (ob := ob) (C := C) fun j hj => hC j (by omega)
   have h2 : k * C ≤ x.length * C := Nat.mul_le_mul_right _ hk
   rw [List.length_append, List.length_append]; omega
  repeat' (first | refine y1 sg ?_ | refine y3 ?_ | refine y7 sg H ?_ | (refine y10 sg H ?_; intro b w H) | (refine y11 sg H ?_; intro w H) | (refine y40 sg (hs) ?_ ?_ ?_; (omega); (omega)) | (refine y42 sg (hs) ((H.memF hF)) ?_ ?_; (omega)) | (refine zAL rfl rfl (zAH hg rfl rfl rfl) (hone k hlt M (_ :: G) _ _ (List.subset_cons_self _ _) (H.perm (zAJ M G)) hM hlen) ?_; rintro v N w ⟨rfl, M, rfl, hM⟩ H) | (with_reducible first | apply zB | apply zD | apply zC | apply zE | apply zG) | refine zA ?_ | fail)
  refine zJ (k + 1, M) rfl ⟨zT (by omega), trivial⟩ ⟨hlt, (H.perm (zAJ M G).symm).sub (List.sublist_cons_self _ _), ?_⟩ (by simp only; omega)
  rw [List.range_succ, List.flatMap_append, List.flatMap_singleton, ← List.append_assoc, ← List.append_assoc, List.append_assoc l]
  exact hM
 ·obtain rfl : k = x.length := by have := of_decide_eq_false h; omega
  repeat' (first | (with_reducible first | apply zL | apply zS) | refine y24 ?_ | fail)
  exact zu (vs := []) trivial H ⟨rfl, _, rfl, hM⟩
theorem zLt {w0 w : World} {M G F : zI} {pw : Nat} {l : List Nat} {a : Option Addr} {cap : Nat} (x : List Opn) {g : FuncId} {caps : List Value} {B : Nat} (ob : Nat → List Nat) (C : Nat) (hB : B ≤ 17592186044416) (hF : Mem w0 F) (hs : SlA F 6 a x.length cap (opl x)) (hg : Ent Tryz.prog g)
  (hone : ∀ k, k < x.length → One w0 G pw g caps (.agg (opl x k).toArray) (ob k) B) (hC : ∀ k, k < x.length → (ob k).length ≤ C) (H : St w0 (M ++ G) w) (hM : Wr M pw l) (hl : l.length + 10 + x.length * C ≤ B) :
  Calls Tryz.prog 104 [ptr pw, .slice a x.length cap, .func (.func g) #[] caps.toArray].toArray w (zf (WrR G pw (l ++ zAT x.length ob)) w0) := by
 obtain ⟨hnc, hcb, b0, off, cs, T, fr, hs⟩ := hs
 have h10 := zl (n := x.length) (by omega)
 refine enter [] Tryz.func104 rfl Tryz.ntmps104 rfl rfl ?_
 repeat' (first | refine y1 sg ?_ | refine y3 ?_ | (refine' y33 zB8 ?_ ?_; rotate_left 2; exact zBc x.length (by omega) (zBI (by omega)) H hM (by omega); rintro v N w ⟨rfl, M, rfl, hM⟩ H) | (with_reducible first | apply zB | apply zD | apply zC | apply zE) | refine zA ?_ | fail)
 refine zK [(7, 7), (15, 22)] (fun y : Nat × zI => [(15, .int .i64 (y.1 : Int))]) (fun y w => y.1 ≤ x.length ∧ St w0 (y.2 ++ G) w ∧ Wr y.2 pw (l ++ (short x.length ++ (List.range y.1).flatMap ob))) (fun y => x.length - y.1) (0, M) ⟨rfl, trivial⟩ ⟨Nat.zero_le _, H, by simpa using hM⟩ ?_
 clear H hM
 rintro ⟨k, M⟩ gh w ⟨hk, H, hM⟩
 simp only at hk H hM ⊢
 repeat' (first | refine y1 sg ?_ | (with_reducible first | apply zB | apply zD | apply zC) | refine zA ?_ | fail)
 refine zM rfl (fun h => ?_) (fun h => ?_)
 ·have hlt : k < x.length := by have := of_decide_eq_true h; omega
  clear h
  have hlen : (l ++ (short x.length ++ (List.range k).flatMap ob)).length ≤ B := by
   have h1 := zAQ (n := k) (ob := ob) (C := C) fun j hj => hC j (by omega)
   have h2 : k * C ≤ x.length * C := Nat.mul_le_mul_right _ hk
   rw [List.length_append, List.length_append]; omega
  repeat' (first | refine y1 sg ?_ | refine y3 ?_ | refine y7 sg H ?_ | (refine y10 sg H ?_; intro b w H) | (refine y11 sg H ?_; intro w H) | (refine y40 sg (hs) ?_ ?_ ?_; (omega); (omega)) | (refine y42 sg (hs) ((H.memF hF)) ?_ ?_; (omega)) | (refine zAL rfl rfl (zAH hg rfl rfl rfl) (hone k hlt M (_ :: G) _ _ (List.subset_cons_self _ _) (H.perm (zAJ M G)) hM hlen) ?_; rintro v N w ⟨rfl, M, rfl, hM⟩ H) | (with_reducible first | apply zB | apply zD | apply zC | apply zE | apply zG) | refine zA ?_ | fail)
  refine zJ (k + 1, M) rfl ⟨zT (by omega), trivial⟩ ⟨hlt, (H.perm (zAJ M G).symm).sub (List.sublist_cons_self _ _), ?_⟩ (by simp only; omega)
  rw [List.range_succ, List.flatMap_append, List.flatMap_singleton, ← List.append_assoc, ← List.append_assoc, List.append_assoc l]
  exact hM
 ·obtain rfl : k = x.length := by have := of_decide_eq_false h; omega
  repeat' (first | (with_reducible first | apply zL | apply zS) | refine y24 ?_ | fail)
  exact zu (vs := []) trivial H ⟨rfl, _, rfl, hM⟩
theorem zLu {w0 w : World} {M G F : zI} {pw : Nat} {l : List Nat} {a : Option Addr} {cap : Nat} (x : List Lt) {g : FuncId} {caps : List Value} {B : Nat} (ob : Nat → List Nat) (C : Nat) (hB : B ≤ 17592186044416) (hF : Mem w0 F) (hs : SlA F 4 a x.length cap (ltl x)) (hg : Ent Tryz.prog g)
  (hone : ∀ k, k < x.length → One w0 G pw g caps (.agg (ltl x k).toArray) (ob k) B) (hC : ∀ k, k < x.length → (ob k).length ≤ C) (H : St w0 (M ++ G) w) (hM : Wr M pw l) (hl : l.length + 10 + x.length * C ≤ B) :
  Calls Tryz.prog 106 [ptr pw, .slice a x.length cap, .func (.func g) #[] caps.toArray].toArray w (zf (WrR G pw (l ++ zAT x.length ob)) w0) := by
 obtain ⟨hnc, hcb, b0, off, cs, T, fr, hs⟩ := hs
 have h10 := zl (n := x.length) (by omega)
 refine enter [] Tryz.func106 rfl Tryz.ntmps106 rfl rfl ?_
 repeat' (first | refine y1 sg ?_ | refine y3 ?_ | (refine' y33 zB8 ?_ ?_; rotate_left 2; exact zBc x.length (by omega) (zBI (by omega)) H hM (by omega); rintro v N w ⟨rfl, M, rfl, hM⟩ H) | (with_reducible first | apply zB | apply zD | apply zC | apply zE) | refine zA ?_ | fail)
 refine zK [(7, 7), (15, 22)] (fun y : Nat × zI => [(15, .int .i64 (y.1 : Int))]) (fun y w => y.1 ≤ x.length ∧ St w0 (y.2 ++ G) w ∧ Wr y.2 pw (l ++ (short x.length ++ (List.range y.1).flatMap ob))) (fun y => x.length - y.1) (0, M) ⟨rfl, trivial⟩ ⟨Nat.zero_le _, H, by simpa using hM⟩ ?_
 clear H hM
 rintro ⟨k, M⟩ gh w ⟨hk, H, hM⟩
 simp only at hk H hM ⊢
 repeat' (first | refine y1 sg ?_ | (with_reducible first | apply zB | apply zD | apply zC) | refine zA ?_ | fail)
 refine zM rfl (fun h => ?_) (fun h => ?_)
 ·have hlt : k < x.length := by have := of_decide_eq_true h; omega
  clear h
  have hlen : (l ++ (short x.length ++ (List.range k).flatMap ob)).length ≤ B := by
   have h1 := zAQ (n := k) (ob := ob) (C := C) fun j hj => hC j (by omega)
   have h2 : k * C ≤ x.length * C := Nat.mul_le_mul_right _ hk
   rw [List.length_append, List.length_append]; omega
  repeat' (first | refine y1 sg ?_ | refine y3 ?_ | refine y7 sg H ?_ | (refine y10 sg H ?_; intro b w H) | (refine y11 sg H ?_; intro w H) | (refine y40 sg (hs) ?_ ?_ ?_; (omega); (omega)) | (refine y42 sg (hs) ((H.memF hF)) ?_ ?_; (omega)) | (refine zAL rfl rfl (zAH hg rfl rfl rfl) (hone k hlt M (_ :: G) _ _ (List.subset_cons_self _ _) (H.perm (zAJ M G)) hM hlen) ?_; rintro v N w ⟨rfl, M, rfl, hM⟩ H) | (with_reducible first | apply zB | apply zD | apply zC | apply zE | apply zG) | refine zA ?_ | fail)
  refine zJ (k + 1, M) rfl ⟨zT (by omega), trivial⟩ ⟨hlt, (H.perm (zAJ M G).symm).sub (List.sublist_cons_self _ _), ?_⟩ (by simp only; omega)
  rw [List.range_succ, List.flatMap_append, List.flatMap_singleton, ← List.append_assoc, ← List.append_assoc, List.append_assoc l]
  exact hM
 ·obtain rfl : k = x.length := by have := of_decide_eq_false h; omega
  repeat' (first | (with_reducible first | apply zL | apply zS) | refine y24 ?_ | fail)
  exact zu (vs := []) trivial H ⟨rfl, _, rfl, hM⟩
theorem zLv {w0 w : World} {M G F : zI} {pw : Nat} {l : List Nat} {a : Option Addr} {cap : Nat} (x : List Psn) {g : FuncId} {caps : List Value} {B : Nat} (ob : Nat → List Nat) (C : Nat) (hB : B ≤ 17592186044416) (hF : Mem w0 F) (hs : SlA F 6 a x.length cap (psl x)) (hg : Ent Tryz.prog g)
  (hone : ∀ k, k < x.length → One w0 G pw g caps (.agg (psl x k).toArray) (ob k) B) (hC : ∀ k, k < x.length → (ob k).length ≤ C) (H : St w0 (M ++ G) w) (hM : Wr M pw l) (hl : l.length + 10 + x.length * C ≤ B) :
  Calls Tryz.prog 108 [ptr pw, .slice a x.length cap, .func (.func g) #[] caps.toArray].toArray w (zf (WrR G pw (l ++ zAT x.length ob)) w0) := by
 obtain ⟨hnc, hcb, b0, off, cs, T, fr, hs⟩ := hs
 have h10 := zl (n := x.length) (by omega)
 refine enter [] Tryz.func108 rfl Tryz.ntmps108 rfl rfl ?_
 repeat' (first | refine y1 sg ?_ | refine y3 ?_ | (refine' y33 zB8 ?_ ?_; rotate_left 2; exact zBc x.length (by omega) (zBI (by omega)) H hM (by omega); rintro v N w ⟨rfl, M, rfl, hM⟩ H) | (with_reducible first | apply zB | apply zD | apply zC | apply zE) | refine zA ?_ | fail)
 refine zK [(7, 7), (15, 22)] (fun y : Nat × zI => [(15, .int .i64 (y.1 : Int))]) (fun y w => y.1 ≤ x.length ∧ St w0 (y.2 ++ G) w ∧ Wr y.2 pw (l ++ (short x.length ++ (List.range y.1).flatMap ob))) (fun y => x.length - y.1) (0, M) ⟨rfl, trivial⟩ ⟨Nat.zero_le _, H, by simpa using hM⟩ ?_
 clear H hM
 rintro ⟨k, M⟩ gh w ⟨hk, H, hM⟩
 simp only at hk H hM ⊢
 repeat' (first | refine y1 sg ?_ | (with_reducible first | apply zB | apply zD | apply zC) | refine zA ?_ | fail)
 refine zM rfl (fun h => ?_) (fun h => ?_)
 ·have hlt : k < x.length := by have := of_decide_eq_true h; omega
  clear h
  have hlen : (l ++ (short x.length ++ (List.range k).flatMap ob)).length ≤ B := by
   have h1 := zAQ (n := k) (ob := ob) (C := C) fun j hj => hC j (by omega)
   have h2 : k * C ≤ x.length * C := Nat.mul_le_mul_right _ hk
   rw [List.length_append, List.length_append]; omega
  repeat' (first | refine y1 sg ?_ | refine y3 ?_ | refine y7 sg H ?_ | (refine y10 sg H ?_; intro b w H) | (refine y11 sg H ?_; intro w H) | (refine y40 sg (hs) ?_ ?_ ?_; (omega); (omega)) | (refine y42 sg (hs) ((H.memF hF)) ?_ ?_; (omega)) | (refine zAL rfl rfl (zAH hg rfl rfl rfl) (hone k hlt M (_ :: G) _ _ (List.subset_cons_self _ _) (H.perm (zAJ M G)) hM hlen) ?_; rintro v N w ⟨rfl, M, rfl, hM⟩ H) | (with_reducible first | apply zB | apply zD | apply zC | apply zE | apply zG) | refine zA ?_ | fail)
  refine zJ (k + 1, M) rfl ⟨zT (by omega), trivial⟩ ⟨hlt, (H.perm (zAJ M G).symm).sub (List.sublist_cons_self _ _), ?_⟩ (by simp only; omega)
  rw [List.range_succ, List.flatMap_append, List.flatMap_singleton, ← List.append_assoc, ← List.append_assoc, List.append_assoc l]
  exact hM
 ·obtain rfl : k = x.length := by have := of_decide_eq_false h; omega
  repeat' (first | (with_reducible first | apply zL | apply zS) | refine y24 ?_ | fail)
  exact zu (vs := []) trivial H ⟨rfl, _, rfl, hM⟩
theorem zLw {w0 w : World} {M G F : zI} {pw : Nat} {l : List Nat} {a : Option Addr} {cap : Nat} (x : List Ln) {g : FuncId} {caps : List Value} {B : Nat} (ob : Nat → List Nat) (C : Nat) (hB : B ≤ 17592186044416) (hF : Mem w0 F) (hs : SlA F 5 a x.length cap (lnl x)) (hg : Ent Tryz.prog g)
  (hone : ∀ k, k < x.length → One w0 G pw g caps (.agg (lnl x k).toArray) (ob k) B) (hC : ∀ k, k < x.length → (ob k).length ≤ C) (H : St w0 (M ++ G) w) (hM : Wr M pw l) (hl : l.length + 10 + x.length * C ≤ B) :
  Calls Tryz.prog 110 [ptr pw, .slice a x.length cap, .func (.func g) #[] caps.toArray].toArray w (zf (WrR G pw (l ++ zAT x.length ob)) w0) := by
 obtain ⟨hnc, hcb, b0, off, cs, T, fr, hs⟩ := hs
 have h10 := zl (n := x.length) (by omega)
 refine enter [] Tryz.func110 rfl Tryz.ntmps110 rfl rfl ?_
 repeat' (first | refine y1 sg ?_ | refine y3 ?_ | (refine' y33 zB8 ?_ ?_; rotate_left 2; exact zBc x.length (by omega) (zBI (by omega)) H hM (by omega); rintro v N w ⟨rfl, M, rfl, hM⟩ H) | (with_reducible first | apply zB | apply zD | apply zC | apply zE) | refine zA ?_ | fail)
 refine zK [(7, 7), (15, 22)] (fun y : Nat × zI => [(15, .int .i64 (y.1 : Int))]) (fun y w => y.1 ≤ x.length ∧ St w0 (y.2 ++ G) w ∧ Wr y.2 pw (l ++ (short x.length ++ (List.range y.1).flatMap ob))) (fun y => x.length - y.1) (0, M) ⟨rfl, trivial⟩ ⟨Nat.zero_le _, H, by simpa using hM⟩ ?_
 clear H hM
 rintro ⟨k, M⟩ gh w ⟨hk, H, hM⟩
 simp only at hk H hM ⊢
 repeat' (first | refine y1 sg ?_ | (with_reducible first | apply zB | apply zD | apply zC) | refine zA ?_ | fail)
 refine zM rfl (fun h => ?_) (fun h => ?_)
 ·have hlt : k < x.length := by have := of_decide_eq_true h; omega
  clear h
  have hlen : (l ++ (short x.length ++ (List.range k).flatMap ob)).length ≤ B := by
   have h1 := zAQ (n := k) (ob := ob) (C := C) fun j hj => hC j (by omega)
   have h2 : k * C ≤ x.length * C := Nat.mul_le_mul_right _ hk
   rw [List.length_append, List.length_append]; omega
  repeat' (first | refine y1 sg ?_ | refine y3 ?_ | refine y7 sg H ?_ | (refine y10 sg H ?_; intro b w H) | (refine y11 sg H ?_; intro w H) | (refine y40 sg (hs) ?_ ?_ ?_; (omega); (omega)) | (refine y42 sg (hs) ((H.memF hF)) ?_ ?_; (omega)) | (refine zAL rfl rfl (zAH hg rfl rfl rfl) (hone k hlt M (_ :: G) _ _ (List.subset_cons_self _ _) (H.perm (zAJ M G)) hM hlen) ?_; rintro v N w ⟨rfl, M, rfl, hM⟩ H) | (with_reducible first | apply zB | apply zD | apply zC | apply zE | apply zG) | refine zA ?_ | fail)
  refine zJ (k + 1, M) rfl ⟨zT (by omega), trivial⟩ ⟨hlt, (H.perm (zAJ M G).symm).sub (List.sublist_cons_self _ _), ?_⟩ (by simp only; omega)
  rw [List.range_succ, List.flatMap_append, List.flatMap_singleton, ← List.append_assoc, ← List.append_assoc, List.append_assoc l]
  exact hM
 ·obtain rfl : k = x.length := by have := of_decide_eq_false h; omega
  repeat' (first | (with_reducible first | apply zL | apply zS) | refine y24 ?_ | fail)
  exact zu (vs := []) trivial H ⟨rfl, _, rfl, hM⟩
end Go.Proofs.YtggolnppckpdlaaGreat
