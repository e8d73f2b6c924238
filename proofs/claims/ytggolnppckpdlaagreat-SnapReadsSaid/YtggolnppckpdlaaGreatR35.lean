/- Texts of ours, joined: the steps of the proof, or the claim's theorem. -/
import Derived.Test.YtggolnppckpdlaaGreatR04
import Derived.Test.YtggolnppckpdlaaGreatR12
import Derived.Test.YtggolnppckpdlaaGreatR33
import Derived.Test.YtggolnppckpdlaaGreatR34
set_option linter.unusedSimpArgs false
set_option linter.unusedVariables false
namespace Go.Proofs.YtggolnppckpdlaaGreat
open Go Go.Sk Go.RowKit
attribute [local irreducible] Go.Calls
theorem zQa (a b : ByteArray) : (a.toList == b.toList) = true ↔ a = b := by
 rw [zD8, decide_eq_true_iff]
 exact ⟨zCt, fun h => by rw [h]⟩
theorem zCg (a b : ByteArray) : a.toList = b.toList ↔ a = b := by rw [← beq_iff_eq (a := a.toList), zQa]
theorem zAs {α : Type} [Inhabited α] {l l' : List α} (hlen : l.length = l'.length) (h : ∀ j, j < l.length → l.getD j default = l'.getD j default) : l = l' :=
 List.ext_getElem hlen fun j h1 h2 => by
  have := h j h1
  simpa [List.getD, h1, h2] using this
theorem zOT : Tryz.prog.stoodInHeld 70 = false := by kernel_rfl
theorem zOU : Tryz.prog.eqGuardType Tryz.prog.depth 70 = false := by kernel_rfl
theorem zFe (c d : Ac) : ((c.name.toList == d.name.toList) && ((c.opn == d.opn) && true)) = true ↔ c = d := by
 cases c; cases d
 simp only [Bool.and_eq_true, beq_iff_eq, zCg, and_true, Ac.mk.injEq]
theorem zJ3 {a a' : Option Addr} {cap cap' : Nat} (l l' : List Ac) {F : zI} (w0 : World) (hF : Mem w0 F) (hs : SlA F 2 a l.length cap (acl l)) (hs' : SlA F 2 a' l'.length cap' (acl l')) :
  Calls Tryz.prog 51 [.slice a l.length cap, .slice a' l'.length cap'].toArray w0 (Ret (.bool (@decide (l = l') (Classical.propDecidable _))) w0) := by
 obtain ⟨hn, hc, b, off, cs, T, fr, hs⟩ := hs
 obtain ⟨hn', hc', b', off', cs', T', fr', hs'⟩ := hs'
 refine enter [.tmp 4] Tryz.func51 rfl Tryz.ntmps51 rfl rfl ?_
 have H := zH w0
 repeat' (first | refine y1 sg ?_ | (with_reducible first | apply zB | apply zD | apply zC) | refine zA ?_ | fail)
 refine zM rfl (fun h => ?_) (fun h => ?_)
 ·repeat' (first | refine y1 sg ?_ | (with_reducible first | apply zB | apply zD | apply zC | apply zF | apply zO) | refine zA ?_ | fail)
  exact zQ rfl H.cl (by
   have : l ≠ l' := fun he => by subst he; simp at h
   simp [this])
 ·have hlen : l.length = l'.length := by simp at h; omega
  repeat' (first | refine y1 sg ?_ | (with_reducible first | apply zB | apply zD | apply zC | apply zE | apply zG) | refine zA ?_ | fail)
  refine zK [(4, 5), (13, 25)] (fun k : Nat => [(13, .int .i64 (k : Int))]) (fun k w => k ≤ l.length ∧ (∀ j, j < k → l.getD j default = l'.getD j default) ∧ St w0 [] w) (fun k => l.length - k) 0 ⟨rfl, trivial⟩ ⟨Nat.zero_le _, fun j hj => by omega, H⟩ ?_
  clear H
  rintro k g w ⟨hk, hpk, H⟩
  repeat' (first | refine y1 sg ?_ | (with_reducible first | apply zB | apply zD | apply zC) | refine zA ?_ | fail)
  refine zM rfl (fun h => ?_) (fun h => ?_)
  ·have hlt : k < l.length := by simpa using h
   repeat' (first | refine y1 sg ?_ | refine y2 sg ?_ | refine y4 ?_ | (refine y41 sg (hs) ?_ ?_ ?_; (omega); (omega)) | (refine y41 sg (hs') ?_ ?_ ?_; (omega); (omega)) | (refine y43 sg (hs) ((H.memF hF)) ?_ ?_; (omega)) | (refine y43 sg (hs') ((H.memF hF)) ?_ ?_; (omega)) | (refine zo rfl rfl (zAx sg (cs := (ac_ l k).cells) (ds := (ac_ l' k).cells) zOT zOU rfl rfl rfl rfl rfl rfl rfl) ?_) | (with_reducible first | apply zB | apply zD | apply zC | apply zE | apply zG) | (with_reducible apply zV; intro w hcl; replace H := H.ext hcl; clear hcl) | refine zA ?_ | refine y20 mixed ?_ | fail)
   refine zM rfl (fun h2 => ?_) (fun h2 => ?_)
   ·rw [Bool.not_eq_true'] at h2
    have hne := mt (zFe (ac_ l k) (ac_ l' k)).2 (by intro h3; exact absurd (h2.symm.trans h3) (by simp))
    repeat' (first | refine y1 sg ?_ | (with_reducible first | apply zB | apply zD | apply zC | apply zF | apply zO | apply zW) | refine zA ?_ | fail)
    exact zQ rfl H.cl (by
     have : l ≠ l' := fun he => by subst he; exact hne rfl
     simp [this])
   ·rw [Bool.not_eq_false'] at h2
    have heq : ac_ l k = ac_ l' k := (zFe _ _).1 h2
    repeat' (first | refine y1 sg ?_ | (with_reducible first | apply zB | apply zD | apply zG) | refine zA ?_ | fail)
    refine zJ (k + 1) rfl ⟨zT (by omega), trivial⟩ ⟨hlt, fun j hj => ?_, H⟩ (by omega)
    by_cases hj' : j = k
    ·rw [hj']; exact heq
    ·exact hpk j (by omega)
  ·repeat' (first | refine y1 sg ?_ | (with_reducible first | apply zB | apply zD | apply zC | apply zF | apply zL | apply zS) | refine zA ?_ | refine y24 ?_ | fail)
   have hkn : k = l.length := by simp at h; omega
   subst hkn
   exact zQ rfl H.cl (by
    have : l = l' := zAs hlen hpk
    simp [this])
theorem zOV : Tryz.prog.stoodInHeld 72 = false := by kernel_rfl
theorem zOW : Tryz.prog.eqGuardType Tryz.prog.depth 72 = false := by kernel_rfl
theorem zFf (c d : Ins) : ((c.name.toList == d.name.toList) && ((c.tick == d.tick) && ((c.halted == d.halted) && true))) = true ↔ c = d := by
 cases c; cases d
 simp only [Bool.and_eq_true, beq_iff_eq, zCg, and_true, Ins.mk.injEq]
theorem zJ4 {a a' : Option Addr} {cap cap' : Nat} (l l' : List Ins) {F : zI} (w0 : World) (hF : Mem w0 F) (hs : SlA F 3 a l.length cap (ing l)) (hs' : SlA F 3 a' l'.length cap' (ing l')) :
  Calls Tryz.prog 52 [.slice a l.length cap, .slice a' l'.length cap'].toArray w0 (Ret (.bool (@decide (l = l') (Classical.propDecidable _))) w0) := by
 obtain ⟨hn, hc, b, off, cs, T, fr, hs⟩ := hs
 obtain ⟨hn', hc', b', off', cs', T', fr', hs'⟩ := hs'
 refine enter [.tmp 4] Tryz.func52 rfl Tryz.ntmps52 rfl rfl ?_
 have H := zH w0
 repeat' (first | refine y1 sg ?_ | (with_reducible first | apply zB | apply zD | apply zC) | refine zA ?_ | fail)
 refine zM rfl (fun h => ?_) (fun h => ?_)
 ·repeat' (first | refine y1 sg ?_ | (with_reducible first | apply zB | apply zD | apply zC | apply zF | apply zO) | refine zA ?_ | fail)
  exact zQ rfl H.cl (by
   have : l ≠ l' := fun he => by subst he; simp at h
   simp [this])
 ·have hlen : l.length = l'.length := by simp at h; omega
  repeat' (first | refine y1 sg ?_ | (with_reducible first | apply zB | apply zD | apply zC | apply zE | apply zG) | refine zA ?_ | fail)
  refine zK [(4, 5), (13, 25)] (fun k : Nat => [(13, .int .i64 (k : Int))]) (fun k w => k ≤ l.length ∧ (∀ j, j < k → l.getD j default = l'.getD j default) ∧ St w0 [] w) (fun k => l.length - k) 0 ⟨rfl, trivial⟩ ⟨Nat.zero_le _, fun j hj => by omega, H⟩ ?_
  clear H
  rintro k g w ⟨hk, hpk, H⟩
  repeat' (first | refine y1 sg ?_ | (with_reducible first | apply zB | apply zD | apply zC) | refine zA ?_ | fail)
  refine zM rfl (fun h => ?_) (fun h => ?_)
  ·have hlt : k < l.length := by simpa using h
   repeat' (first | refine y1 sg ?_ | refine y2 sg ?_ | refine y4 ?_ | (refine y41 sg (hs) ?_ ?_ ?_; (omega); (omega)) | (refine y41 sg (hs') ?_ ?_ ?_; (omega); (omega)) | (refine y43 sg (hs) ((H.memF hF)) ?_ ?_; (omega)) | (refine y43 sg (hs') ((H.memF hF)) ?_ ?_; (omega)) | (refine zo rfl rfl (zAx sg (cs := (in_ l k).cells) (ds := (in_ l' k).cells) zOV zOW rfl rfl rfl rfl rfl rfl rfl) ?_) | (with_reducible first | apply zB | apply zD | apply zC | apply zE | apply zG) | (with_reducible apply zV; intro w hcl; replace H := H.ext hcl; clear hcl) | refine zA ?_ | refine y20 mixed ?_ | fail)
   refine zM rfl (fun h2 => ?_) (fun h2 => ?_)
   ·rw [Bool.not_eq_true'] at h2
    have hne := mt (zFf (in_ l k) (in_ l' k)).2 (by intro h3; exact absurd (h2.symm.trans h3) (by simp))
    repeat' (first | refine y1 sg ?_ | (with_reducible first | apply zB | apply zD | apply zC | apply zF | apply zO | apply zW) | refine zA ?_ | fail)
    exact zQ rfl H.cl (by
     have : l ≠ l' := fun he => by subst he; exact hne rfl
     simp [this])
   ·rw [Bool.not_eq_false'] at h2
    have heq : in_ l k = in_ l' k := (zFf _ _).1 h2
    repeat' (first | refine y1 sg ?_ | (with_reducible first | apply zB | apply zD | apply zG) | refine zA ?_ | fail)
    refine zJ (k + 1) rfl ⟨zT (by omega), trivial⟩ ⟨hlt, fun j hj => ?_, H⟩ (by omega)
    by_cases hj' : j = k
    ·rw [hj']; exact heq
    ·exact hpk j (by omega)
  ·repeat' (first | refine y1 sg ?_ | (with_reducible first | apply zB | apply zD | apply zC | apply zF | apply zL | apply zS) | refine zA ?_ | refine y24 ?_ | fail)
   have hkn : k = l.length := by simp at h; omega
   subst hkn
   exact zQ rfl H.cl (by
    have : l = l' := zAs hlen hpk
    simp [this])
theorem zOX : Tryz.prog.stoodInHeld 74 = false := by kernel_rfl
theorem zOY : Tryz.prog.eqGuardType Tryz.prog.depth 74 = false := by kernel_rfl
theorem zFg (c d : Row4) : ((c.acct == d.acct) && ((c.asset == d.asset) && ((c.free == d.free) && ((c.held == d.held) && true)))) = true ↔ c = d := by
 cases c; cases d
 simp only [Bool.and_eq_true, beq_iff_eq, zCg, and_true, Row4.mk.injEq]
theorem zJ5 {a a' : Option Addr} {cap cap' : Nat} (l l' : List Row4) {F : zI} (w0 : World) (hF : Mem w0 F) (hs : SlA F 4 a l.length cap (rwl l)) (hs' : SlA F 4 a' l'.length cap' (rwl l')) :
  Calls Tryz.prog 53 [.slice a l.length cap, .slice a' l'.length cap'].toArray w0 (Ret (.bool (@decide (l = l') (Classical.propDecidable _))) w0) := by
 obtain ⟨hn, hc, b, off, cs, T, fr, hs⟩ := hs
 obtain ⟨hn', hc', b', off', cs', T', fr', hs'⟩ := hs'
 refine enter [.tmp 4] Tryz.func53 rfl Tryz.ntmps53 rfl rfl ?_
 have H := zH w0
 repeat' (first | refine y1 sg ?_ | (with_reducible first | apply zB | apply zD | apply zC) | refine zA ?_ | fail)
 refine zM rfl (fun h => ?_) (fun h => ?_)
 ·repeat' (first | refine y1 sg ?_ | (with_reducible first | apply zB | apply zD | apply zC | apply zF | apply zO) | refine zA ?_ | fail)
  exact zQ rfl H.cl (by
   have : l ≠ l' := fun he => by subst he; simp at h
   simp [this])
 ·have hlen : l.length = l'.length := by simp at h; omega
  repeat' (first | refine y1 sg ?_ | (with_reducible first | apply zB | apply zD | apply zC | apply zE | apply zG) | refine zA ?_ | fail)
  refine zK [(4, 5), (13, 25)] (fun k : Nat => [(13, .int .i64 (k : Int))]) (fun k w => k ≤ l.length ∧ (∀ j, j < k → l.getD j default = l'.getD j default) ∧ St w0 [] w) (fun k => l.length - k) 0 ⟨rfl, trivial⟩ ⟨Nat.zero_le _, fun j hj => by omega, H⟩ ?_
  clear H
  rintro k g w ⟨hk, hpk, H⟩
  repeat' (first | refine y1 sg ?_ | (with_reducible first | apply zB | apply zD | apply zC) | refine zA ?_ | fail)
  refine zM rfl (fun h => ?_) (fun h => ?_)
  ·have hlt : k < l.length := by simpa using h
   repeat' (first | refine y1 sg ?_ | refine y2 sg ?_ | refine y4 ?_ | (refine y41 sg (hs) ?_ ?_ ?_; (omega); (omega)) | (refine y41 sg (hs') ?_ ?_ ?_; (omega); (omega)) | (refine y43 sg (hs) ((H.memF hF)) ?_ ?_; (omega)) | (refine y43 sg (hs') ((H.memF hF)) ?_ ?_; (omega)) | (refine zo rfl rfl (zAx sg (cs := (rw_ l k).cells) (ds := (rw_ l' k).cells) zOX zOY rfl rfl rfl rfl rfl rfl rfl) ?_) | (with_reducible first | apply zB | apply zD | apply zC | apply zE | apply zG) | (with_reducible apply zV; intro w hcl; replace H := H.ext hcl; clear hcl) | refine zA ?_ | refine y20 mixed ?_ | fail)
   refine zM rfl (fun h2 => ?_) (fun h2 => ?_)
   ·rw [Bool.not_eq_true'] at h2
    have hne := mt (zFg (rw_ l k) (rw_ l' k)).2 (by intro h3; exact absurd (h2.symm.trans h3) (by simp))
    repeat' (first | refine y1 sg ?_ | (with_reducible first | apply zB | apply zD | apply zC | apply zF | apply zO | apply zW) | refine zA ?_ | fail)
    exact zQ rfl H.cl (by
     have : l ≠ l' := fun he => by subst he; exact hne rfl
     simp [this])
   ·rw [Bool.not_eq_false'] at h2
    have heq : rw_ l k = rw_ l' k := (zFg _ _).1 h2
    repeat' (first | refine y1 sg ?_ | (with_reducible first | apply zB | apply zD | apply zG) | refine zA ?_ | fail)
    refine zJ (k + 1) rfl ⟨zT (by omega), trivial⟩ ⟨hlt, fun j hj => ?_, H⟩ (by omega)
    by_cases hj' : j = k
    ·rw [hj']; exact heq
    ·exact hpk j (by omega)
  ·repeat' (first | refine y1 sg ?_ | (with_reducible first | apply zB | apply zD | apply zC | apply zF | apply zL | apply zS) | refine zA ?_ | refine y24 ?_ | fail)
   have hkn : k = l.length := by simp at h; omega
   subst hkn
   exact zQ rfl H.cl (by
    have : l = l' := zAs hlen hpk
    simp [this])
theorem zOZ : Tryz.prog.stoodInHeld 76 = false := by kernel_rfl
theorem zOa : Tryz.prog.eqGuardType Tryz.prog.depth 76 = false := by kernel_rfl
theorem zFh (c d : Odr) : ((c.id == d.id) && ((c.acct == d.acct) && ((c.inst == d.inst) && ((c.side == d.side) && ((c.price == d.price) && ((c.left == d.left) && true)))))) = true ↔ c = d := by
 cases c; cases d
 simp only [Bool.and_eq_true, beq_iff_eq, zCg, and_true, Odr.mk.injEq]
theorem zJ6 {a a' : Option Addr} {cap cap' : Nat} (l l' : List Odr) {F : zI} (w0 : World) (hF : Mem w0 F) (hs : SlA F 6 a l.length cap (odl l)) (hs' : SlA F 6 a' l'.length cap' (odl l')) :
  Calls Tryz.prog 54 [.slice a l.length cap, .slice a' l'.length cap'].toArray w0 (Ret (.bool (@decide (l = l') (Classical.propDecidable _))) w0) := by
 obtain ⟨hn, hc, b, off, cs, T, fr, hs⟩ := hs
 obtain ⟨hn', hc', b', off', cs', T', fr', hs'⟩ := hs'
 refine enter [.tmp 4] Tryz.func54 rfl Tryz.ntmps54 rfl rfl ?_
 have H := zH w0
 repeat' (first | refine y1 sg ?_ | (with_reducible first | apply zB | apply zD | apply zC) | refine zA ?_ | fail)
 refine zM rfl (fun h => ?_) (fun h => ?_)
 ·repeat' (first | refine y1 sg ?_ | (with_reducible first | apply zB | apply zD | apply zC | apply zF | apply zO) | refine zA ?_ | fail)
  exact zQ rfl H.cl (by
   have : l ≠ l' := fun he => by subst he; simp at h
   simp [this])
 ·have hlen : l.length = l'.length := by simp at h; omega
  repeat' (first | refine y1 sg ?_ | (with_reducible first | apply zB | apply zD | apply zC | apply zE | apply zG) | refine zA ?_ | fail)
  refine zK [(4, 5), (13, 25)] (fun k : Nat => [(13, .int .i64 (k : Int))]) (fun k w => k ≤ l.length ∧ (∀ j, j < k → l.getD j default = l'.getD j default) ∧ St w0 [] w) (fun k => l.length - k) 0 ⟨rfl, trivial⟩ ⟨Nat.zero_le _, fun j hj => by omega, H⟩ ?_
  clear H
  rintro k g w ⟨hk, hpk, H⟩
  repeat' (first | refine y1 sg ?_ | (with_reducible first | apply zB | apply zD | apply zC) | refine zA ?_ | fail)
  refine zM rfl (fun h => ?_) (fun h => ?_)
  ·have hlt : k < l.length := by simpa using h
   repeat' (first | refine y1 sg ?_ | refine y2 sg ?_ | refine y4 ?_ | (refine y41 sg (hs) ?_ ?_ ?_; (omega); (omega)) | (refine y41 sg (hs') ?_ ?_ ?_; (omega); (omega)) | (refine y43 sg (hs) ((H.memF hF)) ?_ ?_; (omega)) | (refine y43 sg (hs') ((H.memF hF)) ?_ ?_; (omega)) | (refine zo rfl rfl (zAx sg (cs := (od_ l k).cells) (ds := (od_ l' k).cells) zOZ zOa rfl rfl rfl rfl rfl rfl rfl) ?_) | (with_reducible first | apply zB | apply zD | apply zC | apply zE | apply zG) | (with_reducible apply zV; intro w hcl; replace H := H.ext hcl; clear hcl) | refine zA ?_ | refine y20 mixed ?_ | fail)
   refine zM rfl (fun h2 => ?_) (fun h2 => ?_)
   ·rw [Bool.not_eq_true'] at h2
    have hne := mt (zFh (od_ l k) (od_ l' k)).2 (by intro h3; exact absurd (h2.symm.trans h3) (by simp))
    repeat' (first | refine y1 sg ?_ | (with_reducible first | apply zB | apply zD | apply zC | apply zF | apply zO | apply zW) | refine zA ?_ | fail)
    exact zQ rfl H.cl (by
     have : l ≠ l' := fun he => by subst he; exact hne rfl
     simp [this])
   ·rw [Bool.not_eq_false'] at h2
    have heq : od_ l k = od_ l' k := (zFh _ _).1 h2
    repeat' (first | refine y1 sg ?_ | (with_reducible first | apply zB | apply zD | apply zG) | refine zA ?_ | fail)
    refine zJ (k + 1) rfl ⟨zT (by omega), trivial⟩ ⟨hlt, fun j hj => ?_, H⟩ (by omega)
    by_cases hj' : j = k
    ·rw [hj']; exact heq
    ·exact hpk j (by omega)
  ·repeat' (first | refine y1 sg ?_ | (with_reducible first | apply zB | apply zD | apply zC | apply zF | apply zL | apply zS) | refine zA ?_ | refine y24 ?_ | fail)
   have hkn : k = l.length := by simp at h; omega
   subst hkn
   exact zQ rfl H.cl (by
    have : l = l' := zAs hlen hpk
    simp [this])
theorem zOb : Tryz.prog.stoodInHeld 83 = false := by kernel_rfl
theorem zOc : Tryz.prog.eqGuardType Tryz.prog.depth 83 = false := by kernel_rfl
theorem zFi (c d : Opn) : ((c.acct == d.acct) && ((c.id == d.id) && ((c.inst == d.inst) && ((c.side == d.side) && ((c.price == d.price) && ((c.left == d.left) && true)))))) = true ↔ c = d := by
 cases c; cases d
 simp only [Bool.and_eq_true, beq_iff_eq, zCg, and_true, Opn.mk.injEq]
theorem zJ7 {a a' : Option Addr} {cap cap' : Nat} (l l' : List Opn) {F : zI} (w0 : World) (hF : Mem w0 F) (hs : SlA F 6 a l.length cap (opl l)) (hs' : SlA F 6 a' l'.length cap' (opl l')) :
  Calls Tryz.prog 57 [.slice a l.length cap, .slice a' l'.length cap'].toArray w0 (Ret (.bool (@decide (l = l') (Classical.propDecidable _))) w0) := by
 obtain ⟨hn, hc, b, off, cs, T, fr, hs⟩ := hs
 obtain ⟨hn', hc', b', off', cs', T', fr', hs'⟩ := hs'
 refine enter [.tmp 4] Tryz.func57 rfl Tryz.ntmps57 rfl rfl ?_
 have H := zH w0
 repeat' (first | refine y1 sg ?_ | (with_reducible first | apply zB | apply zD | apply zC) | refine zA ?_ | fail)
 refine zM rfl (fun h => ?_) (fun h => ?_)
 ·repeat' (first | refine y1 sg ?_ | (with_reducible first | apply zB | apply zD | apply zC | apply zF | apply zO) | refine zA ?_ | fail)
  exact zQ rfl H.cl (by
   have : l ≠ l' := fun he => by subst he; simp at h
   simp [this])
 ·have hlen : l.length = l'.length := by simp at h; omega
  repeat' (first | refine y1 sg ?_ | (with_reducible first | apply zB | apply zD | apply zC | apply zE | apply zG) | refine zA ?_ | fail)
  refine zK [(4, 5), (13, 25)] (fun k : Nat => [(13, .int .i64 (k : Int))]) (fun k w => k ≤ l.length ∧ (∀ j, j < k → l.getD j default = l'.getD j default) ∧ St w0 [] w) (fun k => l.length - k) 0 ⟨rfl, trivial⟩ ⟨Nat.zero_le _, fun j hj => by omega, H⟩ ?_
  clear H
  rintro k g w ⟨hk, hpk, H⟩
  repeat' (first | refine y1 sg ?_ | (with_reducible first | apply zB | apply zD | apply zC) | refine zA ?_ | fail)
  refine zM rfl (fun h => ?_) (fun h => ?_)
  ·have hlt : k < l.length := by simpa using h
   repeat' (first | refine y1 sg ?_ | refine y2 sg ?_ | refine y4 ?_ | (refine y41 sg (hs) ?_ ?_ ?_; (omega); (omega)) | (refine y41 sg (hs') ?_ ?_ ?_; (omega); (omega)) | (refine y43 sg (hs) ((H.memF hF)) ?_ ?_; (omega)) | (refine y43 sg (hs') ((H.memF hF)) ?_ ?_; (omega)) | (refine zo rfl rfl (zAx sg (cs := (op_ l k).cells) (ds := (op_ l' k).cells) zOb zOc rfl rfl rfl rfl rfl rfl rfl) ?_) | (with_reducible first | apply zB | apply zD | apply zC | apply zE | apply zG) | (with_reducible apply zV; intro w hcl; replace H := H.ext hcl; clear hcl) | refine zA ?_ | refine y20 mixed ?_ | fail)
   refine zM rfl (fun h2 => ?_) (fun h2 => ?_)
   ·rw [Bool.not_eq_true'] at h2
    have hne := mt (zFi (op_ l k) (op_ l' k)).2 (by intro h3; exact absurd (h2.symm.trans h3) (by simp))
    repeat' (first | refine y1 sg ?_ | (with_reducible first | apply zB | apply zD | apply zC | apply zF | apply zO | apply zW) | refine zA ?_ | fail)
    exact zQ rfl H.cl (by
     have : l ≠ l' := fun he => by subst he; exact hne rfl
     simp [this])
   ·rw [Bool.not_eq_false'] at h2
    have heq : op_ l k = op_ l' k := (zFi _ _).1 h2
    repeat' (first | refine y1 sg ?_ | (with_reducible first | apply zB | apply zD | apply zG) | refine zA ?_ | fail)
    refine zJ (k + 1) rfl ⟨zT (by omega), trivial⟩ ⟨hlt, fun j hj => ?_, H⟩ (by omega)
    by_cases hj' : j = k
    ·rw [hj']; exact heq
    ·exact hpk j (by omega)
  ·repeat' (first | refine y1 sg ?_ | (with_reducible first | apply zB | apply zD | apply zC | apply zF | apply zL | apply zS) | refine zA ?_ | refine y24 ?_ | fail)
   have hkn : k = l.length := by simp at h; omega
   subst hkn
   exact zQ rfl H.cl (by
    have : l = l' := zAs hlen hpk
    simp [this])
theorem zOd : Tryz.prog.stoodInHeld 85 = false := by kernel_rfl
theorem zOe : Tryz.prog.eqGuardType Tryz.prog.depth 85 = false := by kernel_rfl
theorem zFj (c d : Lt) : ((c.id == d.id) && ((c.seller == d.seller) && ((c.inst == d.inst) && ((c.qty == d.qty) && true)))) = true ↔ c = d := by
 cases c; cases d
 simp only [Bool.and_eq_true, beq_iff_eq, zCg, and_true, Lt.mk.injEq]
theorem zJ8 {a a' : Option Addr} {cap cap' : Nat} (l l' : List Lt) {F : zI} (w0 : World) (hF : Mem w0 F) (hs : SlA F 4 a l.length cap (ltl l)) (hs' : SlA F 4 a' l'.length cap' (ltl l')) :
  Calls Tryz.prog 58 [.slice a l.length cap, .slice a' l'.length cap'].toArray w0 (Ret (.bool (@decide (l = l') (Classical.propDecidable _))) w0) := by
 obtain ⟨hn, hc, b, off, cs, T, fr, hs⟩ := hs
 obtain ⟨hn', hc', b', off', cs', T', fr', hs'⟩ := hs'
 refine enter [.tmp 4] Tryz.func58 rfl Tryz.ntmps58 rfl rfl ?_
 have H := zH w0
 repeat' (first | refine y1 sg ?_ | (with_reducible first | apply zB | apply zD | apply zC) | refine zA ?_ | fail)
 refine zM rfl (fun h => ?_) (fun h => ?_)
 ·repeat' (first | refine y1 sg ?_ | (with_reducible first | apply zB | apply zD | apply zC | apply zF | apply zO) | refine zA ?_ | fail)
  exact zQ rfl H.cl (by
   have : l ≠ l' := fun he => by subst he; simp at h
   simp [this])
 ·have hlen : l.length = l'.length := by simp at h; omega
  repeat' (first | refine y1 sg ?_ | (with_reducible first | apply zB | apply zD | apply zC | apply zE | apply zG) | refine zA ?_ | fail)
  refine zK [(4, 5), (13, 25)] (fun k : Nat => [(13, .int .i64 (k : Int))]) (fun k w => k ≤ l.length ∧ (∀ j, j < k → l.getD j default = l'.getD j default) ∧ St w0 [] w) (fun k => l.length - k) 0 ⟨rfl, trivial⟩ ⟨Nat.zero_le _, fun j hj => by omega, H⟩ ?_
  clear H
  rintro k g w ⟨hk, hpk, H⟩
  repeat' (first | refine y1 sg ?_ | (with_reducible first | apply zB | apply zD | apply zC) | refine zA ?_ | fail)
  refine zM rfl (fun h => ?_) (fun h => ?_)
  ·have hlt : k < l.length := by simpa using h
   repeat' (first | refine y1 sg ?_ | refine y2 sg ?_ | refine y4 ?_ | (refine y41 sg (hs) ?_ ?_ ?_; (omega); (omega)) | (refine y41 sg (hs') ?_ ?_ ?_; (omega); (omega)) | (refine y43 sg (hs) ((H.memF hF)) ?_ ?_; (omega)) | (refine y43 sg (hs') ((H.memF hF)) ?_ ?_; (omega)) | (refine zo rfl rfl (zAx sg (cs := (lt_ l k).cells) (ds := (lt_ l' k).cells) zOd zOe rfl rfl rfl rfl rfl rfl rfl) ?_) | (with_reducible first | apply zB | apply zD | apply zC | apply zE | apply zG) | (with_reducible apply zV; intro w hcl; replace H := H.ext hcl; clear hcl) | refine zA ?_ | refine y20 mixed ?_ | fail)
   refine zM rfl (fun h2 => ?_) (fun h2 => ?_)
   ·rw [Bool.not_eq_true'] at h2
    have hne := mt (zFj (lt_ l k) (lt_ l' k)).2 (by intro h3; exact absurd (h2.symm.trans h3) (by simp))
    repeat' (first | refine y1 sg ?_ | (with_reducible first | apply zB | apply zD | apply zC | apply zF | apply zO | apply zW) | refine zA ?_ | fail)
    exact zQ rfl H.cl (by
     have : l ≠ l' := fun he => by subst he; exact hne rfl
     simp [this])
   ·rw [Bool.not_eq_false'] at h2
    have heq : lt_ l k = lt_ l' k := (zFj _ _).1 h2
    repeat' (first | refine y1 sg ?_ | (with_reducible first | apply zB | apply zD | apply zG) | refine zA ?_ | fail)
    refine zJ (k + 1) rfl ⟨zT (by omega), trivial⟩ ⟨hlt, fun j hj => ?_, H⟩ (by omega)
    by_cases hj' : j = k
    ·rw [hj']; exact heq
    ·exact hpk j (by omega)
  ·repeat' (first | refine y1 sg ?_ | (with_reducible first | apply zB | apply zD | apply zC | apply zF | apply zL | apply zS) | refine zA ?_ | refine y24 ?_ | fail)
   have hkn : k = l.length := by simp at h; omega
   subst hkn
   exact zQ rfl H.cl (by
    have : l = l' := zAs hlen hpk
    simp [this])
theorem zOf : Tryz.prog.stoodInHeld 87 = false := by kernel_rfl
theorem zOg : Tryz.prog.eqGuardType Tryz.prog.depth 87 = false := by kernel_rfl
theorem zFk (c d : Psn) : ((c.acct == d.acct) && ((c.inst == d.inst) && ((c.bought == d.bought) && ((c.sold == d.sold) && ((c.spent == d.spent) && ((c.got == d.got) && true)))))) = true ↔ c = d := by
 cases c; cases d
 simp only [Bool.and_eq_true, beq_iff_eq, zCg, and_true, Psn.mk.injEq]
theorem zJ9 {a a' : Option Addr} {cap cap' : Nat} (l l' : List Psn) {F : zI} (w0 : World) (hF : Mem w0 F) (hs : SlA F 6 a l.length cap (psl l)) (hs' : SlA F 6 a' l'.length cap' (psl l')) :
  Calls Tryz.prog 59 [.slice a l.length cap, .slice a' l'.length cap'].toArray w0 (Ret (.bool (@decide (l = l') (Classical.propDecidable _))) w0) := by
 obtain ⟨hn, hc, b, off, cs, T, fr, hs⟩ := hs
 obtain ⟨hn', hc', b', off', cs', T', fr', hs'⟩ := hs'
 refine enter [.tmp 4] Tryz.func59 rfl Tryz.ntmps59 rfl rfl ?_
 have H := zH w0
 repeat' (first | refine y1 sg ?_ | (with_reducible first | apply zB | apply zD | apply zC) | refine zA ?_ | fail)
 refine zM rfl (fun h => ?_) (fun h => ?_)
 ·repeat' (first | refine y1 sg ?_ | (with_reducible first | apply zB | apply zD | apply zC | apply zF | apply zO) | refine zA ?_ | fail)
  exact zQ rfl H.cl (by
   have : l ≠ l' := fun he => by subst he; simp at h
   simp [this])
 ·have hlen : l.length = l'.length := by simp at h; omega
  repeat' (first | refine y1 sg ?_ | (with_reducible first | apply zB | apply zD | apply zC | apply zE | apply zG) | refine zA ?_ | fail)
  refine zK [(4, 5), (13, 25)] (fun k : Nat => [(13, .int .i64 (k : Int))]) (fun k w => k ≤ l.length ∧ (∀ j, j < k → l.getD j default = l'.getD j default) ∧ St w0 [] w) (fun k => l.length - k) 0 ⟨rfl, trivial⟩ ⟨Nat.zero_le _, fun j hj => by omega, H⟩ ?_
  clear H
  rintro k g w ⟨hk, hpk, H⟩
  repeat' (first | refine y1 sg ?_ | (with_reducible first | apply zB | apply zD | apply zC) | refine zA ?_ | fail)
  refine zM rfl (fun h => ?_) (fun h => ?_)
  ·have hlt : k < l.length := by simpa using h
   repeat' (first | refine y1 sg ?_ | refine y2 sg ?_ | refine y4 ?_ | (refine y41 sg (hs) ?_ ?_ ?_; (omega); (omega)) | (refine y41 sg (hs') ?_ ?_ ?_; (omega); (omega)) | (refine y43 sg (hs) ((H.memF hF)) ?_ ?_; (omega)) | (refine y43 sg (hs') ((H.memF hF)) ?_ ?_; (omega)) | (refine zo rfl rfl (zAx sg (cs := (ps_ l k).cells) (ds := (ps_ l' k).cells) zOf zOg rfl rfl rfl rfl rfl rfl rfl) ?_) | (with_reducible first | apply zB | apply zD | apply zC | apply zE | apply zG) | (with_reducible apply zV; intro w hcl; replace H := H.ext hcl; clear hcl) | refine zA ?_ | refine y20 mixed ?_ | fail)
   refine zM rfl (fun h2 => ?_) (fun h2 => ?_)
   ·rw [Bool.not_eq_true'] at h2
    have hne := mt (zFk (ps_ l k) (ps_ l' k)).2 (by intro h3; exact absurd (h2.symm.trans h3) (by simp))
    repeat' (first | refine y1 sg ?_ | (with_reducible first | apply zB | apply zD | apply zC | apply zF | apply zO | apply zW) | refine zA ?_ | fail)
    exact zQ rfl H.cl (by
     have : l ≠ l' := fun he => by subst he; exact hne rfl
     simp [this])
   ·rw [Bool.not_eq_false'] at h2
    have heq : ps_ l k = ps_ l' k := (zFk _ _).1 h2
    repeat' (first | refine y1 sg ?_ | (with_reducible first | apply zB | apply zD | apply zG) | refine zA ?_ | fail)
    refine zJ (k + 1) rfl ⟨zT (by omega), trivial⟩ ⟨hlt, fun j hj => ?_, H⟩ (by omega)
    by_cases hj' : j = k
    ·rw [hj']; exact heq
    ·exact hpk j (by omega)
  ·repeat' (first | refine y1 sg ?_ | (with_reducible first | apply zB | apply zD | apply zC | apply zF | apply zL | apply zS) | refine zA ?_ | refine y24 ?_ | fail)
   have hkn : k = l.length := by simp at h; omega
   subst hkn
   exact zQ rfl H.cl (by
    have : l = l' := zAs hlen hpk
    simp [this])
theorem zOh : Tryz.prog.stoodInHeld 52 = false := by kernel_rfl
theorem zOi : Tryz.prog.eqGuardType Tryz.prog.depth 52 = false := by kernel_rfl
theorem zFl (c d : Ln) : ((c.acct == d.acct) && ((c.seq == d.seq) && ((c.kind == d.kind) && ((c.delta == d.delta) && ((c.bal == d.bal) && true))))) = true ↔ c = d := by
 cases c; cases d
 simp only [Bool.and_eq_true, beq_iff_eq, zCg, and_true, Ln.mk.injEq]
theorem zKA {a a' : Option Addr} {cap cap' : Nat} (l l' : List Ln) {F : zI} (w0 : World) (hF : Mem w0 F) (hs : SlA F 5 a l.length cap (lnl l)) (hs' : SlA F 5 a' l'.length cap' (lnl l')) :
  Calls Tryz.prog 60 [.slice a l.length cap, .slice a' l'.length cap'].toArray w0 (Ret (.bool (@decide (l = l') (Classical.propDecidable _))) w0) := by
 obtain ⟨hn, hc, b, off, cs, T, fr, hs⟩ := hs
 obtain ⟨hn', hc', b', off', cs', T', fr', hs'⟩ := hs'
 refine enter [.tmp 4] Tryz.func60 rfl Tryz.ntmps60 rfl rfl ?_
 have H := zH w0
 repeat' (first | refine y1 sg ?_ | (with_reducible first | apply zB | apply zD | apply zC) | refine zA ?_ | fail)
 refine zM rfl (fun h => ?_) (fun h => ?_)
 ·repeat' (first | refine y1 sg ?_ | (with_reducible first | apply zB | apply zD | apply zC | apply zF | apply zO) | refine zA ?_ | fail)
  exact zQ rfl H.cl (by
   have : l ≠ l' := fun he => by subst he; simp at h
   simp [this])
 ·have hlen : l.length = l'.length := by simp at h; omega
  repeat' (first | refine y1 sg ?_ | (with_reducible first | apply zB | apply zD | apply zC | apply zE | apply zG) | refine zA ?_ | fail)
  refine zK [(4, 5), (13, 25)] (fun k : Nat => [(13, .int .i64 (k : Int))]) (fun k w => k ≤ l.length ∧ (∀ j, j < k → l.getD j default = l'.getD j default) ∧ St w0 [] w) (fun k => l.length - k) 0 ⟨rfl, trivial⟩ ⟨Nat.zero_le _, fun j hj => by omega, H⟩ ?_
  clear H
  rintro k g w ⟨hk, hpk, H⟩
  repeat' (first | refine y1 sg ?_ | (with_reducible first | apply zB | apply zD | apply zC) | refine zA ?_ | fail)
  refine zM rfl (fun h => ?_) (fun h => ?_)
  ·have hlt : k < l.length := by simpa using h
   repeat' (first | refine y1 sg ?_ | refine y2 sg ?_ | refine y4 ?_ | (refine y41 sg (hs) ?_ ?_ ?_; (omega); (omega)) | (refine y41 sg (hs') ?_ ?_ ?_; (omega); (omega)) | (refine y43 sg (hs) ((H.memF hF)) ?_ ?_; (omega)) | (refine y43 sg (hs') ((H.memF hF)) ?_ ?_; (omega)) | (refine zo rfl rfl (zAx sg (cs := (ln_ l k).cells) (ds := (ln_ l' k).cells) zOh zOi rfl rfl rfl rfl rfl rfl rfl) ?_) | (with_reducible first | apply zB | apply zD | apply zC | apply zE | apply zG) | (with_reducible apply zV; intro w hcl; replace H := H.ext hcl; clear hcl) | refine zA ?_ | refine y20 mixed ?_ | fail)
   refine zM rfl (fun h2 => ?_) (fun h2 => ?_)
   ·rw [Bool.not_eq_true'] at h2
    have hne := mt (zFl (ln_ l k) (ln_ l' k)).2 (by intro h3; exact absurd (h2.symm.trans h3) (by simp))
    repeat' (first | refine y1 sg ?_ | (with_reducible first | apply zB | apply zD | apply zC | apply zF | apply zO | apply zW) | refine zA ?_ | fail)
    exact zQ rfl H.cl (by
     have : l ≠ l' := fun he => by subst he; exact hne rfl
     simp [this])
   ·rw [Bool.not_eq_false'] at h2
    have heq : ln_ l k = ln_ l' k := (zFl _ _).1 h2
    repeat' (first | refine y1 sg ?_ | (with_reducible first | apply zB | apply zD | apply zG) | refine zA ?_ | fail)
    refine zJ (k + 1) rfl ⟨zT (by omega), trivial⟩ ⟨hlt, fun j hj => ?_, H⟩ (by omega)
    by_cases hj' : j = k
    ·rw [hj']; exact heq
    ·exact hpk j (by omega)
  ·repeat' (first | refine y1 sg ?_ | (with_reducible first | apply zB | apply zD | apply zC | apply zF | apply zL | apply zS) | refine zA ?_ | refine y24 ?_ | fail)
   have hkn : k = l.length := by simp at h; omega
   subst hkn
   exact zQ rfl H.cl (by
    have : l = l' := zAs hlen hpk
    simp [this])
noncomputable def zAw {α : Type} (x y : α) : Bool := @decide (x = y) (Classical.propDecidable _)
theorem zn {α : Type} {x y : α} : zAw x y = true ↔ x = y := by unfold zAw; exact @decide_eq_true_iff _ (Classical.propDecidable _)
theorem zAl {α : Type} {x y : α} (h : x ≠ y) : zAw x y = false := by cases hb : zAw x y; rfl; exact absurd (zn.1 hb) h
theorem zE9 (x y : Auc) : zDV x y = true ↔ x = y := by
 cases x; cases y
 simp only [zDV, Bool.and_eq_true, beq_iff_eq, decide_eq_true_iff, Auc.mk.injEq, and_assoc]
theorem zKB {a a' : Option Addr} {cap cap' : Nat} (l l' : List Auc) {ad ad' : Nat → Option Addr × Nat} {F : zI} (w0 : World) (hF : Mem w0 F) (hs : Aucs F a cap l ad) (hs' : Aucs F a' cap' l' ad') :
  Calls Tryz.prog 55 [.slice a l.length cap, .slice a' l'.length cap', .func (.func 56) #[] #[]].toArray w0 (Ret (.bool (zAw l l')) w0) := by
 obtain ⟨⟨hn, hc, b, off, cs, T, fr, hs⟩, hb⟩ := hs
 obtain ⟨⟨hn', hc', b', off', cs', T', fr', hs'⟩, hb'⟩ := hs'
 refine enter [.tmp 6] Tryz.func55 rfl Tryz.ntmps55 rfl rfl ?_
 have H := zH w0
 repeat' (first | refine y1 sg ?_ | (with_reducible first | apply zB | apply zD | apply zC) | refine zA ?_ | fail)
 refine zM rfl (fun h => ?_) (fun h => ?_)
 ·repeat' (first | refine y1 sg ?_ | (with_reducible first | apply zB | apply zD | apply zC | apply zF | apply zO) | refine zA ?_ | fail)
  exact zQ rfl H.cl (by
   have : l ≠ l' := fun he => by subst he; simp at h
   rw [zAl this])
 ·have hlen : l.length = l'.length := by simp at h; omega
  repeat' (first | refine y1 sg ?_ | (with_reducible first | apply zB | apply zD | apply zC | apply zE | apply zG) | refine zA ?_ | fail)
  refine zK [(6, 9), (17, 31)] (fun k : Nat => [(17, .int .i64 (k : Int))]) (fun k w => k ≤ l.length ∧ (∀ j, j < k → l.getD j default = l'.getD j default) ∧ St w0 [] w) (fun k => l.length - k) 0 ⟨rfl, trivial⟩ ⟨Nat.zero_le _, fun j hj => by omega, H⟩ ?_
  clear H
  rintro k g w ⟨hk, hpk, H⟩
  repeat' (first | refine y1 sg ?_ | (with_reducible first | apply zB | apply zD | apply zC) | refine zA ?_ | fail)
  refine zM rfl (fun h => ?_) (fun h => ?_)
  ·have hlt : k < l.length := by simpa using h
   repeat' (first | refine y1 sg ?_ | refine y3 ?_ | refine y7 sg H ?_ | (refine y10 sg H ?_; intro b w H) | (refine y11 sg H ?_; intro w H) | (refine y40 sg (hs) ?_ ?_ ?_; (omega); (omega)) | (refine y40 sg (hs') ?_ ?_ ?_; (omega); (omega)) | (refine y42 sg (hs) ((H.memF hF)) ?_ ?_; (omega)) | (refine y42 sg (hs') ((H.memF hF)) ?_ ?_; (omega)) | (refine' y34 ent56 ?_ ?_; rotate_left; exact c_Same (l.getD k default) (l'.getD k default) _ (H.memF hF) (hb k hlt) (hb' k (by omega)); intro w hcl; replace H := H.ext hcl; clear hcl) | (with_reducible first | apply zB | apply zD | apply zC | apply zE | apply zG) | refine zA ?_ | fail)
   refine zM rfl (fun h2 => ?_) (fun h2 => ?_)
   ·have hne : l.getD k default ≠ l'.getD k default := fun he => by rw [(zE9 _ _).2 he] at h2; cases h2
    repeat' (first | refine y1 sg ?_ | (with_reducible first | apply zB | apply zD | apply zC | apply zF | apply zO | apply zW) | refine zA ?_ | fail)
    exact zQ rfl H.cl (by
     have : l ≠ l' := fun he => by subst he; exact hne rfl
     rw [zAl this])
   ·have heq := (zE9 (l.getD k default) (l'.getD k default)).1 (by simpa using h2)
    repeat' (first | refine y1 sg ?_ | (with_reducible first | apply zB | apply zD | apply zG) | refine zA ?_ | fail)
    refine zJ (k + 1) rfl ⟨zT (by omega), trivial⟩ ⟨hlt, fun j hj => ?_, (H.sub (List.sublist_cons_self _ _)).sub (List.sublist_cons_self _ _)⟩ (by omega)
    by_cases hj' : j = k
    ·rw [hj']; exact heq
    ·exact hpk j (by omega)
  ·repeat' (first | refine y1 sg ?_ | (with_reducible first | apply zB | apply zD | apply zC | apply zF | apply zL | apply zS) | refine zA ?_ | refine y24 ?_ | fail)
   have hkn : k = l.length := by simp at h; omega
   subst hkn
   exact zQ rfl H.cl (by
    have : l = l' := zAs hlen hpk
    rw [zn.2 this])
set_option maxHeartbeats 2000000 in
theorem zGU {F : zI} (s t : Sta) (p q : SPt) (w0 : World) (hF : Mem w0 F) (hs : StaM F s p) (ht : StaM F t q) :
  Calls Tryz.prog 13 [.agg (s.cells p).toArray, .agg (t.cells q).toArray].toArray w0 (Ret (.bool (zAw s t)) w0) := by
 have hq : zAw s t = (s.clock == t.clock && s.fee == t.fee && s.nextO == t.nextO && s.nextA == t.nextA && zAw s.accts t.accts && zAw s.insts t.insts && zAw s.rows t.rows && zAw s.orders t.orders && zAw s.aucs t.aucs) := by
  rw [Bool.eq_iff_iff, zn]
  cases s; cases t
  simp only [Bool.and_eq_true, beq_iff_eq, zn, Sta.mk.injEq, and_assoc]
 rw [hq]
 refine enter [.tmp 4] Tryz.func13 rfl Tryz.ntmps13 rfl rfl ?_
 have H := zH w0
 repeat' (first | refine y1 sg ?_ | refine y3 ?_ | refine y5 sg ?_ | refine y7 sg H ?_ | (refine y9 H ?_; intro b w H) | (refine' y30 ent51 ?_ ?_; rotate_left; exact zJ3 s.accts t.accts _ (H.memF hF) hs.ac ht.ac; intro w hcl; replace H := H.ext hcl; clear hcl) | (refine' y30 ent52 ?_ ?_; rotate_left; exact zJ4 s.insts t.insts _ (H.memF hF) hs.ins ht.ins; intro w hcl; replace H := H.ext hcl; clear hcl) | (refine' y30 ent53 ?_ ?_; rotate_left; exact zJ5 s.rows t.rows _ (H.memF hF) hs.rw ht.rw; intro w hcl; replace H := H.ext hcl; clear hcl) | (refine' y30 ent54 ?_ ?_; rotate_left; exact zJ6 s.orders t.orders _ (H.memF hF) hs.od ht.od; intro w hcl; replace H := H.ext hcl; clear hcl) | (refine' y30 ent55 ?_ ?_; rotate_left; exact zKB s.aucs t.aucs _ (H.memF hF) hs.au ht.au; intro w hcl; replace H := H.ext hcl; clear hcl) | refine y13 ?_ | refine y14 ?_ | (refine y17 ?_ ?_; all_goals intro h) | (with_reducible first | apply zB | apply zD | apply zC | apply zF) | refine zA ?_ | fail)
 all_goals exact zQ rfl H.cl (congrArg Value.bool (by unfold zAw at *; simp only [*, Bool.true_and, Bool.and_true, Bool.false_and, Bool.and_false]))
set_option maxHeartbeats 2000000 in
theorem zGV {F : zI} (s t : Vws) (p q : VPt) (w0 : World) (hF : Mem w0 F) (hs : VwM F s p) (ht : VwM F t q) :
  Calls Tryz.prog 14 [.agg (s.cells p).toArray, .agg (t.cells q).toArray].toArray w0 (Ret (.bool (zAw s t)) w0) := by
 have hq : zAw s t = (zAw s.opn t.opn && zAw s.lots t.lots && zAw s.poss t.poss && zAw s.lins t.lins) := by
  rw [Bool.eq_iff_iff, zn]
  cases s; cases t
  simp only [Bool.and_eq_true, beq_iff_eq, zn, Vws.mk.injEq, and_assoc]
 rw [hq]
 refine enter [.tmp 4] Tryz.func14 rfl Tryz.ntmps14 rfl rfl ?_
 have H := zH w0
 repeat' (first | refine y1 sg ?_ | refine y3 ?_ | refine y5 sg ?_ | refine y7 sg H ?_ | (refine y9 H ?_; intro b w H) | (refine' y30 ent57 ?_ ?_; rotate_left; exact zJ7 s.opn t.opn _ (H.memF hF) hs.op ht.op; intro w hcl; replace H := H.ext hcl; clear hcl) | (refine' y30 ent58 ?_ ?_; rotate_left; exact zJ8 s.lots t.lots _ (H.memF hF) hs.lt ht.lt; intro w hcl; replace H := H.ext hcl; clear hcl) | (refine' y30 ent59 ?_ ?_; rotate_left; exact zJ9 s.poss t.poss _ (H.memF hF) hs.ps ht.ps; intro w hcl; replace H := H.ext hcl; clear hcl) | (refine' y30 ent60 ?_ ?_; rotate_left; exact zKA s.lins t.lins _ (H.memF hF) hs.ln ht.ln; intro w hcl; replace H := H.ext hcl; clear hcl) | refine y13 ?_ | refine y14 ?_ | (refine y17 ?_ ?_; all_goals intro h) | (with_reducible first | apply zB | apply zD | apply zC | apply zF) | refine zA ?_ | fail)
 all_goals exact zQ rfl H.cl (congrArg Value.bool (by unfold zAw at *; simp only [*, Bool.true_and, Bool.and_true, Bool.false_and, Bool.and_false]))
end Go.Proofs.YtggolnppckpdlaaGreat
set_option linter.unusedSimpArgs false
set_option linter.unusedVariables false
namespace Go.Sk
open Go Go.RowKit
section
variable {P : Program} {n : Nw} {ops : Array Oper} {Q : zAX} {o : Oper} {rest : List Oper} {L : List (Nat × Value)} {b0 : Env} {w : World} (S : Sig P)
attribute [local semireducible] OX OW
theorem zQb (m : Nat) : madeCells #[Value.int .u8 0] m = (List.replicate m (Value.int .u8 0)).toArray := by
 apply Array.ext
 ·simp [size_madeCells]
 ·intro i h1 h2
  simp [madeCells, Nat.mod_one]
theorem OX.makeB {w0 : World} {G : zI} {t E : TypeId} {x y : Operand} {d m : Nat} {q : Int} {ti te : TI} (H : St w0 G w) (hq : q = (m : Int)) (hm : m ≤ 16777216) (ho : o.op = .makeSlice t x y) (hd : o.dst = some d) (hlt : Nat.blt d n.n = true)
  (hx : ev (ovl L b0) x = .int .i64 q) (hy : ev (ovl L b0) y = .int .i64 q) (ht : lk S.tab t = some ti) (htd : ti.d = .slice E) (he : lk S.tab E = some te) (hz : te.zero = [.int .u8 0]) (hsz : te.size = 1) (hby : te.bytes = 1)
  (k : ∀ b w', St w0 (cb b (List.replicate m (.int .u8 0)) E :: G) w' → OW P n ops Q rest (ovl ((d, .slice (some ⟨b, 0, none⟩) m m) :: L) b0) w') : OX P n ops Q o rest (ovl L b0) w := by
 subst hq
 intro a ha
 unfold Oper.wp
 rw [ha.eval]
 have h2 := (zD3 he S.ok).2
 obtain ⟨f, h3, h4⟩ := Option.map_eq_some_iff.1 h2
 simp only [Prod.mk.injEq] at h4
 obtain ⟨zv, hz1, hz2⟩ := Option.map_eq_some_iff.1 h4.2.1
 have hfs : f.size = 1 := by rw [h4.1, hsz]
 have hfb : f.bytes = 1 := by rw [h4.2.2, hby]
 have hr := run_make (P := P) w t E f zv (by rw [S.und ht, htd]) h3 hz1 .i64 .i64 (m : Int) (m : Int) (by omega) (by omega) (by rw [hfb]; omega) (by omega)
 rw [hz2, hz, hfs, zQb, Int.toNat_natCast, Nat.mul_one] at hr
 simp only [execOp, ho, hx, hy, Sem.run_bind, hr, Result.andThen_ok, Sem.run_pure, Oper.upon_value, hd]
 exact k _ _ (H.alloc _) _ (ha.put hlt _)
end
end Go.Sk
namespace Go.Proofs.YtggolnppckpdlaaGreat
open Go Go.Sk Go.RowKit
attribute [local irreducible] Go.Calls
def Sta.empty : Sta := ⟨0, 0, 1, 1, [], [], [], [], []⟩
theorem StaM.empty {F : zI} : StaM F Sta.empty SPt.zero := ⟨zDI, zDI, zDI, zDI, zDI, fun j hj => absurd hj (Nat.not_lt_zero _)⟩
theorem zLR (w : World) : Calls Tryz.prog 34 [].toArray w (Ret (.agg (Sta.empty.cells SPt.zero).toArray) w) := by
 refine enter [.cell 0 29] Tryz.func34 rfl Tryz.ntmps34 rfl rfl ?_
 have H := zH w
 repeat' (first | refine y1 sg ?_ | refine y3 ?_ | (refine y10 sg H ?_; intro b w H) | (refine y11 sg H ?_; intro w H) | (with_reducible first | apply zB | apply zD | apply zC | apply zF) | refine zA ?_ | fail)
 exact zCY (vs := [_]) ⟨zAF sg rfl H.mem (by repeat (first | exact List.Mem.head _ | exact List.mem_append_right _ (List.Mem.head _) | refine List.Mem.tail _ ?_)) rfl rfl, trivial⟩ H.cl rfl
noncomputable def isR (B : List Nat) (s : Sta) (v : Vws) : Bool := zAw (B.length ≤ 1048556 ∧ RdOk B s v) True
theorem zLS {B : List Nat} {s : Sta} {v : Vws} : isR B s v = true ↔ (B.length ≤ 1048556 ∧ RdOk B s v) := by unfold isR; rw [zn]; exact ⟨fun h => h ▸ trivial, fun h => propext ⟨fun _ => trivial, fun _ => h⟩⟩
set_option maxHeartbeats 2000000 in
theorem c_is {F : zI} (bd : ByteArray) (hb : bd.size ≤ 140737488355328) (s : Sta) (p : SPt) (v : Vws) (q : VPt) (hW : RdW (zN bd)) (w0 : World) (hF : Mem w0 F) (hs : StaM F s p) (hv : VwM F v q) :
  Calls Tryz.prog 15 [.string bd, .agg (s.cells p).toArray, .agg (v.cells q).toArray].toArray w0 (Ret (.bool (isR (zN bd) s v)) w0) := by
 refine enter [.tmp 6] Tryz.func15 rfl Tryz.ntmps15 rfl rfl ?_
 have H := zH w0
 repeat' (first | refine y1 sg ?_ | refine y3 ?_ | refine y7 sg H ?_ | (refine y9 H ?_; intro b w H) | (refine y10 sg H ?_; intro b w H) | (refine y11 sg H ?_; intro w H) | (refine' y32 zKo ?_ ?_; rotate_left; exact zOO bd hb hW _; intro vv M w hR hS; replace H := H.addR hS; clear hS; (try simp only [List.cons_append, List.nil_append] at H); obtain ⟨x, pt, y, qt, e, rfl, hxm, hym, hra⟩ := hR; rcases hra with ⟨rfl, r1, r2⟩|⟨rfl, r1, rfl, rfl, r2⟩|⟨rfl, r1, rfl, rfl⟩) | (refine' y30 zMm ?_ ?_; rotate_left; exact zGU x s pt p _ (H.all hF) (hxm.mono (by intro p hp; simp [hp])) (hs.mono (by intro p hp; simp [hp])); intro w hcl; replace H := H.ext hcl; clear hcl) | (refine' y30 zMn ?_ ?_; rotate_left; exact zGV y v qt q _ (H.all hF) (hym.mono (by intro p hp; simp [hp])) (hv.mono (by intro p hp; simp [hp])); intro w hcl; replace H := H.ext hcl; clear hcl) | refine y13 ?_ | refine y14 ?_ | (refine y17 ?_ ?_; all_goals intro h) | (with_reducible first | apply zB | apply zD | apply zC | apply zF) | refine zA ?_ | fail)
 all_goals
  refine zQ rfl H.cl (congrArg Value.bool ?_)
  rw [Bool.eq_iff_iff, zLS]
  constructor
  ·intro k
   first
    | (cases k; done)
    | (obtain rfl := zn.1 h; obtain rfl := zn.1 k; exact ⟨r1, r2⟩)
  ·rintro ⟨k1, k2⟩
   first
    | (exact absurd k2 (r2 _ _); done)
    | (exfalso; omega)
    | (obtain ⟨rfl, rfl⟩ := r2.uniq k2; first | exact zn.2 rfl | (rw [zn.2 rfl] at h; cases h))
def zOj (B : List Nat) (e : Int) : Prop := (e = 4 ∧ B.length ≤ 1048556 ∧ ∀ x y, ¬ RdOk B x y) ∨ (e = 40 ∧ 1048556 < B.length)
noncomputable def zOk (B : List Nat) (e : Int) : Bool := zAw (zOj B e) True
theorem zHI {B : List Nat} {e : Int} : zOk B e = true ↔ zOj B e := by unfold zOk; rw [zn]; exact ⟨fun h => h ▸ trivial, fun h => propext ⟨fun _ => trivial, fun _ => h⟩⟩
set_option maxHeartbeats 2000000 in
theorem c_none (bd : ByteArray) (hb : bd.size ≤ 140737488355328) (e0 : Int) (he : e0 ≠ 0) (hW : RdW (zN bd)) (w0 : World) :
  Calls Tryz.prog 18 [.string bd, .int .i64 e0].toArray w0 (Ret (.bool (zOk (zN bd) e0)) w0) := by
 have hzs : ∀ x : Sta, x = Sta.zero → zAw x Sta.zero = true := fun x h => zn.2 h
 refine enter [.tmp 4] Tryz.func18 rfl Tryz.ntmps18 rfl rfl ?_
 have H := zH w0
 repeat' (first | refine y1 sg ?_ | refine y3 ?_ | refine y5 sg ?_ | refine y7 sg H ?_ | (refine y10 sg H ?_; intro b w H) | (refine y11 sg H ?_; intro w H) | (refine' y32 zKo ?_ ?_; rotate_left; exact zOO bd hb hW _; intro vv M w hR hS; replace H := H.addR hS; clear hS; (try simp only [List.cons_append, List.nil_append] at H); obtain ⟨x, pt, y, qt, e, rfl, hxm, hym, hra⟩ := hR; rcases hra with ⟨rfl, r1, r2⟩|⟨rfl, r1, rfl, rfl, r2⟩|⟨rfl, r1, rfl, rfl⟩) | (refine' y30 zMm ?_ ?_; rotate_left; exact zGU _ Sta.zero pt SPt.zero _ H.mem (hxm.mono (by intro p hp; simp [hp])) StaM.zero; intro w hcl; replace H := H.ext hcl; clear hcl) | (refine' y30 zMn ?_ ?_; rotate_left; exact zGV _ Vws.zero qt VPt.zero _ H.mem (hym.mono (by intro p hp; simp [hp])) VwM.zero; intro w hcl; replace H := H.ext hcl; clear hcl) | refine y13 ?_ | refine y14 ?_ | (refine y17 ?_ ?_; all_goals intro h) | (with_reducible first | apply zB | apply zD | apply zC | apply zF) | refine zA ?_ | fail)
 all_goals
  refine zQ rfl H.cl (congrArg Value.bool ?_)
  rw [Bool.eq_iff_iff, zHI]
  unfold zOj
  constructor
  ·intro k
   first
    | (cases k; done)
    | (exfalso; simp_all; done)
    | (simp_all; done)
  ·intro k
   first
    | exact zn.2 rfl
    | (exfalso; rcases k with ⟨k0, k1, k2⟩ | ⟨k0, k1⟩ <;> first | exact k2 _ _ r2 | omega | (subst k0; simp at h; done) | (simp_all; done))
end Go.Proofs.YtggolnppckpdlaaGreat
