/- Texts of ours, joined: the steps of the proof, or the claim's theorem. -/
import Derived.Test.YtggolnppckpdlaaGreatQ04
import Derived.Test.YtggolnppckpdlaaGreatQ18
import Derived.Test.YtggolnppckpdlaaGreatQ19
set_option linter.unusedSimpArgs false
set_option linter.unusedVariables false
namespace Go.Proofs.YtggolnppckpdlaaGreat
open Go Go.Sk Go.RowKit
attribute [local irreducible] Go.Calls
theorem str_eq2 (a b : ByteArray) : (a.toList == b.toList) = true ↔ a = b := by
  rw [str_eq, decide_eq_true_iff]
  exact ⟨strL_inj, fun h => by rw [h]⟩
theorem str_eq3 (a b : ByteArray) : a.toList = b.toList ↔ a = b := by rw [← beq_iff_eq (a := a.toList), str_eq2]
theorem list_eq {α : Type} [Inhabited α] {l l' : List α} (hlen : l.length = l'.length) (h : ∀ j, j < l.length → l.getD j default = l'.getD j default) : l = l' :=
  List.ext_getElem hlen fun j h1 h2 => by
    have := h j h1
    simpa [List.getD, h1, h2] using this
theorem st_Acc : Tryz.prog.stoodInHeld 70 = false := by kernel_rfl
theorem eg_Acc : Tryz.prog.eqGuardType Tryz.prog.depth 70 = false := by kernel_rfl
theorem eqv_Acc (c d : Ac) : ((c.name.toList == d.name.toList) && ((c.opn == d.opn) && true)) = true ↔ c = d := by
  cases c; cases d
  simp only [Bool.and_eq_true, beq_iff_eq, str_eq3, and_true, Ac.mk.injEq]
theorem c_EqualAcc {a a' : Option Addr} {cap cap' : Nat} (l l' : List Ac) {F : Frag} (w0 : World) (hF : Mem w0 F) (hs : SlA F 2 a l.length cap (acl l)) (hs' : SlA F 2 a' l'.length cap' (acl l')) :
    Calls Tryz.prog 51 [.slice a l.length cap, .slice a' l'.length cap'].toArray w0 (Ret (.bool (@decide (l = l') (Classical.propDecidable _))) w0) := by
  obtain ⟨hn, hc, b, off, cs, T, fr, hs⟩ := hs
  obtain ⟨hn', hc', b', off', cs', T', fr', hs'⟩ := hs'
  refine enter [.tmp 4] Tryz.func51 rfl Tryz.ntmps51 rfl rfl ?_
  have H := St.start w0
  repeat' (first | refine y1 sg ?_ | with_reducible apply OW.nil | with_reducible apply thn_n | with_reducible apply CW.seq | refine CW.region ?_ | fail)
  refine CW.cond rfl (fun h => ?_) (fun h => ?_)
  · repeat' (first | refine y1 sg ?_ | with_reducible apply OW.nil | with_reducible apply thn_n | with_reducible apply CW.seq | refine CW.region ?_ | with_reducible apply CW.ret | with_reducible apply thn_r | fail)
    exact ret1 rfl H.cl (by
      have : l ≠ l' := fun he => by subst he; simp at h
      simp [this])
  · have hlen : l.length = l'.length := by simp at h; omega
    repeat' (first | refine y1 sg ?_ | with_reducible apply OW.nil | with_reducible apply thn_n | with_reducible apply CW.seq | refine CW.region ?_ | with_reducible apply CW.block | with_reducible apply CW.skip | fail)
    refine CW.loopI [(4, 5), (13, 25)] (fun k : Nat => [(13, .int .i64 (k : Int))]) (fun k w => k ≤ l.length ∧ (∀ j, j < k → l.getD j default = l'.getD j default) ∧ St w0 [] w) (fun k => l.length - k) 0 ⟨rfl, trivial⟩ ⟨Nat.zero_le _, fun j hj => by omega, H⟩ ?_
    clear H
    rintro k g w ⟨hk, hpk, H⟩
    repeat' (first | refine y1 sg ?_ | with_reducible apply OW.nil | with_reducible apply thn_n | with_reducible apply CW.seq | refine CW.region ?_ | fail)
    refine CW.cond rfl (fun h => ?_) (fun h => ?_)
    · have hlt : k < l.length := by simpa using h
      repeat' (first | refine y1 sg ?_ | refine y2 sg ?_ | refine y4 ?_ | (refine y41 sg (hs) ?_ ?_ ?_; (omega); (omega)) | (refine y41 sg (hs') ?_ ?_ ?_; (omega); (omega)) | (refine y43 sg (hs) ((H.memF hF)) ?_ ?_; (omega)) | (refine y43 sg (hs') ((H.memF hF)) ?_ ?_; (omega)) | (refine QX.val rfl rfl (Yq.neqS sg (cs := (ac_ l k).cells) (ds := (ac_ l' k).cells) st_Acc eg_Acc rfl rfl rfl rfl rfl rfl rfl) ?_) | with_reducible apply OW.nil | (with_reducible apply QW.nil; intro w hcl; replace H := H.ext hcl; clear hcl) | with_reducible apply thn_n | with_reducible apply CW.seq | refine CW.region ?_ | refine y20 mixed ?_ | with_reducible apply CW.block | with_reducible apply CW.skip | fail)
      refine CW.cond rfl (fun h2 => ?_) (fun h2 => ?_)
      · rw [Bool.not_eq_true'] at h2
        have hne := mt (eqv_Acc (ac_ l k) (ac_ l' k)).2 (by intro h3; exact absurd (h2.symm.trans h3) (by simp))
        repeat' (first | refine y1 sg ?_ | with_reducible apply OW.nil | with_reducible apply thn_n | with_reducible apply CW.seq | refine CW.region ?_ | with_reducible apply CW.ret | with_reducible apply thn_r | with_reducible apply blk_r | fail)
        exact ret1 rfl H.cl (by
          have : l ≠ l' := fun he => by subst he; exact hne rfl
          simp [this])
      · rw [Bool.not_eq_false'] at h2
        have heq : ac_ l k = ac_ l' k := (eqv_Acc _ _).1 h2
        repeat' (first | refine y1 sg ?_ | with_reducible apply OW.nil | with_reducible apply thn_n | refine CW.region ?_ | with_reducible apply CW.skip | fail)
        refine Again.mk (k + 1) rfl ⟨vsucc (by omega), trivial⟩ ⟨hlt, fun j hj => ?_, H⟩ (by omega)
        by_cases hj' : j = k
        · rw [hj']; exact heq
        · exact hpk j (by omega)
    · repeat' (first | refine y1 sg ?_ | with_reducible apply OW.nil | with_reducible apply thn_n | with_reducible apply CW.seq | refine CW.region ?_ | with_reducible apply CW.ret | with_reducible apply CW.exit | with_reducible apply thn_e | refine y24 ?_ | fail)
      have hkn : k = l.length := by simp at h; omega
      subst hkn
      exact ret1 rfl H.cl (by
        have : l = l' := list_eq hlen hpk
        simp [this])
theorem st_Ins : Tryz.prog.stoodInHeld 72 = false := by kernel_rfl
theorem eg_Ins : Tryz.prog.eqGuardType Tryz.prog.depth 72 = false := by kernel_rfl
theorem eqv_Ins (c d : Ins) : ((c.name.toList == d.name.toList) && ((c.tick == d.tick) && ((c.halted == d.halted) && true))) = true ↔ c = d := by
  cases c; cases d
  simp only [Bool.and_eq_true, beq_iff_eq, str_eq3, and_true, Ins.mk.injEq]
theorem c_EqualIns {a a' : Option Addr} {cap cap' : Nat} (l l' : List Ins) {F : Frag} (w0 : World) (hF : Mem w0 F) (hs : SlA F 3 a l.length cap (ing l)) (hs' : SlA F 3 a' l'.length cap' (ing l')) :
    Calls Tryz.prog 52 [.slice a l.length cap, .slice a' l'.length cap'].toArray w0 (Ret (.bool (@decide (l = l') (Classical.propDecidable _))) w0) := by
  obtain ⟨hn, hc, b, off, cs, T, fr, hs⟩ := hs
  obtain ⟨hn', hc', b', off', cs', T', fr', hs'⟩ := hs'
  refine enter [.tmp 4] Tryz.func52 rfl Tryz.ntmps52 rfl rfl ?_
  have H := St.start w0
  repeat' (first | refine y1 sg ?_ | with_reducible apply OW.nil | with_reducible apply thn_n | with_reducible apply CW.seq | refine CW.region ?_ | fail)
  refine CW.cond rfl (fun h => ?_) (fun h => ?_)
  · repeat' (first | refine y1 sg ?_ | with_reducible apply OW.nil | with_reducible apply thn_n | with_reducible apply CW.seq | refine CW.region ?_ | with_reducible apply CW.ret | with_reducible apply thn_r | fail)
    exact ret1 rfl H.cl (by
      have : l ≠ l' := fun he => by subst he; simp at h
      simp [this])
  · have hlen : l.length = l'.length := by simp at h; omega
    repeat' (first | refine y1 sg ?_ | with_reducible apply OW.nil | with_reducible apply thn_n | with_reducible apply CW.seq | refine CW.region ?_ | with_reducible apply CW.block | with_reducible apply CW.skip | fail)
    refine CW.loopI [(4, 5), (13, 25)] (fun k : Nat => [(13, .int .i64 (k : Int))]) (fun k w => k ≤ l.length ∧ (∀ j, j < k → l.getD j default = l'.getD j default) ∧ St w0 [] w) (fun k => l.length - k) 0 ⟨rfl, trivial⟩ ⟨Nat.zero_le _, fun j hj => by omega, H⟩ ?_
    clear H
    rintro k g w ⟨hk, hpk, H⟩
    repeat' (first | refine y1 sg ?_ | with_reducible apply OW.nil | with_reducible apply thn_n | with_reducible apply CW.seq | refine CW.region ?_ | fail)
    refine CW.cond rfl (fun h => ?_) (fun h => ?_)
    · have hlt : k < l.length := by simpa using h
      repeat' (first | refine y1 sg ?_ | refine y2 sg ?_ | refine y4 ?_ | (refine y41 sg (hs) ?_ ?_ ?_; (omega); (omega)) | (refine y41 sg (hs') ?_ ?_ ?_; (omega); (omega)) | (refine y43 sg (hs) ((H.memF hF)) ?_ ?_; (omega)) | (refine y43 sg (hs') ((H.memF hF)) ?_ ?_; (omega)) | (refine QX.val rfl rfl (Yq.neqS sg (cs := (in_ l k).cells) (ds := (in_ l' k).cells) st_Ins eg_Ins rfl rfl rfl rfl rfl rfl rfl) ?_) | with_reducible apply OW.nil | (with_reducible apply QW.nil; intro w hcl; replace H := H.ext hcl; clear hcl) | with_reducible apply thn_n | with_reducible apply CW.seq | refine CW.region ?_ | refine y20 mixed ?_ | with_reducible apply CW.block | with_reducible apply CW.skip | fail)
      refine CW.cond rfl (fun h2 => ?_) (fun h2 => ?_)
      · rw [Bool.not_eq_true'] at h2
        have hne := mt (eqv_Ins (in_ l k) (in_ l' k)).2 (by intro h3; exact absurd (h2.symm.trans h3) (by simp))
        repeat' (first | refine y1 sg ?_ | with_reducible apply OW.nil | with_reducible apply thn_n | with_reducible apply CW.seq | refine CW.region ?_ | with_reducible apply CW.ret | with_reducible apply thn_r | with_reducible apply blk_r | fail)
        exact ret1 rfl H.cl (by
          have : l ≠ l' := fun he => by subst he; exact hne rfl
          simp [this])
      · rw [Bool.not_eq_false'] at h2
        have heq : in_ l k = in_ l' k := (eqv_Ins _ _).1 h2
        repeat' (first | refine y1 sg ?_ | with_reducible apply OW.nil | with_reducible apply thn_n | refine CW.region ?_ | with_reducible apply CW.skip | fail)
        refine Again.mk (k + 1) rfl ⟨vsucc (by omega), trivial⟩ ⟨hlt, fun j hj => ?_, H⟩ (by omega)
        by_cases hj' : j = k
        · rw [hj']; exact heq
        · exact hpk j (by omega)
    · repeat' (first | refine y1 sg ?_ | with_reducible apply OW.nil | with_reducible apply thn_n | with_reducible apply CW.seq | refine CW.region ?_ | with_reducible apply CW.ret | with_reducible apply CW.exit | with_reducible apply thn_e | refine y24 ?_ | fail)
      have hkn : k = l.length := by simp at h; omega
      subst hkn
      exact ret1 rfl H.cl (by
        have : l = l' := list_eq hlen hpk
        simp [this])
theorem st_Row : Tryz.prog.stoodInHeld 74 = false := by kernel_rfl
theorem eg_Row : Tryz.prog.eqGuardType Tryz.prog.depth 74 = false := by kernel_rfl
theorem eqv_Row (c d : Row4) : ((c.acct == d.acct) && ((c.asset == d.asset) && ((c.free == d.free) && ((c.held == d.held) && true)))) = true ↔ c = d := by
  cases c; cases d
  simp only [Bool.and_eq_true, beq_iff_eq, str_eq3, and_true, Row4.mk.injEq]
theorem c_EqualRow {a a' : Option Addr} {cap cap' : Nat} (l l' : List Row4) {F : Frag} (w0 : World) (hF : Mem w0 F) (hs : SlA F 4 a l.length cap (rwl l)) (hs' : SlA F 4 a' l'.length cap' (rwl l')) :
    Calls Tryz.prog 53 [.slice a l.length cap, .slice a' l'.length cap'].toArray w0 (Ret (.bool (@decide (l = l') (Classical.propDecidable _))) w0) := by
  obtain ⟨hn, hc, b, off, cs, T, fr, hs⟩ := hs
  obtain ⟨hn', hc', b', off', cs', T', fr', hs'⟩ := hs'
  refine enter [.tmp 4] Tryz.func53 rfl Tryz.ntmps53 rfl rfl ?_
  have H := St.start w0
  repeat' (first | refine y1 sg ?_ | with_reducible apply OW.nil | with_reducible apply thn_n | with_reducible apply CW.seq | refine CW.region ?_ | fail)
  refine CW.cond rfl (fun h => ?_) (fun h => ?_)
  · repeat' (first | refine y1 sg ?_ | with_reducible apply OW.nil | with_reducible apply thn_n | with_reducible apply CW.seq | refine CW.region ?_ | with_reducible apply CW.ret | with_reducible apply thn_r | fail)
    exact ret1 rfl H.cl (by
      have : l ≠ l' := fun he => by subst he; simp at h
      simp [this])
  · have hlen : l.length = l'.length := by simp at h; omega
    repeat' (first | refine y1 sg ?_ | with_reducible apply OW.nil | with_reducible apply thn_n | with_reducible apply CW.seq | refine CW.region ?_ | with_reducible apply CW.block | with_reducible apply CW.skip | fail)
    refine CW.loopI [(4, 5), (13, 25)] (fun k : Nat => [(13, .int .i64 (k : Int))]) (fun k w => k ≤ l.length ∧ (∀ j, j < k → l.getD j default = l'.getD j default) ∧ St w0 [] w) (fun k => l.length - k) 0 ⟨rfl, trivial⟩ ⟨Nat.zero_le _, fun j hj => by omega, H⟩ ?_
    clear H
    rintro k g w ⟨hk, hpk, H⟩
    repeat' (first | refine y1 sg ?_ | with_reducible apply OW.nil | with_reducible apply thn_n | with_reducible apply CW.seq | refine CW.region ?_ | fail)
    refine CW.cond rfl (fun h => ?_) (fun h => ?_)
    · have hlt : k < l.length := by simpa using h
      repeat' (first | refine y1 sg ?_ | refine y2 sg ?_ | refine y4 ?_ | (refine y41 sg (hs) ?_ ?_ ?_; (omega); (omega)) | (refine y41 sg (hs') ?_ ?_ ?_; (omega); (omega)) | (refine y43 sg (hs) ((H.memF hF)) ?_ ?_; (omega)) | (refine y43 sg (hs') ((H.memF hF)) ?_ ?_; (omega)) | (refine QX.val rfl rfl (Yq.neqS sg (cs := (rw_ l k).cells) (ds := (rw_ l' k).cells) st_Row eg_Row rfl rfl rfl rfl rfl rfl rfl) ?_) | with_reducible apply OW.nil | (with_reducible apply QW.nil; intro w hcl; replace H := H.ext hcl; clear hcl) | with_reducible apply thn_n | with_reducible apply CW.seq | refine CW.region ?_ | refine y20 mixed ?_ | with_reducible apply CW.block | with_reducible apply CW.skip | fail)
      refine CW.cond rfl (fun h2 => ?_) (fun h2 => ?_)
      · rw [Bool.not_eq_true'] at h2
        have hne := mt (eqv_Row (rw_ l k) (rw_ l' k)).2 (by intro h3; exact absurd (h2.symm.trans h3) (by simp))
        repeat' (first | refine y1 sg ?_ | with_reducible apply OW.nil | with_reducible apply thn_n | with_reducible apply CW.seq | refine CW.region ?_ | with_reducible apply CW.ret | with_reducible apply thn_r | with_reducible apply blk_r | fail)
        exact ret1 rfl H.cl (by
          have : l ≠ l' := fun he => by subst he; exact hne rfl
          simp [this])
      · rw [Bool.not_eq_false'] at h2
        have heq : rw_ l k = rw_ l' k := (eqv_Row _ _).1 h2
        repeat' (first | refine y1 sg ?_ | with_reducible apply OW.nil | with_reducible apply thn_n | refine CW.region ?_ | with_reducible apply CW.skip | fail)
        refine Again.mk (k + 1) rfl ⟨vsucc (by omega), trivial⟩ ⟨hlt, fun j hj => ?_, H⟩ (by omega)
        by_cases hj' : j = k
        · rw [hj']; exact heq
        · exact hpk j (by omega)
    · repeat' (first | refine y1 sg ?_ | with_reducible apply OW.nil | with_reducible apply thn_n | with_reducible apply CW.seq | refine CW.region ?_ | with_reducible apply CW.ret | with_reducible apply CW.exit | with_reducible apply thn_e | refine y24 ?_ | fail)
      have hkn : k = l.length := by simp at h; omega
      subst hkn
      exact ret1 rfl H.cl (by
        have : l = l' := list_eq hlen hpk
        simp [this])
theorem st_Ord : Tryz.prog.stoodInHeld 76 = false := by kernel_rfl
theorem eg_Ord : Tryz.prog.eqGuardType Tryz.prog.depth 76 = false := by kernel_rfl
theorem eqv_Ord (c d : Odr) : ((c.id == d.id) && ((c.acct == d.acct) && ((c.inst == d.inst) && ((c.side == d.side) && ((c.price == d.price) && ((c.left == d.left) && true)))))) = true ↔ c = d := by
  cases c; cases d
  simp only [Bool.and_eq_true, beq_iff_eq, str_eq3, and_true, Odr.mk.injEq]
theorem c_EqualOrd {a a' : Option Addr} {cap cap' : Nat} (l l' : List Odr) {F : Frag} (w0 : World) (hF : Mem w0 F) (hs : SlA F 6 a l.length cap (odl l)) (hs' : SlA F 6 a' l'.length cap' (odl l')) :
    Calls Tryz.prog 54 [.slice a l.length cap, .slice a' l'.length cap'].toArray w0 (Ret (.bool (@decide (l = l') (Classical.propDecidable _))) w0) := by
  obtain ⟨hn, hc, b, off, cs, T, fr, hs⟩ := hs
  obtain ⟨hn', hc', b', off', cs', T', fr', hs'⟩ := hs'
  refine enter [.tmp 4] Tryz.func54 rfl Tryz.ntmps54 rfl rfl ?_
  have H := St.start w0
  repeat' (first | refine y1 sg ?_ | with_reducible apply OW.nil | with_reducible apply thn_n | with_reducible apply CW.seq | refine CW.region ?_ | fail)
  refine CW.cond rfl (fun h => ?_) (fun h => ?_)
  · repeat' (first | refine y1 sg ?_ | with_reducible apply OW.nil | with_reducible apply thn_n | with_reducible apply CW.seq | refine CW.region ?_ | with_reducible apply CW.ret | with_reducible apply thn_r | fail)
    exact ret1 rfl H.cl (by
      have : l ≠ l' := fun he => by subst he; simp at h
      simp [this])
  · have hlen : l.length = l'.length := by simp at h; omega
    repeat' (first | refine y1 sg ?_ | with_reducible apply OW.nil | with_reducible apply thn_n | with_reducible apply CW.seq | refine CW.region ?_ | with_reducible apply CW.block | with_reducible apply CW.skip | fail)
    refine CW.loopI [(4, 5), (13, 25)] (fun k : Nat => [(13, .int .i64 (k : Int))]) (fun k w => k ≤ l.length ∧ (∀ j, j < k → l.getD j default = l'.getD j default) ∧ St w0 [] w) (fun k => l.length - k) 0 ⟨rfl, trivial⟩ ⟨Nat.zero_le _, fun j hj => by omega, H⟩ ?_
    clear H
    rintro k g w ⟨hk, hpk, H⟩
    repeat' (first | refine y1 sg ?_ | with_reducible apply OW.nil | with_reducible apply thn_n | with_reducible apply CW.seq | refine CW.region ?_ | fail)
    refine CW.cond rfl (fun h => ?_) (fun h => ?_)
    · have hlt : k < l.length := by simpa using h
      repeat' (first | refine y1 sg ?_ | refine y2 sg ?_ | refine y4 ?_ | (refine y41 sg (hs) ?_ ?_ ?_; (omega); (omega)) | (refine y41 sg (hs') ?_ ?_ ?_; (omega); (omega)) | (refine y43 sg (hs) ((H.memF hF)) ?_ ?_; (omega)) | (refine y43 sg (hs') ((H.memF hF)) ?_ ?_; (omega)) | (refine QX.val rfl rfl (Yq.neqS sg (cs := (od_ l k).cells) (ds := (od_ l' k).cells) st_Ord eg_Ord rfl rfl rfl rfl rfl rfl rfl) ?_) | with_reducible apply OW.nil | (with_reducible apply QW.nil; intro w hcl; replace H := H.ext hcl; clear hcl) | with_reducible apply thn_n | with_reducible apply CW.seq | refine CW.region ?_ | refine y20 mixed ?_ | with_reducible apply CW.block | with_reducible apply CW.skip | fail)
      refine CW.cond rfl (fun h2 => ?_) (fun h2 => ?_)
      · rw [Bool.not_eq_true'] at h2
        have hne := mt (eqv_Ord (od_ l k) (od_ l' k)).2 (by intro h3; exact absurd (h2.symm.trans h3) (by simp))
        repeat' (first | refine y1 sg ?_ | with_reducible apply OW.nil | with_reducible apply thn_n | with_reducible apply CW.seq | refine CW.region ?_ | with_reducible apply CW.ret | with_reducible apply thn_r | with_reducible apply blk_r | fail)
        exact ret1 rfl H.cl (by
          have : l ≠ l' := fun he => by subst he; exact hne rfl
          simp [this])
      · rw [Bool.not_eq_false'] at h2
        have heq : od_ l k = od_ l' k := (eqv_Ord _ _).1 h2
        repeat' (first | refine y1 sg ?_ | with_reducible apply OW.nil | with_reducible apply thn_n | refine CW.region ?_ | with_reducible apply CW.skip | fail)
        refine Again.mk (k + 1) rfl ⟨vsucc (by omega), trivial⟩ ⟨hlt, fun j hj => ?_, H⟩ (by omega)
        by_cases hj' : j = k
        · rw [hj']; exact heq
        · exact hpk j (by omega)
    · repeat' (first | refine y1 sg ?_ | with_reducible apply OW.nil | with_reducible apply thn_n | with_reducible apply CW.seq | refine CW.region ?_ | with_reducible apply CW.ret | with_reducible apply CW.exit | with_reducible apply thn_e | refine y24 ?_ | fail)
      have hkn : k = l.length := by simp at h; omega
      subst hkn
      exact ret1 rfl H.cl (by
        have : l = l' := list_eq hlen hpk
        simp [this])
theorem st_Opn : Tryz.prog.stoodInHeld 83 = false := by kernel_rfl
theorem eg_Opn : Tryz.prog.eqGuardType Tryz.prog.depth 83 = false := by kernel_rfl
theorem eqv_Opn (c d : Opn) : ((c.acct == d.acct) && ((c.id == d.id) && ((c.inst == d.inst) && ((c.side == d.side) && ((c.price == d.price) && ((c.left == d.left) && true)))))) = true ↔ c = d := by
  cases c; cases d
  simp only [Bool.and_eq_true, beq_iff_eq, str_eq3, and_true, Opn.mk.injEq]
theorem c_EqualOpn {a a' : Option Addr} {cap cap' : Nat} (l l' : List Opn) {F : Frag} (w0 : World) (hF : Mem w0 F) (hs : SlA F 6 a l.length cap (opl l)) (hs' : SlA F 6 a' l'.length cap' (opl l')) :
    Calls Tryz.prog 57 [.slice a l.length cap, .slice a' l'.length cap'].toArray w0 (Ret (.bool (@decide (l = l') (Classical.propDecidable _))) w0) := by
  obtain ⟨hn, hc, b, off, cs, T, fr, hs⟩ := hs
  obtain ⟨hn', hc', b', off', cs', T', fr', hs'⟩ := hs'
  refine enter [.tmp 4] Tryz.func57 rfl Tryz.ntmps57 rfl rfl ?_
  have H := St.start w0
  repeat' (first | refine y1 sg ?_ | with_reducible apply OW.nil | with_reducible apply thn_n | with_reducible apply CW.seq | refine CW.region ?_ | fail)
  refine CW.cond rfl (fun h => ?_) (fun h => ?_)
  · repeat' (first | refine y1 sg ?_ | with_reducible apply OW.nil | with_reducible apply thn_n | with_reducible apply CW.seq | refine CW.region ?_ | with_reducible apply CW.ret | with_reducible apply thn_r | fail)
    exact ret1 rfl H.cl (by
      have : l ≠ l' := fun he => by subst he; simp at h
      simp [this])
  · have hlen : l.length = l'.length := by simp at h; omega
    repeat' (first | refine y1 sg ?_ | with_reducible apply OW.nil | with_reducible apply thn_n | with_reducible apply CW.seq | refine CW.region ?_ | with_reducible apply CW.block | with_reducible apply CW.skip | fail)
    refine CW.loopI [(4, 5), (13, 25)] (fun k : Nat => [(13, .int .i64 (k : Int))]) (fun k w => k ≤ l.length ∧ (∀ j, j < k → l.getD j default = l'.getD j default) ∧ St w0 [] w) (fun k => l.length - k) 0 ⟨rfl, trivial⟩ ⟨Nat.zero_le _, fun j hj => by omega, H⟩ ?_
    clear H
    rintro k g w ⟨hk, hpk, H⟩
    repeat' (first | refine y1 sg ?_ | with_reducible apply OW.nil | with_reducible apply thn_n | with_reducible apply CW.seq | refine CW.region ?_ | fail)
    refine CW.cond rfl (fun h => ?_) (fun h => ?_)
    · have hlt : k < l.length := by simpa using h
      repeat' (first | refine y1 sg ?_ | refine y2 sg ?_ | refine y4 ?_ | (refine y41 sg (hs) ?_ ?_ ?_; (omega); (omega)) | (refine y41 sg (hs') ?_ ?_ ?_; (omega); (omega)) | (refine y43 sg (hs) ((H.memF hF)) ?_ ?_; (omega)) | (refine y43 sg (hs') ((H.memF hF)) ?_ ?_; (omega)) | (refine QX.val rfl rfl (Yq.neqS sg (cs := (op_ l k).cells) (ds := (op_ l' k).cells) st_Opn eg_Opn rfl rfl rfl rfl rfl rfl rfl) ?_) | with_reducible apply OW.nil | (with_reducible apply QW.nil; intro w hcl; replace H := H.ext hcl; clear hcl) | with_reducible apply thn_n | with_reducible apply CW.seq | refine CW.region ?_ | refine y20 mixed ?_ | with_reducible apply CW.block | with_reducible apply CW.skip | fail)
      refine CW.cond rfl (fun h2 => ?_) (fun h2 => ?_)
      · rw [Bool.not_eq_true'] at h2
        have hne := mt (eqv_Opn (op_ l k) (op_ l' k)).2 (by intro h3; exact absurd (h2.symm.trans h3) (by simp))
        repeat' (first | refine y1 sg ?_ | with_reducible apply OW.nil | with_reducible apply thn_n | with_reducible apply CW.seq | refine CW.region ?_ | with_reducible apply CW.ret | with_reducible apply thn_r | with_reducible apply blk_r | fail)
        exact ret1 rfl H.cl (by
          have : l ≠ l' := fun he => by subst he; exact hne rfl
          simp [this])
      · rw [Bool.not_eq_false'] at h2
        have heq : op_ l k = op_ l' k := (eqv_Opn _ _).1 h2
        repeat' (first | refine y1 sg ?_ | with_reducible apply OW.nil | with_reducible apply thn_n | refine CW.region ?_ | with_reducible apply CW.skip | fail)
        refine Again.mk (k + 1) rfl ⟨vsucc (by omega), trivial⟩ ⟨hlt, fun j hj => ?_, H⟩ (by omega)
        by_cases hj' : j = k
        · rw [hj']; exact heq
        · exact hpk j (by omega)
    · repeat' (first | refine y1 sg ?_ | with_reducible apply OW.nil | with_reducible apply thn_n | with_reducible apply CW.seq | refine CW.region ?_ | with_reducible apply CW.ret | with_reducible apply CW.exit | with_reducible apply thn_e | refine y24 ?_ | fail)
      have hkn : k = l.length := by simp at h; omega
      subst hkn
      exact ret1 rfl H.cl (by
        have : l = l' := list_eq hlen hpk
        simp [this])
theorem st_Lot : Tryz.prog.stoodInHeld 85 = false := by kernel_rfl
theorem eg_Lot : Tryz.prog.eqGuardType Tryz.prog.depth 85 = false := by kernel_rfl
theorem eqv_Lot (c d : Lt) : ((c.id == d.id) && ((c.seller == d.seller) && ((c.inst == d.inst) && ((c.qty == d.qty) && true)))) = true ↔ c = d := by
  cases c; cases d
  simp only [Bool.and_eq_true, beq_iff_eq, str_eq3, and_true, Lt.mk.injEq]
theorem c_EqualLot {a a' : Option Addr} {cap cap' : Nat} (l l' : List Lt) {F : Frag} (w0 : World) (hF : Mem w0 F) (hs : SlA F 4 a l.length cap (ltl l)) (hs' : SlA F 4 a' l'.length cap' (ltl l')) :
    Calls Tryz.prog 58 [.slice a l.length cap, .slice a' l'.length cap'].toArray w0 (Ret (.bool (@decide (l = l') (Classical.propDecidable _))) w0) := by
  obtain ⟨hn, hc, b, off, cs, T, fr, hs⟩ := hs
  obtain ⟨hn', hc', b', off', cs', T', fr', hs'⟩ := hs'
  refine enter [.tmp 4] Tryz.func58 rfl Tryz.ntmps58 rfl rfl ?_
  have H := St.start w0
  repeat' (first | refine y1 sg ?_ | with_reducible apply OW.nil | with_reducible apply thn_n | with_reducible apply CW.seq | refine CW.region ?_ | fail)
  refine CW.cond rfl (fun h => ?_) (fun h => ?_)
  · repeat' (first | refine y1 sg ?_ | with_reducible apply OW.nil | with_reducible apply thn_n | with_reducible apply CW.seq | refine CW.region ?_ | with_reducible apply CW.ret | with_reducible apply thn_r | fail)
    exact ret1 rfl H.cl (by
      have : l ≠ l' := fun he => by subst he; simp at h
      simp [this])
  · have hlen : l.length = l'.length := by simp at h; omega
    repeat' (first | refine y1 sg ?_ | with_reducible apply OW.nil | with_reducible apply thn_n | with_reducible apply CW.seq | refine CW.region ?_ | with_reducible apply CW.block | with_reducible apply CW.skip | fail)
    refine CW.loopI [(4, 5), (13, 25)] (fun k : Nat => [(13, .int .i64 (k : Int))]) (fun k w => k ≤ l.length ∧ (∀ j, j < k → l.getD j default = l'.getD j default) ∧ St w0 [] w) (fun k => l.length - k) 0 ⟨rfl, trivial⟩ ⟨Nat.zero_le _, fun j hj => by omega, H⟩ ?_
    clear H
    rintro k g w ⟨hk, hpk, H⟩
    repeat' (first | refine y1 sg ?_ | with_reducible apply OW.nil | with_reducible apply thn_n | with_reducible apply CW.seq | refine CW.region ?_ | fail)
    refine CW.cond rfl (fun h => ?_) (fun h => ?_)
    · have hlt : k < l.length := by simpa using h
      repeat' (first | refine y1 sg ?_ | refine y2 sg ?_ | refine y4 ?_ | (refine y41 sg (hs) ?_ ?_ ?_; (omega); (omega)) | (refine y41 sg (hs') ?_ ?_ ?_; (omega); (omega)) | (refine y43 sg (hs) ((H.memF hF)) ?_ ?_; (omega)) | (refine y43 sg (hs') ((H.memF hF)) ?_ ?_; (omega)) | (refine QX.val rfl rfl (Yq.neqS sg (cs := (lt_ l k).cells) (ds := (lt_ l' k).cells) st_Lot eg_Lot rfl rfl rfl rfl rfl rfl rfl) ?_) | with_reducible apply OW.nil | (with_reducible apply QW.nil; intro w hcl; replace H := H.ext hcl; clear hcl) | with_reducible apply thn_n | with_reducible apply CW.seq | refine CW.region ?_ | refine y20 mixed ?_ | with_reducible apply CW.block | with_reducible apply CW.skip | fail)
      refine CW.cond rfl (fun h2 => ?_) (fun h2 => ?_)
      · rw [Bool.not_eq_true'] at h2
        have hne := mt (eqv_Lot (lt_ l k) (lt_ l' k)).2 (by intro h3; exact absurd (h2.symm.trans h3) (by simp))
        repeat' (first | refine y1 sg ?_ | with_reducible apply OW.nil | with_reducible apply thn_n | with_reducible apply CW.seq | refine CW.region ?_ | with_reducible apply CW.ret | with_reducible apply thn_r | with_reducible apply blk_r | fail)
        exact ret1 rfl H.cl (by
          have : l ≠ l' := fun he => by subst he; exact hne rfl
          simp [this])
      · rw [Bool.not_eq_false'] at h2
        have heq : lt_ l k = lt_ l' k := (eqv_Lot _ _).1 h2
        repeat' (first | refine y1 sg ?_ | with_reducible apply OW.nil | with_reducible apply thn_n | refine CW.region ?_ | with_reducible apply CW.skip | fail)
        refine Again.mk (k + 1) rfl ⟨vsucc (by omega), trivial⟩ ⟨hlt, fun j hj => ?_, H⟩ (by omega)
        by_cases hj' : j = k
        · rw [hj']; exact heq
        · exact hpk j (by omega)
    · repeat' (first | refine y1 sg ?_ | with_reducible apply OW.nil | with_reducible apply thn_n | with_reducible apply CW.seq | refine CW.region ?_ | with_reducible apply CW.ret | with_reducible apply CW.exit | with_reducible apply thn_e | refine y24 ?_ | fail)
      have hkn : k = l.length := by simp at h; omega
      subst hkn
      exact ret1 rfl H.cl (by
        have : l = l' := list_eq hlen hpk
        simp [this])
theorem st_Pos : Tryz.prog.stoodInHeld 87 = false := by kernel_rfl
theorem eg_Pos : Tryz.prog.eqGuardType Tryz.prog.depth 87 = false := by kernel_rfl
theorem eqv_Pos (c d : Psn) : ((c.acct == d.acct) && ((c.inst == d.inst) && ((c.bought == d.bought) && ((c.sold == d.sold) && ((c.spent == d.spent) && ((c.got == d.got) && true)))))) = true ↔ c = d := by
  cases c; cases d
  simp only [Bool.and_eq_true, beq_iff_eq, str_eq3, and_true, Psn.mk.injEq]
theorem c_EqualPos {a a' : Option Addr} {cap cap' : Nat} (l l' : List Psn) {F : Frag} (w0 : World) (hF : Mem w0 F) (hs : SlA F 6 a l.length cap (psl l)) (hs' : SlA F 6 a' l'.length cap' (psl l')) :
    Calls Tryz.prog 59 [.slice a l.length cap, .slice a' l'.length cap'].toArray w0 (Ret (.bool (@decide (l = l') (Classical.propDecidable _))) w0) := by
  obtain ⟨hn, hc, b, off, cs, T, fr, hs⟩ := hs
  obtain ⟨hn', hc', b', off', cs', T', fr', hs'⟩ := hs'
  refine enter [.tmp 4] Tryz.func59 rfl Tryz.ntmps59 rfl rfl ?_
  have H := St.start w0
  repeat' (first | refine y1 sg ?_ | with_reducible apply OW.nil | with_reducible apply thn_n | with_reducible apply CW.seq | refine CW.region ?_ | fail)
  refine CW.cond rfl (fun h => ?_) (fun h => ?_)
  · repeat' (first | refine y1 sg ?_ | with_reducible apply OW.nil | with_reducible apply thn_n | with_reducible apply CW.seq | refine CW.region ?_ | with_reducible apply CW.ret | with_reducible apply thn_r | fail)
    exact ret1 rfl H.cl (by
      have : l ≠ l' := fun he => by subst he; simp at h
      simp [this])
  · have hlen : l.length = l'.length := by simp at h; omega
    repeat' (first | refine y1 sg ?_ | with_reducible apply OW.nil | with_reducible apply thn_n | with_reducible apply CW.seq | refine CW.region ?_ | with_reducible apply CW.block | with_reducible apply CW.skip | fail)
    refine CW.loopI [(4, 5), (13, 25)] (fun k : Nat => [(13, .int .i64 (k : Int))]) (fun k w => k ≤ l.length ∧ (∀ j, j < k → l.getD j default = l'.getD j default) ∧ St w0 [] w) (fun k => l.length - k) 0 ⟨rfl, trivial⟩ ⟨Nat.zero_le _, fun j hj => by omega, H⟩ ?_
    clear H
    rintro k g w ⟨hk, hpk, H⟩
    repeat' (first | refine y1 sg ?_ | with_reducible apply OW.nil | with_reducible apply thn_n | with_reducible apply CW.seq | refine CW.region ?_ | fail)
    refine CW.cond rfl (fun h => ?_) (fun h => ?_)
    · have hlt : k < l.length := by simpa using h
      repeat' (first | refine y1 sg ?_ | refine y2 sg ?_ | refine y4 ?_ | (refine y41 sg (hs) ?_ ?_ ?_; (omega); (omega)) | (refine y41 sg (hs') ?_ ?_ ?_; (omega); (omega)) | (refine y43 sg (hs) ((H.memF hF)) ?_ ?_; (omega)) | (refine y43 sg (hs') ((H.memF hF)) ?_ ?_; (omega)) | (refine QX.val rfl rfl (Yq.neqS sg (cs := (ps_ l k).cells) (ds := (ps_ l' k).cells) st_Pos eg_Pos rfl rfl rfl rfl rfl rfl rfl) ?_) | with_reducible apply OW.nil | (with_reducible apply QW.nil; intro w hcl; replace H := H.ext hcl; clear hcl) | with_reducible apply thn_n | with_reducible apply CW.seq | refine CW.region ?_ | refine y20 mixed ?_ | with_reducible apply CW.block | with_reducible apply CW.skip | fail)
      refine CW.cond rfl (fun h2 => ?_) (fun h2 => ?_)
      · rw [Bool.not_eq_true'] at h2
        have hne := mt (eqv_Pos (ps_ l k) (ps_ l' k)).2 (by intro h3; exact absurd (h2.symm.trans h3) (by simp))
        repeat' (first | refine y1 sg ?_ | with_reducible apply OW.nil | with_reducible apply thn_n | with_reducible apply CW.seq | refine CW.region ?_ | with_reducible apply CW.ret | with_reducible apply thn_r | with_reducible apply blk_r | fail)
        exact ret1 rfl H.cl (by
          have : l ≠ l' := fun he => by subst he; exact hne rfl
          simp [this])
      · rw [Bool.not_eq_false'] at h2
        have heq : ps_ l k = ps_ l' k := (eqv_Pos _ _).1 h2
        repeat' (first | refine y1 sg ?_ | with_reducible apply OW.nil | with_reducible apply thn_n | refine CW.region ?_ | with_reducible apply CW.skip | fail)
        refine Again.mk (k + 1) rfl ⟨vsucc (by omega), trivial⟩ ⟨hlt, fun j hj => ?_, H⟩ (by omega)
        by_cases hj' : j = k
        · rw [hj']; exact heq
        · exact hpk j (by omega)
    · repeat' (first | refine y1 sg ?_ | with_reducible apply OW.nil | with_reducible apply thn_n | with_reducible apply CW.seq | refine CW.region ?_ | with_reducible apply CW.ret | with_reducible apply CW.exit | with_reducible apply thn_e | refine y24 ?_ | fail)
      have hkn : k = l.length := by simp at h; omega
      subst hkn
      exact ret1 rfl H.cl (by
        have : l = l' := list_eq hlen hpk
        simp [this])
theorem st_Lin : Tryz.prog.stoodInHeld 52 = false := by kernel_rfl
theorem eg_Lin : Tryz.prog.eqGuardType Tryz.prog.depth 52 = false := by kernel_rfl
theorem eqv_Lin (c d : Ln) : ((c.acct == d.acct) && ((c.seq == d.seq) && ((c.kind == d.kind) && ((c.delta == d.delta) && ((c.bal == d.bal) && true))))) = true ↔ c = d := by
  cases c; cases d
  simp only [Bool.and_eq_true, beq_iff_eq, str_eq3, and_true, Ln.mk.injEq]
theorem c_EqualLin {a a' : Option Addr} {cap cap' : Nat} (l l' : List Ln) {F : Frag} (w0 : World) (hF : Mem w0 F) (hs : SlA F 5 a l.length cap (lnl l)) (hs' : SlA F 5 a' l'.length cap' (lnl l')) :
    Calls Tryz.prog 60 [.slice a l.length cap, .slice a' l'.length cap'].toArray w0 (Ret (.bool (@decide (l = l') (Classical.propDecidable _))) w0) := by
  obtain ⟨hn, hc, b, off, cs, T, fr, hs⟩ := hs
  obtain ⟨hn', hc', b', off', cs', T', fr', hs'⟩ := hs'
  refine enter [.tmp 4] Tryz.func60 rfl Tryz.ntmps60 rfl rfl ?_
  have H := St.start w0
  repeat' (first | refine y1 sg ?_ | with_reducible apply OW.nil | with_reducible apply thn_n | with_reducible apply CW.seq | refine CW.region ?_ | fail)
  refine CW.cond rfl (fun h => ?_) (fun h => ?_)
  · repeat' (first | refine y1 sg ?_ | with_reducible apply OW.nil | with_reducible apply thn_n | with_reducible apply CW.seq | refine CW.region ?_ | with_reducible apply CW.ret | with_reducible apply thn_r | fail)
    exact ret1 rfl H.cl (by
      have : l ≠ l' := fun he => by subst he; simp at h
      simp [this])
  · have hlen : l.length = l'.length := by simp at h; omega
    repeat' (first | refine y1 sg ?_ | with_reducible apply OW.nil | with_reducible apply thn_n | with_reducible apply CW.seq | refine CW.region ?_ | with_reducible apply CW.block | with_reducible apply CW.skip | fail)
    refine CW.loopI [(4, 5), (13, 25)] (fun k : Nat => [(13, .int .i64 (k : Int))]) (fun k w => k ≤ l.length ∧ (∀ j, j < k → l.getD j default = l'.getD j default) ∧ St w0 [] w) (fun k => l.length - k) 0 ⟨rfl, trivial⟩ ⟨Nat.zero_le _, fun j hj => by omega, H⟩ ?_
    clear H
    rintro k g w ⟨hk, hpk, H⟩
    repeat' (first | refine y1 sg ?_ | with_reducible apply OW.nil | with_reducible apply thn_n | with_reducible apply CW.seq | refine CW.region ?_ | fail)
    refine CW.cond rfl (fun h => ?_) (fun h => ?_)
    · have hlt : k < l.length := by simpa using h
      repeat' (first | refine y1 sg ?_ | refine y2 sg ?_ | refine y4 ?_ | (refine y41 sg (hs) ?_ ?_ ?_; (omega); (omega)) | (refine y41 sg (hs') ?_ ?_ ?_; (omega); (omega)) | (refine y43 sg (hs) ((H.memF hF)) ?_ ?_; (omega)) | (refine y43 sg (hs') ((H.memF hF)) ?_ ?_; (omega)) | (refine QX.val rfl rfl (Yq.neqS sg (cs := (ln_ l k).cells) (ds := (ln_ l' k).cells) st_Lin eg_Lin rfl rfl rfl rfl rfl rfl rfl) ?_) | with_reducible apply OW.nil | (with_reducible apply QW.nil; intro w hcl; replace H := H.ext hcl; clear hcl) | with_reducible apply thn_n | with_reducible apply CW.seq | refine CW.region ?_ | refine y20 mixed ?_ | with_reducible apply CW.block | with_reducible apply CW.skip | fail)
      refine CW.cond rfl (fun h2 => ?_) (fun h2 => ?_)
      · rw [Bool.not_eq_true'] at h2
        have hne := mt (eqv_Lin (ln_ l k) (ln_ l' k)).2 (by intro h3; exact absurd (h2.symm.trans h3) (by simp))
        repeat' (first | refine y1 sg ?_ | with_reducible apply OW.nil | with_reducible apply thn_n | with_reducible apply CW.seq | refine CW.region ?_ | with_reducible apply CW.ret | with_reducible apply thn_r | with_reducible apply blk_r | fail)
        exact ret1 rfl H.cl (by
          have : l ≠ l' := fun he => by subst he; exact hne rfl
          simp [this])
      · rw [Bool.not_eq_false'] at h2
        have heq : ln_ l k = ln_ l' k := (eqv_Lin _ _).1 h2
        repeat' (first | refine y1 sg ?_ | with_reducible apply OW.nil | with_reducible apply thn_n | refine CW.region ?_ | with_reducible apply CW.skip | fail)
        refine Again.mk (k + 1) rfl ⟨vsucc (by omega), trivial⟩ ⟨hlt, fun j hj => ?_, H⟩ (by omega)
        by_cases hj' : j = k
        · rw [hj']; exact heq
        · exact hpk j (by omega)
    · repeat' (first | refine y1 sg ?_ | with_reducible apply OW.nil | with_reducible apply thn_n | with_reducible apply CW.seq | refine CW.region ?_ | with_reducible apply CW.ret | with_reducible apply CW.exit | with_reducible apply thn_e | refine y24 ?_ | fail)
      have hkn : k = l.length := by simp at h; omega
      subst hkn
      exact ret1 rfl H.cl (by
        have : l = l' := list_eq hlen hpk
        simp [this])
noncomputable def isEq {α : Type} (x y : α) : Bool := @decide (x = y) (Classical.propDecidable _)
theorem isEq_iff {α : Type} {x y : α} : isEq x y = true ↔ x = y := by unfold isEq; exact @decide_eq_true_iff _ (Classical.propDecidable _)
theorem isEq_ne {α : Type} {x y : α} (h : x ≠ y) : isEq x y = false := by cases hb : isEq x y; rfl; exact absurd (isEq_iff.1 hb) h
theorem sameF_iff (x y : Auc) : sameF x y = true ↔ x = y := by
  cases x; cases y
  simp only [sameF, Bool.and_eq_true, beq_iff_eq, decide_eq_true_iff, Auc.mk.injEq, and_assoc]
theorem c_EqualAuc {a a' : Option Addr} {cap cap' : Nat} (l l' : List Auc) {ad ad' : Nat → Option Addr × Nat} {F : Frag} (w0 : World) (hF : Mem w0 F) (hs : Aucs F a cap l ad) (hs' : Aucs F a' cap' l' ad') :
    Calls Tryz.prog 55 [.slice a l.length cap, .slice a' l'.length cap', .func (.func 56) #[] #[]].toArray w0 (Ret (.bool (isEq l l')) w0) := by
  obtain ⟨⟨hn, hc, b, off, cs, T, fr, hs⟩, hb⟩ := hs
  obtain ⟨⟨hn', hc', b', off', cs', T', fr', hs'⟩, hb'⟩ := hs'
  refine enter [.tmp 6] Tryz.func55 rfl Tryz.ntmps55 rfl rfl ?_
  have H := St.start w0
  repeat' (first | refine y1 sg ?_ | with_reducible apply OW.nil | with_reducible apply thn_n | with_reducible apply CW.seq | refine CW.region ?_ | fail)
  refine CW.cond rfl (fun h => ?_) (fun h => ?_)
  · repeat' (first | refine y1 sg ?_ | with_reducible apply OW.nil | with_reducible apply thn_n | with_reducible apply CW.seq | refine CW.region ?_ | with_reducible apply CW.ret | with_reducible apply thn_r | fail)
    exact ret1 rfl H.cl (by
      have : l ≠ l' := fun he => by subst he; simp at h
      rw [isEq_ne this])
  · have hlen : l.length = l'.length := by simp at h; omega
    repeat' (first | refine y1 sg ?_ | with_reducible apply OW.nil | with_reducible apply thn_n | with_reducible apply CW.seq | refine CW.region ?_ | with_reducible apply CW.block | with_reducible apply CW.skip | fail)
    refine CW.loopI [(6, 9), (17, 31)] (fun k : Nat => [(17, .int .i64 (k : Int))]) (fun k w => k ≤ l.length ∧ (∀ j, j < k → l.getD j default = l'.getD j default) ∧ St w0 [] w) (fun k => l.length - k) 0 ⟨rfl, trivial⟩ ⟨Nat.zero_le _, fun j hj => by omega, H⟩ ?_
    clear H
    rintro k g w ⟨hk, hpk, H⟩
    repeat' (first | refine y1 sg ?_ | with_reducible apply OW.nil | with_reducible apply thn_n | with_reducible apply CW.seq | refine CW.region ?_ | fail)
    refine CW.cond rfl (fun h => ?_) (fun h => ?_)
    · have hlt : k < l.length := by simpa using h
      repeat' (first | refine y1 sg ?_ | refine y3 ?_ | refine y7 sg H ?_ | (refine y10 sg H ?_; intro b w H) | (refine y11 sg H ?_; intro w H) | (refine y40 sg (hs) ?_ ?_ ?_; (omega); (omega)) | (refine y40 sg (hs') ?_ ?_ ?_; (omega); (omega)) | (refine y42 sg (hs) ((H.memF hF)) ?_ ?_; (omega)) | (refine y42 sg (hs') ((H.memF hF)) ?_ ?_; (omega)) | (refine' y34 ent56 ?_ ?_; rotate_left; exact c_Same (l.getD k default) (l'.getD k default) _ (H.memF hF) (hb k hlt) (hb' k (by omega)); intro w hcl; replace H := H.ext hcl; clear hcl) | with_reducible apply OW.nil | with_reducible apply thn_n | with_reducible apply CW.seq | refine CW.region ?_ | with_reducible apply CW.block | with_reducible apply CW.skip | fail)
      refine CW.cond rfl (fun h2 => ?_) (fun h2 => ?_)
      · have hne : l.getD k default ≠ l'.getD k default := fun he => by rw [(sameF_iff _ _).2 he] at h2; cases h2
        repeat' (first | refine y1 sg ?_ | with_reducible apply OW.nil | with_reducible apply thn_n | with_reducible apply CW.seq | refine CW.region ?_ | with_reducible apply CW.ret | with_reducible apply thn_r | with_reducible apply blk_r | fail)
        exact ret1 rfl H.cl (by
          have : l ≠ l' := fun he => by subst he; exact hne rfl
          rw [isEq_ne this])
      · have heq := (sameF_iff (l.getD k default) (l'.getD k default)).1 (by simpa using h2)
        repeat' (first | refine y1 sg ?_ | with_reducible apply OW.nil | with_reducible apply thn_n | refine CW.region ?_ | with_reducible apply CW.skip | fail)
        refine Again.mk (k + 1) rfl ⟨vsucc (by omega), trivial⟩ ⟨hlt, fun j hj => ?_, (H.sub (List.sublist_cons_self _ _)).sub (List.sublist_cons_self _ _)⟩ (by omega)
        by_cases hj' : j = k
        · rw [hj']; exact heq
        · exact hpk j (by omega)
    · repeat' (first | refine y1 sg ?_ | with_reducible apply OW.nil | with_reducible apply thn_n | with_reducible apply CW.seq | refine CW.region ?_ | with_reducible apply CW.ret | with_reducible apply CW.exit | with_reducible apply thn_e | refine y24 ?_ | fail)
      have hkn : k = l.length := by simp at h; omega
      subst hkn
      exact ret1 rfl H.cl (by
        have : l = l' := list_eq hlen hpk
        rw [isEq_iff.2 this])
set_option maxHeartbeats 2000000 in
theorem c_stSame {F : Frag} (s t : Sta) (p q : SPt) (w0 : World) (hF : Mem w0 F) (hs : StaM F s p) (ht : StaM F t q) :
    Calls Tryz.prog 13 [.agg (s.cells p).toArray, .agg (t.cells q).toArray].toArray w0 (Ret (.bool (isEq s t)) w0) := by
  have hq : isEq s t = (s.clock == t.clock && s.fee == t.fee && s.nextO == t.nextO && s.nextA == t.nextA && isEq s.accts t.accts && isEq s.insts t.insts && isEq s.rows t.rows && isEq s.orders t.orders && isEq s.aucs t.aucs) := by
    rw [Bool.eq_iff_iff, isEq_iff]
    cases s; cases t
    simp only [Bool.and_eq_true, beq_iff_eq, isEq_iff, Sta.mk.injEq, and_assoc]
  rw [hq]
  refine enter [.tmp 4] Tryz.func13 rfl Tryz.ntmps13 rfl rfl ?_
  have H := St.start w0
  repeat' (first | refine y1 sg ?_ | refine y3 ?_ | refine y5 sg ?_ | refine y7 sg H ?_ | (refine y9 H ?_; intro b w H) | (refine' y30 ent51 ?_ ?_; rotate_left; exact c_EqualAcc s.accts t.accts _ (H.memF hF) hs.ac ht.ac; intro w hcl; replace H := H.ext hcl; clear hcl) | (refine' y30 ent52 ?_ ?_; rotate_left; exact c_EqualIns s.insts t.insts _ (H.memF hF) hs.ins ht.ins; intro w hcl; replace H := H.ext hcl; clear hcl) | (refine' y30 ent53 ?_ ?_; rotate_left; exact c_EqualRow s.rows t.rows _ (H.memF hF) hs.rw ht.rw; intro w hcl; replace H := H.ext hcl; clear hcl) | (refine' y30 ent54 ?_ ?_; rotate_left; exact c_EqualOrd s.orders t.orders _ (H.memF hF) hs.od ht.od; intro w hcl; replace H := H.ext hcl; clear hcl) | (refine' y30 ent55 ?_ ?_; rotate_left; exact c_EqualAuc s.aucs t.aucs _ (H.memF hF) hs.au ht.au; intro w hcl; replace H := H.ext hcl; clear hcl) | refine y13 ?_ | refine y14 ?_ | (refine y17 ?_ ?_; all_goals intro h) | with_reducible apply OW.nil | with_reducible apply thn_n | with_reducible apply CW.seq | refine CW.region ?_ | with_reducible apply CW.ret | fail)
  all_goals exact ret1 rfl H.cl (congrArg Value.bool (by unfold isEq at *; simp only [*, Bool.true_and, Bool.and_true, Bool.false_and, Bool.and_false]))
set_option maxHeartbeats 2000000 in
theorem c_vwSame {F : Frag} (s t : Vws) (p q : VPt) (w0 : World) (hF : Mem w0 F) (hs : VwM F s p) (ht : VwM F t q) :
    Calls Tryz.prog 14 [.agg (s.cells p).toArray, .agg (t.cells q).toArray].toArray w0 (Ret (.bool (isEq s t)) w0) := by
  have hq : isEq s t = (isEq s.opn t.opn && isEq s.lots t.lots && isEq s.poss t.poss && isEq s.lins t.lins) := by
    rw [Bool.eq_iff_iff, isEq_iff]
    cases s; cases t
    simp only [Bool.and_eq_true, beq_iff_eq, isEq_iff, Vws.mk.injEq, and_assoc]
  rw [hq]
  refine enter [.tmp 4] Tryz.func14 rfl Tryz.ntmps14 rfl rfl ?_
  have H := St.start w0
  repeat' (first | refine y1 sg ?_ | refine y3 ?_ | refine y5 sg ?_ | refine y7 sg H ?_ | (refine y9 H ?_; intro b w H) | (refine' y30 ent57 ?_ ?_; rotate_left; exact c_EqualOpn s.opn t.opn _ (H.memF hF) hs.op ht.op; intro w hcl; replace H := H.ext hcl; clear hcl) | (refine' y30 ent58 ?_ ?_; rotate_left; exact c_EqualLot s.lots t.lots _ (H.memF hF) hs.lt ht.lt; intro w hcl; replace H := H.ext hcl; clear hcl) | (refine' y30 ent59 ?_ ?_; rotate_left; exact c_EqualPos s.poss t.poss _ (H.memF hF) hs.ps ht.ps; intro w hcl; replace H := H.ext hcl; clear hcl) | (refine' y30 ent60 ?_ ?_; rotate_left; exact c_EqualLin s.lins t.lins _ (H.memF hF) hs.ln ht.ln; intro w hcl; replace H := H.ext hcl; clear hcl) | refine y13 ?_ | refine y14 ?_ | (refine y17 ?_ ?_; all_goals intro h) | with_reducible apply OW.nil | with_reducible apply thn_n | with_reducible apply CW.seq | refine CW.region ?_ | with_reducible apply CW.ret | fail)
  all_goals exact ret1 rfl H.cl (congrArg Value.bool (by unfold isEq at *; simp only [*, Bool.true_and, Bool.and_true, Bool.false_and, Bool.and_false]))
end Go.Proofs.YtggolnppckpdlaaGreat
