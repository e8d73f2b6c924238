/- More steps: 'make' of a slice, elements of one cell. -/
import Derived.Test.YtkcoemikglbomaaShort
import Derived.Laws.MakeOwn
namespace Go.Sk
open Go Go.RowKit
section
attribute [local semireducible] OX OW QX QW RA
variable {P : Program} {n : Nat} {ops : Array Oper} {Q : Post} {o : Oper} {rest : List Oper} {L : List (Nat × Value)} {b0 : Env} {w : World} (S : Sig P)
theorem made_els (z : List Value) (c : Nat) : Els ((madeCells z.toArray (c * z.length)).toList) z.length c (fun _ => z) := by
  intro j hj
  have h1 : (j + 1) * z.length ≤ c * z.length := Nat.mul_le_mul_right _ hj
  rw [Nat.add_mul, Nat.one_mul] at h1
  have hl : (madeCells z.toArray (c * z.length)).toList.length = c * z.length := by simp [madeCells]
  refine ⟨by rw [hl]; exact h1, ?_⟩
  apply List.ext_getElem
  · show _ = z.length; rw [List.length_take, List.length_drop, hl]; omega
  · intro i g1 g2
    rw [List.getElem_take, List.getElem_drop]
    simp only [madeCells, Array.toList_map, Array.toList_range, List.getElem_map, List.getElem_range, List.size_toArray]
    have : (j * z.length + i) % z.length = i := by rw [Nat.mul_comm, Nat.mul_add_mod, Nat.mod_eq_of_lt g2]
    rw [this]
    simp [g2]
theorem OX.mkS {w0 : World} {G : Frag} {t E : TypeId} {d c : Nat} {x y : Operand} {k k' : IntKind} {m m' : Int} {ti te : TI} (H : St w0 G w) (hb : c * te.bytes ≤ 281474976710656) (hc : c ≤ 9223372036854775807) (hm : m = c) (hm' : m' = c)
    (kk : ∀ b cs w', Els cs te.size c (fun _ => te.zero) → cs.length = c * te.size → St w0 (cb b cs E :: G) w' → OW P n ops Q rest (ovl ((d, .slice (some ⟨b, 0, none⟩) c c) :: L) b0) w')
    (ho : o.op = .makeSlice t x y := by exact rfl) (hd : o.dst = some d := by exact rfl) (hlt : Nat.blt d n = true := by exact rfl)
    (hx : ev (ovl L b0) x = .int k m := by exact rfl) (hy : ev (ovl L b0) y = .int k' m' := by exact rfl) (ht : lk S.tab t = some ti := by exact rfl) (htd : ti.d = .slice E := by exact rfl) (he : lk S.tab E = some te := by exact rfl) (hz : Nat.beq te.zero.length te.size = true := by exact rfl) : OX P n ops Q o rest (ovl L b0) w := by
  subst hm
  subst hm'
  intro a ha
  unfold Oper.wp
  rw [ha.eval]
  have hu := S.und ht
  rw [htd] at hu
  obtain ⟨f, hf1, hf2, hf3⟩ := S.inf he
  obtain ⟨zv, hz1, hz2⟩ := Option.map_eq_some_iff.1 hf3
  obtain ⟨i2, hi2, hb2⟩ := S.byt he
  rw [hf1] at hi2
  cases hi2
  have hzl := Nat.eq_of_beq_eq_true hz
  have hr := run_make (P := P) w t E f zv hu hf1 hz1 k k' c c (by omega) (by omega) (by rw [hb2, ← Int.natCast_mul, Nat.mul_comm]; omega) (by omega)
  simp only [Int.toNat_natCast] at hr
  have h := made_els te.zero c
  have hl : (madeCells te.zero.toArray (c * te.zero.length)).toList.length = c * te.zero.length := by simp [madeCells]
  rw [hf2, hz2, ← hzl] at hr
  simp only [execOp, ho, hx, hy, Sem.run_bind, hr, Result.andThen_ok, Sem.run_pure, Oper.upon_value, hd]
  have hst := H.alloc (.cells (madeCells te.zero.toArray (c * te.zero.length)) E)
  exact kk _ ((madeCells te.zero.toArray (c * te.zero.length)).toList) _ (by rw [← hzl]; exact h) (by rw [← hzl]; exact hl) (by simpa using hst) _ (ha.put hlt _)
end
section
variable {P : Program} {n : Nat} {ops : Array Oper} {Q : Post} {K : Env → World → Prop} {o : Oper} {rest : List Oper} {L : List (Nat × Value)} {b : Env} {w : World} (S : Sig P)
theorem y46 {F : Frag} {a : Option Addr} {m b' off : Nat} {cs : List Value} {T : TypeId} {fr : Nat × Nat} {el : Nat → List Value} {d : Nat} {t : TypeId} {x : Operand} {j : Nat} {ti : TI} {v : Value} (hs : SlB F 1 a m b' off cs T fr el) (hM : Mem w F) (hj : j < m)
    (kk : OW P n ops Q rest (ovl ((d, v) :: L) b) w) (hd : o.dst = some d := by exact rfl) (hlt : Nat.blt d n = true := by exact rfl) (ho : o.op = .load t x := by exact rfl) (hx : ev (ovl L b) x = .pointer (some ⟨b', off + j * 1, none⟩) := by exact rfl) (ht : lk S.tab t = some ti := by exact rfl) (hag : isAgD ti.d = false := by exact rfl) (hv : (match (el j)[0]? with | some v => nf v | none => none) = some v := by exact rfl) : OX P n ops Q o rest (ovl L b) w :=
  OX.val hd hlt (Yq.loadB1 S hs hM ho hx ht hag hj hv) kk
theorem y47 {F : Frag} {a : Option Addr} {m b' off : Nat} {cs : List Value} {T : TypeId} {fr : Nat × Nat} {el : Nat → List Value} {d : Nat} {t : TypeId} {x : Operand} {j : Nat} {ti : TI} {v : Value} (hs : SlB F 1 a m b' off cs T fr el) (hM : Mem w F) (hj : j < m)
    (kk : QW P n ops K rest (ovl ((d, v) :: L) b) w) (hd : o.dst = some d := by exact rfl) (hlt : Nat.blt d n = true := by exact rfl) (ho : o.op = .load t x := by exact rfl) (hx : ev (ovl L b) x = .pointer (some ⟨b', off + j * 1, none⟩) := by exact rfl) (ht : lk S.tab t = some ti := by exact rfl) (hag : isAgD ti.d = false := by exact rfl) (hv : (match (el j)[0]? with | some v => nf v | none => none) = some v := by exact rfl) : QX P n ops K o rest (ovl L b) w :=
  QX.val hd hlt (Yq.loadB1 S hs hM ho hx ht hag hj hv) kk
end
end Go.Sk
