/- More steps for the walk: writing into rows of one's own, parts of rows. -/
import Derived.Test.YtkcoemikglbomaaCore
namespace Go.Sk
open Go Go.RowKit
attribute [local semireducible] OX OW QX QW RA
theorem u64_id {x : Int} (h0 : 0 ≤ x) (h1 : x < 18446744073709551616) : IntKind.u64.wrap x = x := by
  simp [IntKind.wrap, IntKind.bits, IntKind.signed]; omega
theorem u64_ge (x : Int) : 0 ≤ IntKind.u64.wrap x := by
  simp [IntKind.wrap, IntKind.bits, IntKind.signed]; omega
/-- A number's rest by a length, as Go reckons it. -/
theorem rest_of (x : Int) {n : Nat} (h0 : 0 < n) (h1 : n ≤ 140737488355328) : ∃ k : Nat, k < n ∧ (IntKind.u64.wrap x).tmod (IntKind.u64.wrap n) = k ∧ IntKind.i64.wrap k = k := by
  rw [u64_id (x := n) (by omega) (by omega)]
  have h2 := u64_ge x
  have h3 := Int.tmod_nonneg (n : Int) h2
  have h4 := Int.tmod_lt_of_pos (IntKind.u64.wrap x) (b := (n : Int)) (by omega)
  refine ⟨((IntKind.u64.wrap x).tmod n).toNat, by omega, by omega, ?_⟩
  rw [w64 (by omega) (by omega)]
theorem Mem.sub {w : World} {F G : Frag} (h : Mem w G) (hs : F ⊆ G) : Mem w F := fun p hp => h p (hs hp)
section
variable {P : Program} {n : Nat} {ops : Array Oper} {Q : Post} {o : Oper} {rest : List Oper} {L : List (Nat × Value)} {b0 : Env} {w : World} (S : Sig P)
/-- A store at a place that is no numeral. -/
theorem OX.storeX {w0 : World} {G G' : Frag} {t : TypeId} {x y : Operand} {v : Value} {cs vs : List Value} {b off : Nat} {T : TypeId} {ti : TI} (H : St w0 G w) (ho : o.op = .store t x y) (hd : o.dst = none)
    (hx : ev (ovl L b0) x = .pointer (some ⟨b, off, none⟩)) (hy : ev (ovl L b0) y = v) (hv : v.cells = vs.toArray) (ht : lk S.tab t = some ti)
    (hsz : vs.length = ti.size) (hu : Up b (.cells cs.toArray T (0, 0)) (.cells (wr cs off vs).toArray T (0, 0)) G G') (hfit : off + vs.length ≤ cs.length) (h1 : ∀ u ∈ vs, u.oneCell' = true)
    (k : ∀ w', St w0 G' w' → OW P n ops Q rest (ovl L b0) w') : OX P n ops Q o rest (ovl L b0) w := by
  intro a ha
  unfold Oper.wp
  rw [ha.eval]
  have hg := H.mem _ hu.mem
  have hst := run_storeCells_at P b off T vs 0 cs.toArray w hg (by simpa using hfit) h1
  simp only [Nat.add_zero] at hst
  have hsz' : v.cells.size = ti.size := by rw [hv]; simpa using hsz
  have hl : v.cells.toList = vs := by rw [hv]
  simp only [execOp, ho, Instr.storeAt, hx, hy, Instr.sureAddr, storeVar, Sem.run_bind, Sem.run_pure, Result.andThen_ok, S.run_size ht, hsz', ne_eq, not_true, if_false, hl, hst, Oper.upon_skip, hd]
  exact k _ (H.row hu) _ ha
theorem Yq.rem {e : Env} {t yT : TypeId} {x y : Operand} {k : IntKind} {p q : Int} (ho : o.op = .binOp .rem t x y yT) (hx : ev e x = .int k p) (hy : ev e y = .int k q) (hq : q ≠ 0) : Yq P o e w (.int k (p.tmod q)) := by
  refine Yq.of fun w' => ?_
  simp [execOp, ho, hx, hy, eqGuard, binOp, Op.intDiv, hq]
theorem Yq.quo {e : Env} {t yT : TypeId} {x y : Operand} {k : IntKind} {p q : Int} (ho : o.op = .binOp .quo t x y yT) (hx : ev e x = .int k p) (hy : ev e y = .int k q) (hq : q ≠ 0) : Yq P o e w (.int k (k.wrap (p.tdiv q))) := by
  refine Yq.of fun w' => ?_
  simp [execOp, ho, hx, hy, eqGuard, binOp, Op.intDiv, hq]
end
theorem RA.c3 {n : Nat} {P : Program} {Q : Post} {e : Env} {w : World} {l : List Oper} {s : Array Bool} {m : Nat} (i j k : Nat) {o o' o'' : Oper} {m' : Nat} (hm : m' = m + 1) (hB : (Region.ready .any l.toArray s == [i, j, k]) = true) (ho : l[i]? = some o) (ho' : l[j]? = some o') (ho'' : l[k]? = some o'')
    (h : OW P n l.toArray (thn (fun e' w' => RA P n l (s.setIfInBounds i true) m Q e' w') (fun _ _ _ => False)) [o] e w)
    (h' : OW P n l.toArray (thn (fun e' w' => RA P n l (s.setIfInBounds j true) m Q e' w') (fun _ _ _ => False)) [o'] e w)
    (h'' : OW P n l.toArray (thn (fun e' w' => RA P n l (s.setIfInBounds k true) m Q e' w') (fun _ _ _ => False)) [o''] e w) : RA P n l s m' Q e w := by
  subst hm
  intro a ha
  refine wpAny_all (rs := [i, j, k]) (by simpa using hB) (by simp) (fun q hk => ?_)
  simp only [List.mem_cons, List.not_mem_nil, or_false] at hk
  rcases hk with rfl | rfl | rfl
  · exact wpOp_of ho (fun a e w hf hk => hk a hf) h a ha
  · exact wpOp_of ho' (fun a e w hf hk => hk a hf) h' a ha
  · exact wpOp_of ho'' (fun a e w hf hk => hk a hf) h'' a ha
/-- All ways through a piece of code meet again behind it: 'J' holds there, 'val' are the slots that are asked later. -/
theorem CW.mid {P : Program} {n : Nat} {Q : Post} {K : Env → World → Prop} {L : List (Nat × Value)} {b : Env} {w : World} {ι : Type} {c : Code} (W : List (Nat × Nat)) (val : ι → List (Nat × Value)) (J : ι → World → Prop)
    (h1 : ∀ g, CW P n c (thn (Again W (ovl L b) val J (fun _ => 0) 1) Q) (ovl [] (msk W g (ovl L b))) w) (h2 : ∀ x g w, J x w → K (ovl (val x) (msk W g (ovl L b))) w) : CW P n c (thn K Q) (ovl L b) w := by
  have h := h1 (ovl L b)
  rw [msk_self (fun _ _ => rfl)] at h
  refine CW.mono (fun x e w hq => ?_) h
  cases x with
  | normal =>
    obtain ⟨x', hk, hv, hJ, _⟩ := hq
    have he : ovl (val x') (msk W e (ovl L b)) = e := by rw [msk_self hk, vals_ovl hv]
    have := h2 x' e w hJ
    rw [he] at this
    exact this
  | _ => exact hq
/-- A part of one element written over. -/
theorem Els_wrf {cs vs : List Value} {size n k f : Nat} {el : Nat → List Value} (h : Els cs size n el) (hk : k < n) (hv : f + vs.length ≤ size) : Els (wr cs (k * size + f) vs) size n (fun j => if j = k then wr (el k) f vs else el j) := by
  intro j hj
  have hk1 := (h k hk).1
  have hke := (h k hk).2
  obtain ⟨h1, h2⟩ := h j hj
  refine ⟨by rw [wr_len (by omega)]; exact h1, ?_⟩
  have hek : (el k).length = size := by rw [← hke, List.length_take, List.length_drop]; omega
  apply List.ext_getElem?
  intro i
  rw [List.getElem?_take, List.getElem?_drop, wr_get (by omega)]
  have hlt : j ≠ k → i < size → ¬ (k * size + f ≤ j * size + i ∧ j * size + i < k * size + f + vs.length) := by
    intro hne h3 ⟨h4, h5⟩
    rcases Nat.lt_or_gt_of_ne hne with h6 | h6
    · have : (j + 1) * size ≤ k * size := Nat.mul_le_mul_right _ h6
      rw [Nat.add_mul, Nat.one_mul] at this; omega
    · have : (k + 1) * size ≤ j * size := Nat.mul_le_mul_right _ h6
      rw [Nat.add_mul, Nat.one_mul] at this; omega
  by_cases hjk : j = k
  · subst hjk
    show _ = (if j = j then wr (el j) f vs else el j)[i]?
    rw [if_pos (rfl : j = j), wr_get (by omega)]
    by_cases hi : i < size
    · rw [if_pos hi]
      by_cases h5 : f ≤ i ∧ i < f + vs.length
      · rw [if_pos h5, if_pos (by omega)]; congr 1; omega
      · rw [if_neg h5, if_neg (by omega), ← h2, List.getElem?_take, if_pos hi, List.getElem?_drop]
    · rw [if_neg hi, if_neg (by omega), List.getElem?_eq_none (by omega)]
  · show _ = (if j = k then wr (el k) f vs else el j)[i]?
    rw [if_neg hjk, ← h2, List.getElem?_take, List.getElem?_drop]
    by_cases hi : i < size
    · rw [if_pos hi, if_pos hi, if_neg (hlt hjk hi)]
    · rw [if_neg hi, if_neg hi]
end Go.Sk
