/- Texts of ours, joined: the steps of the proof, or the claim's theorem. -/
import Derived.Maps.RangeRun
import Derived.RangeFuncLeaves
import Derived.RangeFuncNested
import Derived.Test.YtggolnppckpdlaaGreatR02
import Derived.Test.YtggolnppckpdlaaGreatR03
import Derived.Test.YtggolnppckpdlaaGreatR04
import Derived.Test.YtggolnppckpdlaaGreatR11
import Derived.Test.YtggolnppckpdlaaGreatR12
import Derived.Test.YtggolnppckpdlaaGreatR16
set_option linter.unusedSimpArgs false
set_option linter.unusedVariables false
namespace Go.Proofs.YtggolnppckpdlaaGreat
open Go Go.Sk Go.RowKit
def zCB {α : Type} (P : α → List Nat → Prop) : Prop := ∀ x y a b r t, P x a → P y b → a ++ r = b ++ t → x = y ∧ r = t
theorem zED : ∀ (n m : Nat) (r t : List Nat), short n ++ r = short m ++ t → n = m ∧ r = t := by
 intro n
 induction n using Nat.strongRecOn with
 | ind n ih =>
   intro m r t h
   by_cases h1 : n < 128
   ·rw [zAP h1] at h
    by_cases h2 : m < 128
    ·rw [zAP h2] at h
     exact ⟨(List.cons.inj h).1, (List.cons.inj h).2⟩
    ·rw [zA0 h2] at h
     have := (List.cons.inj h).1; omega
   ·rw [zA0 h1] at h
    by_cases h2 : m < 128
    ·rw [zAP h2] at h
     have := (List.cons.inj h).1; omega
    ·rw [zA0 h2] at h
     obtain ⟨e1, e2⟩ := List.cons.inj h
     obtain ⟨e3, e4⟩ := ih (n / 128) (by omega) (m / 128) r t e2
     exact ⟨by omega, e4⟩
theorem zCC : zCB zBq := by
 rintro x y a b r t rfl rfl h
 exact ⟨rfl, h⟩
theorem zq {most : Nat} (hm : most < 18446744073709551616) : zCB (ze most) := by
 rintro x y a b r t ⟨h1, h2, rfl⟩ ⟨h3, h4, rfl⟩ h
 obtain ⟨e1, e2⟩ := zED _ _ _ _ h
 rw [zAv h1 (by omega), zAv h3 (by omega)] at e1
 exact ⟨by omega, e2⟩
theorem zHe : zCB zDW := by
 rintro x y a b r t rfl rfl h
 obtain ⟨e1, e2⟩ := List.cons.inj h
 refine ⟨?_, e2⟩
 cases x <;> cases y <;> first | rfl | simp at e1
theorem zHf : zCB (zDp 1) := by
 rintro x y a b r t ⟨h1, rfl⟩ ⟨h2, rfl⟩ h
 obtain ⟨e1, e2⟩ := List.cons.inj h
 exact ⟨by have : x < 256 := h1; have : y < 256 := h2; omega, e2⟩
theorem zK4 {most : Nat} : zCB (zFH most) := by
 rintro x y a b r t ⟨h1, rfl⟩ ⟨h2, rfl⟩ h
 rw [List.append_assoc, List.append_assoc] at h
 obtain ⟨e1, e2⟩ := zED _ _ _ _ h
 obtain ⟨e3, e4⟩ := List.append_inj e2 (by rw [zP, zP, e1])
 exact ⟨zCt e3, e4⟩
theorem za {α β : Type} {P : α → List Nat → Prop} {Q : β → List Nat → Prop} (hP : zCB P) (hQ : zCB Q) : zCB (sqP P Q) := by
 rintro ⟨x1, x2⟩ ⟨y1, y2⟩ a b r t ⟨a1, a2, p1, p2, rfl⟩ ⟨b1, b2, q1, q2, rfl⟩ h
 rw [List.append_assoc, List.append_assoc] at h
 obtain ⟨e1, e2⟩ := hP _ _ _ _ _ _ p1 q1 h
 obtain ⟨e3, e4⟩ := hQ _ _ _ _ _ _ p2 q2 e2
 exact ⟨Prod.ext e1 e3, e4⟩
theorem zCD {α β : Type} {P : α → List Nat → Prop} {Q : β → List Nat → Prop} (f : α → β) (g : β → α) (hP : zCB P) (hQP : ∀ z l, Q z l → f (g z) = z ∧ P (g z) l) : zCB Q := by
 intro x y a b r t h1 h2 h
 obtain ⟨e1, p1⟩ := hQP _ _ h1
 obtain ⟨e2, p2⟩ := hQP _ _ h2
 obtain ⟨e3, e4⟩ := hP _ _ _ _ _ _ p1 p2 h
 exact ⟨by rw [← e1, ← e2, e3], e4⟩
theorem zK5 {α : Type} {P : α → List Nat → Prop} (hP : zCB P) : ∀ (xs ys : List α) (a b r t : List Nat), xs.length = ys.length → zCH P xs a → zCH P ys b → a ++ r = b ++ t → xs = ys ∧ r = t
 | [], [], _, _, r, t, _, rfl, rfl, h => ⟨rfl, h⟩
 | x :: xs, y :: ys, _, _, r, t, hl, ⟨a1, a2, p1, p2, rfl⟩, ⟨b1, b2, q1, q2, rfl⟩, h => by
   rw [List.append_assoc, List.append_assoc] at h
   obtain ⟨rfl, e2⟩ := hP _ _ _ _ _ _ p1 q1 h
   obtain ⟨rfl, e4⟩ := zK5 hP xs ys a2 b2 r t (by simpa using hl) p2 q2 e2
   exact ⟨rfl, e4⟩
theorem zB1 {α : Type} {P : α → List Nat → Prop} (hP : zCB P) : zCB (zy P) := by
 rintro xs ys a b r t ⟨a1, p1, rfl⟩ ⟨b1, q1, rfl⟩ h
 rw [List.append_assoc, List.append_assoc] at h
 obtain ⟨e1, e2⟩ := zED _ _ _ _ h
 exact zK5 hP _ _ _ _ _ _ e1 p1 q1 e2
end Go.Proofs.YtggolnppckpdlaaGreat
set_option linter.unusedSectionVars false
set_option linter.unusedSimpArgs false
namespace Go.Sk
open Go Go.RowKit
open Go.ChangeMaps (setBlock)
structure KeyT (P : Program) (kt : TypeId) (ι : Type) [DecidableEq ι] where
 v : ι → Value
 eq : ∀ x y (w : World), (Op.equal kt (v x) (v y)).run P w = .ok (decide (x = y)) w
 chk : ∀ b x (w : World), (Instr.checkKey b 10000 kt (v x)).run P w = .ok () w
 same : ∀ x, Instr.sameBits 10000 (v x) (v x) = true
 d : TypeDesc
 und : P.underlying kt = some d
 now : ∀ x y, Instr.sameNow d (v x) (v y) = none ∨ Instr.sameNow d (v x) (v y) = some (decide (x = y))
section
variable {P : Program} {kt : TypeId} {ι ν : Type} [DecidableEq ι]
abbrev ME (ι ν : Type) := ι × ν × Nat
def zBE (K : KeyT P kt ι) (val : ν → Value) (es : List (ME ι ν)) : List MapEntry := es.map fun e => ⟨K.v e.1, val e.2.1, e.2.2⟩
def mo (K : KeyT P kt ι) (val : ν → Value) (es : List (ME ι ν)) (clock : Nat) : Obj := .map (zBE K val es).toArray clock
def fnd (x : ι) : List (ME ι ν) → Nat → Option (Nat × ν)
 | [], _ => none
 | e :: r, i => if x = e.1 then some (i, e.2.1) else fnd x r (i + 1)
theorem zGE (K : KeyT P kt ι) (val : ν → Value) (x : ι) : ∀ (es : List (ME ι ν)) (i : Nat), Instr.findNow K.d (K.v x) (zBE K val es) i = none ∨ Instr.findNow K.d (K.v x) (zBE K val es) i = some ((fnd x es i).map fun p => (p.1, val p.2))
 | [], _ => .inr rfl
 | e :: r, i => by
   simp only [zBE, List.map_cons, Instr.findNow, fnd]
   rcases K.now x e.1 with h | h
   ·rw [h]; exact .inl rfl
   ·rw [h]
    by_cases he : x = e.1
    ·simp [he]
    ·simp only [he, decide_false, if_false]
     exact zGE K val x r (i + 1)
theorem zDx (K : KeyT P kt ι) (val : ν → Value) (x : ι) (w : World) : ∀ (es : List (ME ι ν)) (i : Nat), (Instr.findAsking kt (K.v x) (zBE K val es) i).run P w = .ok ((fnd x es i).map fun p => (p.1, val p.2)) w
 | [], _ => rfl
 | e :: r, i => by
   simp only [zBE, List.map_cons, Instr.findAsking, fnd, Sem.run_bind, K.eq, Result.andThen_ok]
   by_cases he : x = e.1
   ·simp [he]
   ·simp only [he, decide_false, Bool.false_eq_true, if_false]
    exact zDx K val x w r (i + 1)
theorem zDB (K : KeyT P kt ι) (val : ν → Value) (x : ι) (es : List (ME ι ν)) (w : World) : (Instr.findKey kt (K.v x) (zBE K val es)).run P w = .ok ((fnd x es 0).map fun p => (p.1, val p.2)) w := by
 unfold Instr.findKey
 rw [Sem.run_bind, run_underlying K.und, Result.andThen_ok]
 rcases zGE K val x es 0 with h | h
 ·rw [h]; exact zDx K val x w es 0
 ·rw [h]; rfl
def atM (es : List (ME ι ν)) (x : ι) : Option ν := (fnd x es 0).map (·.2)
theorem zHg (x : ι) : ∀ (es : List (ME ι ν)) (i : Nat), (fnd x es i).map (·.2) = atM es x
 | [], _ => rfl
 | e :: r, i => by
   unfold atM
   simp only [fnd]
   by_cases h : x = e.1
   ·simp [h]
   ·simp only [h, if_false]
    rw [zHg x r (i + 1), zHg x r (0 + 1)]
theorem zBM (x : ι) (e : ME ι ν) (r : List (ME ι ν)) : atM (e :: r) x = if x = e.1 then some e.2.1 else atM r x := by
 conv => lhs; unfold atM
 simp only [fnd]
 by_cases h : x = e.1
 ·simp [h]
 ·simp only [h, if_false]; exact zHg x r (0 + 1)
theorem zK6 (x : ι) : atM ([] : List (ME ι ν)) x = none := rfl
def zGi (es : List (ME ι ν)) (clock : Nat) (x : ι) (v : ν) : List (ME ι ν) :=
 match fnd x es 0 with
 | some p => es.modify p.1 fun e => (e.1, v, e.2.2)
 | none => es ++ [(x, v, clock)]
def zEe (es : List (ME ι ν)) (clock : Nat) (x : ι) : Nat := if (fnd x es 0).isSome then clock else clock + 1
theorem zCR {x : ι} : ∀ {es : List (ME ι ν)} {i k : Nat} {v : ν}, fnd x es i = some (k, v) → i ≤ k ∧ ∃ c, es[k - i]? = some (x, v, c)
 | e :: r, i, k, v, h => by
   simp only [fnd] at h
   by_cases he : x = e.1
   ·rw [if_pos he] at h
    cases h
    exact ⟨Nat.le_refl _, e.2.2, by simp [he]⟩
   ·rw [if_neg he] at h
    obtain ⟨h1, c, h2⟩ := zCR h
    refine ⟨by omega, c, ?_⟩
    rw [show k - i = (k - (i + 1)) + 1 by omega, List.getElem?_cons_succ]
    exact h2
theorem zGF (K : KeyT P kt ι) (val : ν → Value) (es : List (ME ι ν)) (i : Nat) : (zBE K val es).toArray[i]? = (es[i]?).map fun e => ⟨K.v e.1, val e.2.1, e.2.2⟩ := by simp [zBE]
theorem zIb (K : KeyT P kt ι) (val : ν → Value) (x : ι) (v : ν) {es : List (ME ι ν)} {k c : Nat} {u : ν} (h : es[k]? = some (x, u, c)) :
  (zBE K val es).toArray.modify k (fun e => { e with key := K.v x, val := val v }) = (zBE K val (es.modify k fun e => (e.1, v, e.2.2))).toArray := by
 apply Array.ext'
 simp only [zBE, Array.toList_modify]
 apply List.ext_getElem?
 intro i
 simp only [List.getElem?_modify, List.getElem?_map]
 by_cases hi : k = i
 ·subst hi; simp [h]
 ·simp [hi]
theorem zGj (K : KeyT P kt ι) (val : ν → Value) {t et : TypeId} (ht : P.underlying t = some (.map kt et)) {w : World} {b : Nat} {es : List (ME ι ν)} {clock : Nat} (hb : w.heap[b]? = some (mo K val es clock)) (x : ι) (v : ν) :
  (Instr.mapUpdate t (.map (some b)) (K.v x) (val v)).run P w = .ok () (setBlock w b (mo K val (zGi es clock x v) (zEe es clock x))) := by
 have hg : (getObj b).run P w = .ok (mo K val es clock) w := by simp [getObj, Sem.run, hb, mo]
 have hset : ∀ o', (setObj b o').run P w = .ok () (setBlock w b o') := fun o' => by simp [setObj, Sem.run, hb, mo, setBlock]
 have hf : (Instr.findKey kt (K.v x) (zBE K val es).toArray.toList).run P w = _ := zDB K val x es w
 unfold Instr.mapUpdate
 simp only [Sem.run_bind, run_underlying ht, Result.andThen_ok, hg]
 unfold mo
 simp only [Sem.run_bind, Result.andThen_ok, K.chk, hf]
 cases h : fnd x es 0 with
 | none =>
   simp only [Option.map_none, hset, zGi, zEe, h]
   simp [zBE]
 | some p =>
   obtain ⟨k, u⟩ := p
   obtain ⟨_, c, hk⟩ := zCR h
   rw [Nat.sub_zero] at hk
   have hk2 : ((zBE K val es).toArray[k]?).map (·.key) = some (K.v x) := by rw [zGF, hk]; rfl
   simp only [Option.map_some, hk2, Option.getD_some, Instr.keyThatStays, K.same, if_true, Sem.run_pure, Result.andThen_ok, hset, zGi, zEe, h, Option.isSome_some, Sem.run_bind]
   rw [zIb K val x v hk]
def zDq (es : List (ME ι ν)) (clock : Nat) (x : ι) (z : ν) : List (ME ι ν) := if (fnd x es 0).isSome then es else es ++ [(x, z, clock)]
def zDC (es : List (ME ι ν)) (clock : Nat) (x : ι) : Nat :=
 match fnd x es 0 with
 | some p => ((es[p.1]?).map (·.2.2)).getD 0
 | none => clock
theorem zHh (K : KeyT P kt ι) (val : ν → Value) {t et : TypeId} (ht : P.underlying t = some (.map kt et)) {w : World} {b : Nat} {es : List (ME ι ν)} {clock : Nat} (hb : w.heap[b]? = some (mo K val es clock)) (x : ι) (z : ν) (hz : ∀ w : World, (zeroValue et).run P w = .ok (val z) w) :
  (Instr.mapEntry t (.map (some b)) (K.v x)).run P w = .ok (.tuple #[val ((atM es x).getD z), .int .i64 (zDC es clock x : Nat)]) (setBlock w b (mo K val (zDq es clock x z) (zEe es clock x))) := by
 have hg : (getObj b).run P w = .ok (mo K val es clock) w := by simp [getObj, Sem.run, hb, mo]
 have hset : ∀ o', (setObj b o').run P w = .ok () (setBlock w b o') := fun o' => by simp [setObj, Sem.run, hb, mo, setBlock]
 have hf : (Instr.findKey kt (K.v x) (zBE K val es).toArray.toList).run P w = _ := zDB K val x es w
 unfold Instr.mapEntry
 simp only [Sem.run_bind, run_underlying ht, Result.andThen_ok, hg]
 unfold mo
 simp only [Sem.run_bind, Result.andThen_ok, K.chk, hf]
 cases h : fnd x es 0 with
 | none =>
   have ha : atM es x = none := by unfold atM; rw [h]; rfl
   simp only [Option.map_none, Sem.run_bind, hz, Result.andThen_ok, hset, Sem.run_pure, ha, Option.getD_none, zDq, zEe, zDC, h]
   simp [zBE, goInt]
 | some p =>
   obtain ⟨k, u⟩ := p
   obtain ⟨_, c, hk⟩ := zCR h
   rw [Nat.sub_zero] at hk
   have ha : atM es x = some u := by unfold atM; rw [h]; rfl
   have hk2 : ((zBE K val es).toArray[k]?).map (·.key) = some (K.v x) := by rw [zGF, hk]; rfl
   have hk3 : ((zBE K val es).toArray[k]?).map (·.born) = some c := by rw [zGF, hk]; rfl
   have hm : (zBE K val es).toArray.modify k (fun e => { e with key := K.v x }) = (zBE K val es).toArray := by
    apply Array.ext'
    simp only [Array.toList_modify]
    apply List.ext_getElem?
    intro i
    rw [List.getElem?_modify]
    by_cases hi : k = i
    ·subst hi
     simp [zBE, hk]
    ·simp [hi]
   simp only [Option.map_some, hk2, hk3, Option.getD_some, Instr.keyThatStays, K.same, if_true, Sem.run_pure, Result.andThen_ok, hset, Sem.run_bind, hm, ha, zDq, zEe, zDC, h, Option.isSome_some, hk]
   simp [goInt, zBE, hk]
theorem zJi (K : KeyT P kt ι) (val : ν → Value) {t et : TypeId} (ht : P.underlying t = some (.map kt et)) {w : World} {b : Nat} {es : List (ME ι ν)} {clock : Nat} (hb : w.heap[b]? = some (mo K val es clock)) (x : ι) (z : ν) (hz : ∀ w : World, (zeroValue et).run P w = .ok (val z) w) :
  (Instr.lookup t (.map (some b)) (K.v x) false).run P w = .ok (val ((atM es x).getD z)) w := by
 have hg : (getObj b).run P w = .ok (mo K val es clock) w := by simp [getObj, Sem.run, hb, mo]
 have hf : (Instr.findKey kt (K.v x) (zBE K val es).toArray.toList).run P w = _ := zDB K val x es w
 unfold Instr.lookup
 simp only [Sem.run_bind, run_underlying ht, Result.andThen_ok, hg]
 unfold mo
 simp only [Sem.run_bind, Sem.run_pure, Result.andThen_ok, K.chk, hf]
 cases h : fnd x es 0 with
 | none =>
   have ha : atM es x = none := by unfold atM; rw [h]; rfl
   simp [Option.map_none, hz, ha]
 | some p =>
   have ha : atM es x = some p.2 := by unfold atM; rw [h]; rfl
   simp [ha]
def zEE (es : List (ME ι ν)) (s : Nat) (v : ν) : List (ME ι ν) := es.map fun e => if e.2.2 = s then (e.1, v, e.2.2) else e
theorem zJj (K : KeyT P kt ι) (val : ν → Value) (es : List (ME ι ν)) (s : Nat) (v : ν) (hn : (es.map (·.2.2)).Nodup) {i : Nat} (h : (zBE K val es).toArray.findIdx? (fun e => ((e.born : Int) == (s : Int))) = some i) :
  (zBE K val es).toArray.modify i (fun e => { e with val := val v }) = (zBE K val (zEE es s v)).toArray := by
 rw [Array.findIdx?_eq_some_iff_getElem] at h
 obtain ⟨hi, h1, _⟩ := h
 have hi' : i < es.length := by simpa [zBE] using hi
 have h1 : es[i].2.2 = s := by
  simp only [zBE, List.getElem_toArray, List.getElem_map, beq_iff_eq] at h1
  omega
 apply Array.ext'
 simp only [zBE, Array.toList_modify, zEE]
 apply List.ext_getElem?
 intro j
 simp only [List.getElem?_modify, List.getElem?_map]
 by_cases hj : j < es.length
 ·simp only [List.getElem?_eq_getElem hj, Option.map_some]
  by_cases hij : i = j
  ·subst hij; simp [h1]
  ·have hne : es[j].2.2 ≠ s := by
    intro he
    have := (List.pairwise_iff_getElem.1 hn)
    rcases Nat.lt_or_gt_of_ne hij with g | g
    ·exact this i j (by simpa using hi') (by simpa using hj) g (by simp [h1, he])
    ·exact this j i (by simpa using hj) (by simpa using hi') g (by simp [h1, he])
   simp [hij, hne]
 ·simp [List.getElem?_eq_none (by omega : es.length ≤ j)]
theorem zGG (K : KeyT P kt ι) (val : ν → Value) {t : TypeId} {w : World} {b : Nat} {es : List (ME ι ν)} {clock : Nat} (hb : w.heap[b]? = some (mo K val es clock)) (s : Nat) (v : ν) (hn : (es.map (·.2.2)).Nodup) (hs : ∃ e ∈ es, e.2.2 = s) :
  (Instr.entryStore t (.map (some b)) (.int .i64 (s : Int)) (val v)).run P w = .ok () (setBlock w b (mo K val (zEE es s v) clock)) := by
 have hg : (getObj b).run P w = .ok (mo K val es clock) w := by simp [getObj, Sem.run, hb, mo]
 have hset : ∀ o', (setObj b o').run P w = .ok () (setBlock w b o') := fun o' => by simp [setObj, Sem.run, hb, mo, setBlock]
 unfold Instr.entryStore
 simp only [Sem.run_bind, Sem.run_pure, Result.andThen_ok, hg]
 unfold mo
 simp only [asInt, asIntOf, Sem.run_bind, Sem.run_pure, Result.andThen_ok]
 cases h : (zBE K val es).toArray.findIdx? (fun e => ((e.born : Int) == (s : Int))) with
 | none =>
   exfalso
   rw [Array.findIdx?_eq_none_iff] at h
   obtain ⟨e, he, hes⟩ := hs
   have := h ⟨K.v e.1, val e.2.1, e.2.2⟩ (by simp only [zBE, List.mem_toArray, List.mem_map]; exact ⟨e, he, rfl⟩)
   simp [hes] at this
 | some i =>
   simp only [hset, zJj K val es s v hn h]
def zHi (es : List (ME ι ν)) (x : ι) : List (ME ι ν) :=
 match fnd x es 0 with
 | some p => es.eraseIdx p.1
 | none => es
theorem zJk (K : KeyT P kt ι) (val : ν → Value) {t et ty : TypeId} {kt2 : TypeId} (ht : P.underlying t = some (.map kt et)) {w : World} {b : Nat} {es : List (ME ι ν)} {clock : Nat} (hb : w.heap[b]? = some (mo K val es clock)) (x : ι) :
  (Builtin.delete_ #[t, kt2] ty #[.map (some b), K.v x]).run P w = .ok (.tuple #[]) (setBlock w b (mo K val (zHi es x) clock)) := by
 have hg : (getObj b).run P w = .ok (mo K val es clock) w := by simp [getObj, Sem.run, hb, mo]
 have hset : ∀ o', (setObj b o').run P w = .ok () (setBlock w b o') := fun o' => by simp [setObj, Sem.run, hb, mo, setBlock]
 have hf : (Instr.findKey kt (K.v x) (zBE K val es).toArray.toList).run P w = _ := zDB K val x es w
 unfold Builtin.delete_
 have e1 : (#[t, kt2] : Array TypeId)[0]? = some t := rfl
 have e2 : (#[Value.map (some b), K.v x] : Array Value)[0]? = some (.map (some b)) := rfl
 have e3 : (#[Value.map (some b), K.v x] : Array Value)[1]? = some (K.v x) := rfl
 simp only [e1, e2, e3, Sem.run_bind, run_underlying ht, Result.andThen_ok, hg]
 unfold mo
 simp only [Sem.run_bind, Result.andThen_ok, K.chk, hf]
 cases h : fnd x es 0 with
 | none => simp [hset, zHi, h, mo]
 | some p =>
   obtain ⟨k, u⟩ := p
   obtain ⟨_, c, hk⟩ := zCR h
   rw [Nat.sub_zero] at hk
   have hlt : k < es.length := by
    rcases Nat.lt_or_ge k es.length with g | g
    ·exact g
    ·rw [List.getElem?_eq_none g] at hk; cases hk
   have he : (zBE K val es).toArray.eraseIdxIfInBounds k = (zBE K val (es.eraseIdx k)).toArray := by
    apply Array.ext'
    simp [zBE, Array.eraseIdxIfInBounds, hlt, List.eraseIdx_eq_take_drop_succ, List.map_take, List.map_drop]
   simp only [Option.map_some, Sem.run_bind, he, hset, Result.andThen_ok, Sem.run_pure, zHi, h]
structure MI (es : List (ME ι ν)) (clock : Nat) : Prop where
 keys : (es.map (·.1)).Nodup
 stamps : (es.map (·.2.2)).Nodup
 old : ∀ e ∈ es, e.2.2 < clock
theorem MI.nil : MI ([] : List (ME ι ν)) 0 := ⟨List.nodup_nil, List.nodup_nil, fun e he => by cases he⟩
theorem zCS {x : ι} : ∀ {es : List (ME ι ν)} {i : Nat}, fnd x es i = none ↔ x ∉ es.map (·.1)
 | [], i => by simp [fnd]
 | e :: r, i => by
   simp only [fnd, List.map_cons, List.mem_cons, not_or]
   by_cases h : x = e.1
   ·simp [h]
   ·simp only [h, if_false, not_false_eq_true, true_and]
    exact zCS
theorem zEf {x : ι} {es : List (ME ι ν)} : atM es x = none ↔ x ∉ es.map (·.1) := by
 unfold atM
 rw [Option.map_eq_none_iff]
 exact zCS
theorem zHj (es : List (ME ι ν)) (e : ME ι ν) (y : ι) : atM (es ++ [e]) y = match atM es y with | some v => some v | none => if y = e.1 then some e.2.1 else none := by
 induction es with
 | nil => rw [List.nil_append, zBM, zK6]
 | cons f r ih =>
   rw [List.cons_append, zBM, zBM]
   by_cases h : y = f.1
   ·simp [h]
   ·simp only [h, if_false]; exact ih
theorem zIc {es : List (ME ι ν)} {k : Nat} {v : ν} : ((es.modify k fun e => (e.1, v, e.2.2)).map (·.1)) = es.map (·.1) := by
 apply List.ext_getElem?
 intro i
 simp only [List.getElem?_map, List.getElem?_modify]
 cases es[i]? <;> simp
 split <;> rfl
theorem zDy {es : List (ME ι ν)} {k : Nat} {v : ν} : ((es.modify k fun e => (e.1, v, e.2.2)).map (·.2.2)) = es.map (·.2.2) := by
 apply List.ext_getElem?
 intro i
 simp only [List.getElem?_map, List.getElem?_modify]
 cases es[i]? <;> simp
 split <;> rfl
theorem zGH {x : ι} {v : ν} : ∀ {es : List (ME ι ν)} {i k : Nat} {u : ν}, fnd x es i = some (k, u) → ∀ y, atM (es.modify (k - i) fun e => (e.1, v, e.2.2)) y = if y = x then some v else atM es y
 | e :: r, i, k, u, h, y => by
   simp only [fnd] at h
   by_cases he : x = e.1
   ·rw [if_pos he] at h
    cases h
    rw [Nat.sub_self]
    simp only [List.modify_zero_cons, zBM, he]
    split <;> simp_all
   ·rw [if_neg he] at h
    obtain ⟨h1, _⟩ := zCR h
    rw [show k - i = (k - (i + 1)) + 1 by omega]
    simp only [List.modify_succ_cons, zBM]
    rw [zGH h y]
    by_cases hy : y = x
    ·subst hy; simp [he]
    ·simp [hy]
theorem MI.snoc {es : List (ME ι ν)} {clock : Nat} (h : MI es clock) {x : ι} (hx : x ∉ es.map (·.1)) (v : ν) : MI (es ++ [(x, v, clock)]) (clock + 1) := by
 refine ⟨?_, ?_, fun e he => ?_⟩
 ·rw [List.map_append, List.nodup_append]
  exact ⟨h.keys, by simp, fun a ha b hb => by simp at hb; subst hb; intro hh; subst hh; exact hx ha⟩
 ·rw [List.map_append, List.nodup_append]
  refine ⟨h.stamps, by simp, fun a ha b hb => ?_⟩
  simp at hb
  subst hb
  obtain ⟨e, he, rfl⟩ := List.mem_map.1 ha
  have := h.old e he
  omega
 ·rcases List.mem_append.1 he with he | he
  ·have := h.old e he; omega
  ·simp at he; subst he; exact Nat.lt_succ_self _
theorem zPn (es : List (ME ι ν)) (clock : Nat) (x : ι) (v : ν) (y : ι) : atM (zGi es clock x v) y = if y = x then some v else atM es y := by
 unfold zGi
 cases h : fnd x es 0 with
 | none =>
   have hx := zEf.2 (zCS.1 h)
   simp only [zHj]
   by_cases hy : y = x
   ·subst hy; simp [hx]
   ·simp only [hy, if_false]; cases atM es y <;> rfl
 | some p =>
   have := zGH (v := v) (k := p.1) (u := p.2) h y
   rw [Nat.sub_zero] at this
   exact this
theorem zNu {es : List (ME ι ν)} {clock : Nat} (h : MI es clock) (x : ι) (v : ν) : MI (zGi es clock x v) (zEe es clock x) := by
 unfold zGi zEe
 cases hf : fnd x es 0 with
 | none => exact h.snoc (zCS.1 hf) v
 | some p =>
   refine ⟨by rw [zIc]; exact h.keys, by rw [zDy]; exact h.stamps, fun e he => ?_⟩
   have : e.2.2 ∈ (es.modify p.1 fun e => (e.1, v, e.2.2)).map (·.2.2) := List.mem_map.2 ⟨e, he, rfl⟩
   rw [zDy] at this
   obtain ⟨f, hf1, hf2⟩ := List.mem_map.1 this
   rw [← hf2]
   exact h.old f hf1
def addM (es : List (ME ι ν)) (clock : Nat) (x : ι) (z v : ν) : List (ME ι ν) := zEE (zDq es clock x z) (zDC es clock x) v
theorem zL7 (es : List (ME ι ν)) (s : Nat) (v : ν) : (zEE es s v).map (·.1) = es.map (·.1) := by
 unfold zEE
 rw [List.map_map]
 refine List.map_congr_left fun e _ => ?_
 show (if e.2.2 = s then (e.1, v, e.2.2) else e).1 = e.1
 split <;> rfl
theorem zFI (es : List (ME ι ν)) (s : Nat) (v : ν) : (zEE es s v).map (·.2.2) = es.map (·.2.2) := by
 unfold zEE
 rw [List.map_map]
 refine List.map_congr_left fun e _ => ?_
 show (if e.2.2 = s then (e.1, v, e.2.2) else e).2.2 = e.2.2
 split <;> rfl
theorem zG3 {es : List (ME ι ν)} {clock : Nat} {x : ι} {z : ν} : ∃ e ∈ zDq es clock x z, e.2.2 = zDC es clock x ∧ e.1 = x := by
 unfold zDq zDC
 cases h : fnd x es 0 with
 | none => exact ⟨(x, z, clock), by simp, rfl, rfl⟩
 | some p =>
   obtain ⟨k, u⟩ := p
   obtain ⟨_, c, hk⟩ := zCR h
   rw [Nat.sub_zero] at hk
   refine ⟨(x, u, c), by simp only [Option.isSome_some, if_true]; exact List.mem_of_getElem? hk, ?_, rfl⟩
   simp [hk]
theorem zGI {es : List (ME ι ν)} {clock : Nat} (h : MI es clock) (x : ι) (z : ν) : MI (zDq es clock x z) (zEe es clock x) := by
 unfold zDq zEe
 cases hf : fnd x es 0 with
 | none => exact h.snoc (zCS.1 hf) z
 | some p => exact h
theorem zNv {es : List (ME ι ν)} {clock : Nat} (h : MI es clock) (x : ι) (z v : ν) : MI (addM es clock x z v) (zEe es clock x) := by
 have h1 := zGI h x z
 unfold addM
 refine ⟨by rw [zL7]; exact h1.keys, by rw [zFI]; exact h1.stamps, fun e he => ?_⟩
 have : e.2.2 ∈ (zEE (zDq es clock x z) (zDC es clock x) v).map (·.2.2) := List.mem_map.2 ⟨e, he, rfl⟩
 rw [zFI] at this
 obtain ⟨f, hf1, hf2⟩ := List.mem_map.1 this
 rw [← hf2]
 exact h1.old f hf1
theorem zK7 {x : ι} {v : ν} {s : Nat} : ∀ {es : List (ME ι ν)}, (es.map (·.1)).Nodup → (es.map (·.2.2)).Nodup → (∃ e ∈ es, e.2.2 = s ∧ e.1 = x) → ∀ y, atM (zEE es s v) y = if y = x then some v else atM es y
 | [], _, _, ⟨e, he, _⟩, _ => by cases he
 | f :: r, hk, hs, ⟨e, he, h1, h2⟩, y => by
   simp only [List.map_cons, List.nodup_cons] at hk hs
   have hcons : zEE (f :: r) s v = (if f.2.2 = s then (f.1, v, f.2.2) else f) :: zEE r s v := rfl
   rw [hcons, zBM, zBM]
   rcases List.mem_cons.1 he with rfl | he
   ·rw [if_pos h1]
    have hr : zEE r s v = r := by
     unfold zEE
     conv => rhs; rw [← List.map_id r]
     refine List.map_congr_left fun g hg => ?_
     rw [if_neg (fun hh => hs.1 (by rw [h1, ← hh]; exact List.mem_map.2 ⟨g, hg, rfl⟩))]; rfl
    rw [hr]
    subst h2
    split <;> rfl
   ·have hne : f.2.2 ≠ s := fun hh => hs.1 (by rw [hh, ← h1]; exact List.mem_map.2 ⟨e, he, rfl⟩)
    have hnx : x ≠ f.1 := fun hh => hk.1 (by rw [← hh, ← h2]; exact List.mem_map.2 ⟨e, he, rfl⟩)
    rw [if_neg hne, zK7 hk.2 hs.2 ⟨e, he, h1, h2⟩ y]
    by_cases hy : y = x
    ·subst hy; simp [hnx]
    ·simp [hy]
theorem zPo {es : List (ME ι ν)} {clock : Nat} (h : MI es clock) (x : ι) (z v : ν) (y : ι) : atM (addM es clock x z v) y = if y = x then some v else atM es y := by
 have h1 := zGI h x z
 unfold addM
 rw [zK7 h1.keys h1.stamps zG3 y]
 unfold zDq
 cases hf : fnd x es 0 with
 | some p => rfl
 | none =>
   have hx := zEf.2 (zCS.1 hf)
   simp only [Option.isSome_none, Bool.false_eq_true, if_false, zHj]
   by_cases hy : y = x
   ·simp [hy]
   ·simp only [hy, if_false]; cases atM es y <;> rfl
theorem zId {x : ι} : ∀ {es : List (ME ι ν)} {i k : Nat} {u : ν}, (es.map (·.1)).Nodup → fnd x es i = some (k, u) → ∀ y, atM (es.eraseIdx (k - i)) y = if y = x then none else atM es y
 | e :: r, i, k, u, hn, h, y => by
   simp only [List.map_cons, List.nodup_cons] at hn
   simp only [fnd] at h
   by_cases he : x = e.1
   ·rw [if_pos he] at h
    cases h
    rw [Nat.sub_self, List.eraseIdx_zero, List.tail_cons, zBM]
    by_cases hy : y = x
    ·rw [if_pos hy, zEf]; rw [hy, he]; exact hn.1
    ·rw [if_neg hy, if_neg (fun hh => hy (hh.trans he.symm))]
   ·rw [if_neg he] at h
    obtain ⟨h1, _⟩ := zCR h
    rw [show k - i = (k - (i + 1)) + 1 by omega, List.eraseIdx_cons_succ, zBM, zBM, zId hn.2 h y]
    by_cases hy : y = x
    ·subst hy; simp [he]
    ·simp [hy]
theorem zPp {es : List (ME ι ν)} {clock : Nat} (h : MI es clock) (x y : ι) : atM (zHi es x) y = if y = x then none else atM es y := by
 unfold zHi
 cases hf : fnd x es 0 with
 | none =>
   by_cases hy : y = x
   ·subst hy; simp [zEf.2 (zCS.1 hf)]
   ·simp [hy]
 | some p =>
   have := zId (k := p.1) (u := p.2) h.keys hf y
   rw [Nat.sub_zero] at this
   exact this
theorem zNw {es : List (ME ι ν)} {clock : Nat} (h : MI es clock) (x : ι) : MI (zHi es x) clock := by
 unfold zHi
 cases hf : fnd x es 0 with
 | none => exact h
 | some p =>
   have hsub : (es.eraseIdx p.1).Sublist es := List.eraseIdx_sublist _ _
   exact ⟨(hsub.map _).nodup h.keys, (hsub.map _).nodup h.stamps, fun e he => h.old e (hsub.subset he)⟩
end
theorem St.setO {w0 w : World} {G G' : zI} {b : Nat} {o o' : Obj} (H : St w0 G w) (hu : Up b o o' G G') : St w0 G' (setBlock w b o') := by
 have hg := H.mem _ hu.mem
 have hlt := zBk hg
 refine H.up hu rfl rfl rfl (by simp [setBlock]) (by simp [setBlock, hlt]) (fun k hk => ?_)
 simp only [setBlock]
 rw [Array.getElem?_setIfInBounds_ne (Ne.symm hk)]
section
attribute [local semireducible] OX OW QX QW RA Yq
variable {P : Program} {n : Nw} {ops : Array Oper} {Q : zAX} {o : Oper} {rest : List Oper} {L : List (Nat × Value)} {b0 : Env} {w : World} (S : Sig P) {kt : TypeId} {ι ν : Type} [DecidableEq ι]
theorem m1 {w0 : World} {G : zI} {t : TypeId} {d : Nat} (H : St w0 G w) (k : ∀ b w', St w0 ((b, .map #[] 0) :: G) w' → OW P n ops Q rest (ovl ((d, .map (some b)) :: L) b0) w')
  (ho : o.op = .makeMap t none := by exact rfl) (hd : o.dst = some d := by exact rfl) (hlt : Nat.blt d n.n = true := by exact rfl) : OX P n ops Q o rest (ovl L b0) w := by
 intro a ha
 unfold Oper.wp
 rw [ha.eval]
 simp only [execOp, ho, Instr.makeMap, Option.map_none, Sem.run_bind, run_newObj, Result.andThen_ok, Sem.run_pure, Oper.upon_value, hd]
 exact k _ _ (H.alloc _) _ (ha.put hlt _)
theorem Yq.lookM {e : Env} {M : zI} {b clock : Nat} (K : KeyT P kt ι) (val : ν → Value) (es : List (ME ι ν)) (x : ι) (z : ν) {t et : TypeId} {X Y : Operand} {ti : TI} (hz : ∀ w : World, (zeroValue et).run P w = .ok (val z) w) (hM : Mem w M) (hm : (b, mo K val es clock) ∈ M)
  (hy : ev e Y = K.v x) (ho : o.op = .lookup t X Y false) (hx : ev e X = .map (some b)) (ht : lk S.tab t = some ti) (htd : ti.d = .map kt et) : Yq P o e w (val ((atM es x).getD z)) := by
 intro w' hw'
 have hu := S.und ht
 rw [htd] at hu
 simp only [execOp, ho, hx, hy, Sem.run_bind, zJi K val hu ((hM.ext hw') _ hm) x z hz, Result.andThen_ok, Sem.run_pure]
theorem m3 {w0 : World} {G G' : zI} {b clock : Nat} (K : KeyT P kt ι) (val : ν → Value) (es : List (ME ι ν)) (x : ι) (v : ν) {t et : TypeId} {X Y V : Operand} {ti : TI} (H : St w0 G w) (hu : Up b (mo K val es clock) (mo K val (zGi es clock x v) (zEe es clock x)) G G')
  (hy : ev (ovl L b0) Y = K.v x) (hv : ev (ovl L b0) V = val v) (k : ∀ w', St w0 G' w' → OW P n ops Q rest (ovl L b0) w')
  (ho : o.op = .mapUpdate t X Y V := by exact rfl) (hd : o.dst = none := by exact rfl) (hx : ev (ovl L b0) X = .map (some b) := by exact rfl) (ht : lk S.tab t = some ti := by exact rfl) (htd : ti.d = .map kt et := by exact rfl) : OX P n ops Q o rest (ovl L b0) w := by
 intro a ha
 unfold Oper.wp
 rw [ha.eval]
 have hun := S.und ht
 rw [htd] at hun
 simp only [execOp, ho, hx, hy, hv, Sem.run_bind, zGj K val hun (H.mem _ hu.mem) x v, Result.andThen_ok, Sem.run_pure, Oper.upon_skip, hd]
 exact k _ (H.setO hu) _ ha
theorem m4 {w0 : World} {G G' : zI} {b clock d : Nat} (K : KeyT P kt ι) (val : ν → Value) (es : List (ME ι ν)) (x : ι) (z : ν) {t et : TypeId} {X Y : Operand} {ti : TI} (hz : ∀ w : World, (zeroValue et).run P w = .ok (val z) w) (H : St w0 G w) (hu : Up b (mo K val es clock) (mo K val (zDq es clock x z) (zEe es clock x)) G G')
  (hy : ev (ovl L b0) Y = K.v x) (k : ∀ w', St w0 G' w' → OW P n ops Q rest (ovl ((d, .tuple #[val ((atM es x).getD z), .int .i64 (zDC es clock x : Nat)]) :: L) b0) w')
  (ho : o.op = .mapEntry t X Y := by exact rfl) (hd : o.dst = some d := by exact rfl) (hlt : Nat.blt d n.n = true := by exact rfl) (hx : ev (ovl L b0) X = .map (some b) := by exact rfl) (ht : lk S.tab t = some ti := by exact rfl) (htd : ti.d = .map kt et := by exact rfl) : OX P n ops Q o rest (ovl L b0) w := by
 intro a ha
 unfold Oper.wp
 rw [ha.eval]
 have hun := S.und ht
 rw [htd] at hun
 simp only [execOp, ho, hx, hy, Sem.run_bind, zHh K val hun (H.mem _ hu.mem) x z hz, Result.andThen_ok, Sem.run_pure, Oper.upon_value, hd]
 exact k _ (H.setO hu) _ (ha.put hlt _)
theorem m5 {w0 : World} {G G' : zI} {b clock s : Nat} (K : KeyT P kt ι) (val : ν → Value) (es : List (ME ι ν)) (v : ν) {t : TypeId} {X Y V : Operand} (hn : (es.map (·.2.2)).Nodup) (hs : ∃ e ∈ es, e.2.2 = s) (H : St w0 G w) (hu : Up b (mo K val es clock) (mo K val (zEE es s v) clock) G G')
  (hv : ev (ovl L b0) V = val v) (k : ∀ w', St w0 G' w' → OW P n ops Q rest (ovl L b0) w')
  (ho : o.op = .entryStore t X Y V := by exact rfl) (hd : o.dst = none := by exact rfl) (hx : ev (ovl L b0) X = .map (some b) := by exact rfl) (hy : ev (ovl L b0) Y = .int .i64 (s : Int) := by exact rfl) : OX P n ops Q o rest (ovl L b0) w := by
 intro a ha
 unfold Oper.wp
 rw [ha.eval]
 simp only [execOp, ho, hx, hy, hv, Sem.run_bind, zGG (t := t) K val (H.mem _ hu.mem) s v hn hs, Result.andThen_ok, Sem.run_pure, Oper.upon_skip, hd]
 exact k _ (H.setO hu) _ ha
theorem m6 {w0 : World} {G G' : zI} {b clock : Nat} (K : KeyT P kt ι) (val : ν → Value) (es : List (ME ι ν)) (x : ι) {t et kt2 : TypeId} {X Y : Operand} {ti : TI} (H : St w0 G w) (hu : Up b (mo K val es clock) (mo K val (zHi es x) clock) G G')
  (hy : ev (ovl L b0) Y = K.v x) (k : ∀ w', St w0 G' w' → OW P n ops Q rest (ovl L b0) w')
  (ho : o.op = .call { callee := .builtin .delete, args := #[X, Y], argTypes := #[t, kt2] } := by exact rfl) (hd : o.dst = none := by exact rfl) (hx : ev (ovl L b0) X = .map (some b) := by exact rfl) (ht : lk S.tab t = some ti := by exact rfl) (htd : ti.d = .map kt et := by exact rfl) : OX P n ops Q o rest (ovl L b0) w := by
 intro a ha
 unfold Oper.wp
 rw [ha.eval]
 have hun := S.und ht
 rw [htd] at hun
 simp only [execOp, ho, resolve, invoke, builtin, Sem.run_bind, Sem.run_pure, Result.andThen_ok, List.map_toArray, List.map_cons, List.map_nil, hx, hy, zJk (ty := o.type) (kt2 := kt2) K val hun (H.mem _ hu.mem) x, Oper.upon_value, hd]
 exact k _ (H.setO hu) _ ha
theorem Yq.lenM {e : Env} {M : zI} {b clock : Nat} (K : KeyT P kt ι) (val : ν → Value) (es : List (ME ι ν)) {t et : TypeId} {X : Operand} {ti : TI} (hM : Mem w M) (hm : (b, mo K val es clock) ∈ M)
  (ho : o.op = .call { callee := .builtin .len, args := #[X], argTypes := #[t] }) (hx : ev e X = .map (some b)) (ht : lk S.tab t = some ti) (htd : ti.d = .map kt et) : Yq P o e w (.int .i64 (es.length : Int)) := by
 intro w' hw'
 have hu := S.run_und ht w'
 rw [htd] at hu
 have hb := (hM.ext hw') _ hm
 have hg : (getObj b).run P w' = .ok (mo K val es clock) w' := by
  unfold mo at hb ⊢
  simp only at hb
  simp [getObj, Sem.run, hb]
 have hr : (Builtin.len_ #[t] o.type #[.map (some b)]).run P w' = .ok (.int .i64 (es.length : Int)) w' := by
  unfold Builtin.len_
  have e1 : (#[t] : Array TypeId)[0]? = some t := rfl
  have e2 : (#[Value.map (some b)] : Array Value)[0]? = some (.map (some b)) := rfl
  simp only [e1, e2, Sem.run_bind, hu, Result.andThen_ok, hg]
  simp [mo, zBE, goInt]
 simp only [execOp, ho, resolve, invoke, builtin, Sem.run_bind, Sem.run_pure, Result.andThen_ok, List.map_toArray, List.map_cons, List.map_nil, hx, hr]
def Todo (es : List (ME ι ν)) (seen : Array Nat) (todo : List (ME ι ν)) : Prop := todo.Perm (es.filter fun e => !seen.contains e.2.2)
omit [DecidableEq ι] in
theorem Todo.start (es : List (ME ι ν)) : Todo es #[] es := List.Perm.of_eq (List.filter_eq_self.2 fun e _ => by simp).symm
omit [DecidableEq ι] in
theorem Todo.step {es todo : List (ME ι ν)} {seen : Array Nat} {e : ME ι ν} (hn : (es.map (·.2.2)).Nodup) (h : Todo es seen (e :: todo)) : Todo es (seen.push e.2.2) todo := by
 unfold Todo at *
 have h2 := h.filter (fun f => !(f.2.2 == e.2.2))
 rw [List.filter_filter] at h2
 have hnd : ((e :: todo).map (·.2.2)).Nodup := (h.map (·.2.2)).nodup_iff.2 ((List.filter_sublist.map _).nodup hn)
 simp only [List.map_cons, List.nodup_cons] at hnd
 have e1 : (e :: todo).filter (fun f => !(f.2.2 == e.2.2)) = todo := by
  rw [List.filter_cons_of_neg (by simp), List.filter_eq_self]
  intro f hf
  have : f.2.2 ≠ e.2.2 := fun hh => hnd.1 (hh ▸ List.mem_map.2 ⟨f, hf, rfl⟩)
  simpa using this
 rw [e1] at h2
 refine h2.trans (List.Perm.of_eq (List.filter_congr fun f _ => ?_))
 by_cases hf : f.2.2 = e.2.2 <;> simp [hf]
end
end Go.Sk
set_option linter.unusedSectionVars false
namespace Go.Sk
open Go Go.RowKit
attribute [local semireducible] CW OW OX QW QX
def Yld (P : Program) (l : Nat) (args : List Value) (w : World) (R : Ending → World → Prop) : Prop := YieldAt Fence.wide 0 P l args.toArray w R
section
variable {P : Program} {n : Nw} {ops : Array Oper} {Q : zAX} {o : Oper} {rest : List Oper} {e : Env} {L : List (Nat × Value)} {b : Env} {w : World}
def OY (P : Program) (n : Nw) (ops : Array Oper) (Q : zAX) (l : List Oper) (e : Env) (w : World) : Prop := ∀ a, Fits n a e → wpListIn (fen n.ro) 0 P ops (zAa n Q) l a w
theorem CW.regionY {id : Nat} {l : List Oper} (h : OY P n l.toArray Q l e w) : CW P n (.region id l.toArray false) Q e w := fun a ha => wpIn_region_lit (h a ha)
theorem OY.nil (h : Q .normal e w) : OY P n ops Q [] e w := fun _ ha => ⟨nofun, e, ha, h⟩
theorem zFc {ro : Option Nat} {K : Act → World → Prop} (hno : ¬ LetsOut (zAa n Q)) : ∀ (pre rest : List Oper) (a : Act) (w : World), zCq pre = true → wpList P ops (Exit.then (fun a' w' => wpListIn (fen ro) 0 P ops (zAa n Q) rest a' w') (zAa n Q)) pre a w → wpListIn (fen ro) 0 P ops (zAa n Q) (pre ++ rest) a w
 | [], rest, a, w, _, h => h
 | o :: pre, rest, a, w, hnd, h => by
   unfold wpList at h
   have hnd' : zCq pre = true := by unfold zCq at hnd ⊢; rw [List.all_cons, Bool.and_eq_true] at hnd; exact hnd.2
   show wpListIn _ _ _ _ _ (o :: (pre ++ rest)) a w
   unfold wpListIn
   split
   ·rename_i hw
    rw [if_pos hw] at h
    refine ⟨fun _ _ => trivial, ?_⟩
    rw [Oper.semAt_eq _ _ _ (zH8 hnd (List.Mem.head _))]
    have h1 : o.wp P a w (wpList P ops (Exit.then (fun a' w' => wpListIn (fen ro) 0 P ops (zAa n Q) rest a' w') (zAa n Q)) pre) (Exit.then (fun a' w' => wpListIn (fen ro) 0 P ops (zAa n Q) rest a' w') (zAa n Q)) :=
     h.resolve_right fun hh => hno (by obtain ⟨a, w, hq⟩ := hh.2; exact ⟨a, w, hq⟩)
    have h2 := zKf (ro := ro) (K' := wpListIn (fen ro) 0 P ops (zAa n Q) (pre ++ rest)) (fun a w hk => zFc (K := K) hno pre rest a w hnd' hk) _ h1
    generalize (execOp a.eval o).run P w = r at h2 ⊢
    unfold Oper.uponIn at h2 ⊢
    split at h2
    ·exact h2
    ·exact h2
    ·exact h2
    ·refine ⟨h2.1, ?_⟩
     refine zCa.2 (Calls.mono (zCa.1 h2.2) fun e w' q => ?_)
     cases e with
     | returned v => exact q
     | panicked c => exact q
     | outgrown => obtain ⟨a, w, hq⟩ := q; exact ⟨a, w, hq⟩
    ·exact h2
    ·refine ⟨h2.1, RoundIn.mono h2.2 fun e w' q => ?_⟩
     cases e with
     | returned v => exact q
     | panicked c => exact q
     | outgrown => obtain ⟨a, w, hq⟩ := q; exact ⟨a, w, hq⟩
    ·exact h2
    ·exact h2
   ·rename_i hw
    rw [if_neg hw] at h
    exact ⟨fun _ _ => trivial, zFc (K := K) hno pre rest _ w hnd' h⟩
theorem OY.pre {l : List Oper} (k : Nat) (h : OW P n ops (thn (fun e' w' => OY P n ops Q (l.drop k) e' w') Q) (l.take k) e w) (hnd : zCq (l.take k) = true := by exact rfl) : OY P n ops Q l e w := by
 intro a ha
 have h1 := h a ha
 have := zFc (P := P) (n := n) (ops := ops) (Q := Q) (ro := n.ro) (K := fun _ _ => True) zCz (l.take k) (l.drop k) a w hnd ?_
 ·rw [List.take_append_drop] at this; exact this
 ·have mono : ∀ (p : List Oper) (a : Act) (w : World), wpList P ops (zAa n (thn (fun e' w' => OY P n ops Q (l.drop k) e' w') Q)) p a w → wpList P ops (Exit.then (fun a' w' => wpListIn (fen n.ro) 0 P ops (zAa n Q) (l.drop k) a' w') (zAa n Q)) p a w := by
   intro p
   have hQ : ∀ x a w, zAa n (thn (fun e' w' => OY P n ops Q (l.drop k) e' w') Q) x a w → Exit.then (fun a' w' => wpListIn (fen n.ro) 0 P ops (zAa n Q) (l.drop k) a' w') (zAa n Q) x a w := by
    intro x a w hq
    obtain ⟨h0, e', hf, hq⟩ := hq
    cases x with
    | normal => exact hq a hf
    | outgrown => exact absurd rfl h0
    | _ => exact ⟨h0, e', hf, hq⟩
   induction p with
   | nil => intro a w h; exact hQ _ _ _ h
   | cons o p ih =>
     intro a w h
     unfold wpList at h ⊢
     split
     ·rename_i hw
      rw [if_pos hw] at h
      have h2 := h.resolve_right fun hh => zCz hh.2
      refine .inl ?_
      unfold Oper.wp at h2 ⊢
      generalize (execOp a.eval o).run P w = r at h2 ⊢
      unfold Oper.upon at h2 ⊢
      split at h2
      ·exact ih _ _ h2
      ·exact ih _ _ h2
      ·exact ih _ _ h2
      ·refine Calls.mono h2 fun e w' q => ?_
       cases e with
       | returned v => exact ih _ _ q
       | panicked c => exact hQ _ _ _ q
       | outgrown => exact absurd q zCz
      ·exact Rows.mono h2 fun v w' q => ih _ _ q
      ·exact hQ _ _ _ h2
      ·exact h2.elim
     ·rename_i hw
      rw [if_neg hw] at h
      exact ih _ _ h
  exact mono _ _ _ h1
theorem OY.preN (k m : Nat) {l : List Oper} (h : OW P n ops (thn (fun e' w' => OY P n ops Q (l.drop k) e' w') Q) (l.take k) e w) (_hm : Nat.beq l.length m = true := by exact rfl) (hnd : zCq (l.take k) = true := by exact rfl) : OY P n ops Q l e w := OY.pre k h hnd
theorem OY.all {l : List Oper} (h : OW P n ops Q l e w) (hnd : zCq l = true := by exact rfl) : OY P n ops Q l e w := by
 intro a ha
 have := zFc (P := P) (n := n) (ops := ops) (Q := Q) (ro := n.ro) (K := fun _ _ => True) zCz l [] a w hnd ?_
 ·rw [List.append_nil] at this; exact this
 ·have he : Exit.then (fun a' w' => wpListIn (fen n.ro) 0 P ops (zAa n Q) [] a' w') (zAa n Q) = zAa n Q := by
   funext x a w; cases x <;> rfl
  rw [he]
  exact h a ha
theorem OY.yield {d l : Nat} {x : Operand} {args : Array Operand} {ts : Array TypeId} {as0 : List Value} {R : Value → World → Prop} (hc : Yld P l as0 w (fun e w' => ∃ v, e = .returned v ∧ R v w')) (k : ∀ v w', R v w' → OY P n ops Q rest (ovl ((d, v) :: L) b) w')
  (hd : o.dst = some d := by exact rfl) (hlt : Nat.blt d n.n = true := by exact rfl) (ho : o.op = .call { callee := .value x, args := args, argTypes := ts } := by exact rfl) (hx : ev (ovl L b) x = .func (.yield l) #[] #[] := by exact rfl) (hl : evS (ovl L b) args.toList = some as0 := by exact rfl)
  (hw : ∀ a, Fits n a (ovl L b) → Region.wanted o (yielded ops a.tmps) = true) : OY P n ops Q (o :: rest) (ovl L b) w := by
 intro a ha
 unfold wpListIn
 rw [if_pos (hw a ha)]
 refine ⟨fun _ _ => trivial, ?_⟩
 rw [Oper.semAt_eq _ _ _ (fun c hc => by rw [ho] at hc; cases hc)]
 have hl' : evl (ovl L b) args = as0 := zC1 hl
 have he : args.map (ev (ovl L b)) = as0.toArray := by rw [← hl']; simp only [evl, ← zCb]
 obtain ⟨fn, tmps, assign, body, hy, hR⟩ := hc
 rw [ha.eval]
 have hr : (execOp (ev (ovl L b)) o).run P w = .ok (.round l fn tmps assign body) w := by
  simp only [execOp, ho, resolve, hx, Deferred.ofValue, invoke, Sem.run_bind, Sem.run_pure, Result.andThen_ok, he]
  simpa using hy
 rw [hr, Oper.uponIn_round]
 refine ⟨fun h => (by cases h), ?_⟩
 have hR2 : RoundIn (fen n.ro) (0 - 1) P l fn tmps assign body w (fun e w' => ∃ v, e = .returned v ∧ R v w') := hR
 refine RoundIn.mono hR2 fun e w' hq => ?_
 obtain ⟨v, rfl, hv⟩ := hq
 rw [hd]
 exact k v w' hv _ (ha.put hlt v)
theorem OY.go (hg : o.guard = none) : ∀ a, Fits n a e → Region.wanted o (yielded ops a.tmps) = true := fun a _ => by simp [Region.wanted, hg]
theorem OY.gY {j d : Nat} {want : Bool} (hg : o.guard = some (j, want)) (hj : (ops[j]?).bind (·.dst) = some d) (hv : gd (e d) want = some true) : ∀ a, Fits n a e → Region.wanted o (yielded ops a.tmps) = true := fun a ha => zCM ha hg hj hv
end
section
variable {P : Program} {n : Nw} {e : Env} {w : World}
def CM (P : Program) (n : Nw) (c : Code) (Q : List Deferred → zAX) (e : Env) (w : World) : Prop :=
 ∀ a, Fits n a e → c.wpIn (fen n.ro) 0 P (fun x a w => x ≠ .outgrown ∧ ∃ ds e, Fits ⟨n.n, ds, n.ro⟩ a e ∧ Q ds x e w) a w
theorem CM.of {c : Code} {Q : List Deferred → zAX} (h : CW P n c (Q n.ds) e w) : CM P n c Q e w :=
 fun a ha => wpIn_mono (h a ha) fun _ _ _ ⟨hx, e', hf, q⟩ => ⟨hx, n.ds, e', hf, q⟩
theorem CM.seq {x y : Code} {Q : List Deferred → zAX} (h : CW P n x (thn (CM P n y Q) (Q n.ds)) e w) : CM P n (.seq x y) Q e w := by
 intro a ha
 refine wpIn_seq (wpIn_mono (h a ha) (fun x a' w' q => ?_))
 obtain ⟨hx, e', hf, q⟩ := q
 cases x with
 | normal => exact q a' hf
 | _ => exact ⟨hx, n.ds, e', hf, q⟩
theorem CM.seqM {x y : Code} {Q : List Deferred → zAX} (h : CM P n x (fun ds => thn (CM P ⟨n.n, ds, n.ro⟩ y Q) (Q ds)) e w) : CM P n (.seq x y) Q e w := by
 intro a ha
 refine wpIn_seq (wpIn_mono (h a ha) (fun x a' w' q => ?_))
 obtain ⟨hx, ds, e', hf, q⟩ := q
 cases x with
 | normal => exact q a' hf
 | _ => exact ⟨hx, ds, e', hf, q⟩
theorem CM.block {id : Nat} {c : Code} {Q : List Deferred → zAX} (h : CM P n c (fun ds => blk id (Q ds)) e w) : CM P n (.block id c) Q e w := by
 intro a ha
 refine wpIn_block (wpIn_mono (h a ha) (fun x a' w' q => ?_))
 obtain ⟨hx, ds, e', hf, q⟩ := q
 cases x with
 | exit i =>
   simp only [Exit.inBlock]
   by_cases hi : i = id
   ·subst hi; rw [if_pos rfl]; exact ⟨nofun, ds, e', hf, by simpa [blk] using q⟩
   ·rw [if_neg hi]
    have : Nat.beq i id = false := by
     cases hb : Nat.beq i id with
     | false => rfl
     | true => exact absurd (Nat.eq_of_beq_eq_true hb) hi
    exact ⟨nofun, ds, e', hf, by simpa [blk, this] using q⟩
 | _ => exact ⟨hx, ds, e', hf, q⟩
def zK8 (P : Program) (rs : List ResultVar) (R : Ending → World → Prop) (e : Env) : List Deferred → World → Prop
 | [], w => ∃ vs, rds P e w rs vs ∧ R (.returned (zFn vs)) w
 | d :: ds, w => ∃ r w', d.target = .collected r ∧ (Instr.takeDeferred r).run P w = .ok [] w' ∧ zK8 P rs R e ds w'
def postM (P : Program) (rs : List ResultVar) (R : Ending → World → Prop) (ds : List Deferred) : zAX
 | .normal, e, w | .ret, e, w => zK8 P rs R e ds w
 | _, _, _ => False
theorem zJl {P : Program} {fn : Func} {rs : List ResultVar} (hr : fn.results = rs.toArray) {R : Ending → World → Prop} {tmps : Array Value} {e : Env} (he : ∀ i, tmps.getD i undef = e i) :
  ∀ (ds : List Deferred) (w : World), zK8 P rs R e ds w → LeavesInM Fence.wide 0 P fn tmps R ds .returning w
 | [], w, ⟨vs, hv, h⟩ => ⟨_, zDP P fn rs hr tmps e he w vs hv, h⟩
 | d :: ds, w, ⟨r, w', h1, h2, h3⟩ => ⟨nofun, .inl ⟨r, w', h1, h2, zJl hr he ds w' h3⟩⟩
theorem enterM {P : Program} {f : FuncId} {fn : Func} {c : Code} {n : Nat} {l : List Value} {w : World} {R : Ending → World → Prop} (rs : List ResultVar)
  (hf : P.funcs[f]? = some fn) (hb : fn.body = some c) (hn : fn.ntmps = n) (hr : fn.results = rs.toArray) (hl : Nat.ble l.length n = true)
  (h : CM P ⟨n, [], none⟩ c (postM P rs R) (ovl [] (ini l)) w) : Calls P f l.toArray w R := by
 have hl' : l.length ≤ n := by simpa using hl
 have hfit : Fits ⟨n, [], none⟩ { tmps := l.toArray ++ Array.replicate (fn.ntmps - l.toArray.size) undef, defers := [] } (ini l) := by
  refine ⟨by simp [hn]; omega, rfl, fun i => ?_⟩
  simp only [ini, Array.getD_eq_getD_getElem?, List.getD_eq_getElem?_getD]
  by_cases hi : i < l.length
  ·rw [Array.getElem?_append_left (by simpa using hi)]; simp
  ·rw [Array.getElem?_append_right (by simpa using hi)]
   rw [List.getElem?_eq_none (by omega)]
   simp only [Array.getElem?_replicate]
   split <;> rfl
 refine callsIn_wide.1 (callsIn_of_wp_marks (F := Fence.wide) (n := 0) hf hb trivial (wpIn_mono (h _ hfit) (fun x a w' q => ?_)) rfl)
 obtain ⟨hx, ds, e, hfe, q⟩ := q
 have hds : a.defers = ds := hfe.defs
 cases x with
 | normal => show LeavesInM _ _ _ _ _ _ a.defers _ _; rw [hds]; exact zJl hr hfe.get ds w' q
 | ret => show LeavesInM _ _ _ _ _ _ a.defers _ _; rw [hds]; exact zJl hr hfe.get ds w' q
 | panic ch => exact q.elim
 | outgrown => exact q.elim
 | exit i => exact q.elim
 | goto i => exact q.elim
def mark (D : Nat) : Deferred := { target := .collected D, args := #[] }
theorem St.putObj {w0 w : World} {G G' : zI} {b : Nat} {o o' : Obj} (H : St w0 G w) (hu : Up b o o' G G') : St w0 G' (w.putObj b o') :=
 H.up hu rfl rfl rfl (by simp) (World.putObj_heap_same (zBk (H.mem _ hu.mem))) (fun k hk => World.putObj_heap_other hk)
theorem zNx {w0 : World} {rs : List ResultVar} {R : Ending → World → Prop} {G G' : zI} {D : Nat} (H : St w0 G w) (hu : Up D (.deferred (some [])) (.deferred none) G G')
  (k : ∀ w', St w0 G' w' → ∃ vs, rds P e w' rs vs ∧ R (.returned (zFn vs)) w') : zK8 P rs R e [mark D] w :=
 ⟨D, _, rfl, run_takeDeferred (H.mem _ hu.mem), k _ (H.putObj hu)⟩
def Yok (P : Program) (w0 : World) (enc : Nat → List Value) (l k : Nat) (K : Nat → zI → Prop) : Prop :=
 ∀ (M G' : zI) (w : World), K k M → St w0 (M ++ G') w → Yld P l (enc k) w (fun e w' => ∃ v, e = .returned v ∧ (v = .bool true ∧ ∃ M', K (k + 1) M' ∧ St w0 (M' ++ G') w'))
def Iter (P : Program) (w0 : World) (gf : FuncId) (lb : List Value) (N : Nat) (enc : Nat → List Value) (G : zI) : Prop :=
 ∀ (l : Nat) (K : Nat → zI → Prop), (∀ k, k < N → Yok P w0 enc l k K) → ∀ (M G' : zI) (w : World), G ⊆ G' → K 0 M → St w0 (M ++ G') w →
   Calls P gf (Value.func (.yield l) #[] #[] :: lb).toArray w (zf (fun N' _ => ∃ M2, N' = M2 ++ G' ∧ K N M2) w0)
theorem CM.rangeFunc {w0 : World} {Q : List Deferred → zAX} {g : Operand} {p1 p2 : Tmp} {assign body : Code} {L : List (Nat × Value)} {b : Env} {gf : FuncId} {lb : List Value} {N : Nat} (u1 u2 : Nat → Value) {M0 G : zI}
  (J : Nat → zI → Prop) (hro : n.ro = none) (hg : ev (ovl L b) g = .func (.func gf) #[] lb.toArray) (hent : Ent P gf) (h1 : Nat.blt p1 n.n = true) (h2 : Nat.blt p2 n.n = true)
  (hit : Iter P w0 gf lb N (fun k => [u1 k, u2 k]) G) (H : St w0 (M0 ++ G) w) (h0 : J 0 M0)
  (hround : ∀ l k, k < N → ∀ (M G' : zI) (w : World), J k M → St w0 (M ++ G') w → CW P ⟨n.n, [], some l⟩ assign
   (thn (fun e1 w1 => ∃ M2, St w0 (M2 ++ G') w1 ∧ ∀ (G2 : zI) (w2 : World), St w0 (M2 ++ G2) w2 → CW P ⟨n.n, [], some l⟩ body (thn (fun _ w3 => ∃ M3, J (k + 1) M3 ∧ St w0 (M3 ++ G2) w3) (fun _ _ _ => False)) e1 w2) (fun _ _ _ => False))
   (ovl ((p2, u2 k) :: (p1, u1 k) :: L) b) w)
  (hend : ∀ (D : Nat) (lo : Nat × Obj) (M : zI) (w' : World), J N M → St w0 (lo :: (D, .deferred (some [])) :: (M ++ G)) w' → Q (mark D :: n.ds) .normal (ovl L b) w') :
  CM P n (.rangeFunc g #[p1, p2] assign body) Q (ovl L b) w := by
 intro a ha
 refine wpIn_rangeFunc ?_
 intro fn hfn
 rw [show (fen n.ro).round = none from hro]
 obtain ⟨rec, hrec⟩ : ∃ rec : LoopState → Loop, rec = fun st => { state := st, pending := none, fn, tmps := a.tmps, params := #[p1, p2], assign, body, defers := w.heap.size } := ⟨_, rfl⟩
 have HD := H.alloc (.deferred (some []))
 have HL := HD.alloc (.loop (rec .ready))
 rw [World.size_alloc] at HL
 refine ⟨w.heap.size + 1, [mark w.heap.size], (w.alloc (.deferred (some []))).alloc (.loop (rec .ready)), { target := .fn (.func gf) lb.toArray, args := #[.func (.yield (w.heap.size + 1)) #[] #[]] }, (w.alloc (.deferred (some []))).alloc (.loop (rec .ready)), gf,
  (Value.func (.yield (w.heap.size + 1)) #[] #[] :: lb).toArray, (w.alloc (.deferred (some []))).alloc (.loop (rec .ready)), ?_, ?_, fun _ _ => trivial, ?_, fun h => (by cases h), ?_⟩
 ·rw [hrec]; exact run_enterLoop_outer _ _ _ _ _
 ·have hg' : a.eval g = .func (.func gf) #[] lb.toArray := by rw [ha.eval]; exact hg
  simp only [resolve, hg']
  simp [go_sem]
 ·have := hent (#[.func (.yield (w.heap.size + 1)) #[] #[]] ++ lb.toArray)
  simp [invoke, go_sem]
  simpa using this _
 obtain ⟨l, hl⟩ : ∃ l, w.heap.size + 1 = l := ⟨_, rfl⟩
 obtain ⟨D, hD⟩ : ∃ D, w.heap.size = D := ⟨_, rfl⟩
 rw [hl, hD] at HL
 rw [hD] at hrec
 rw [hl, hD]
 have hrounds : ∀ k, k < N → Yok P w0 (fun k => [u1 k, u2 k]) l k (fun k M => ∃ M1, M = (l, .loop (rec .ready)) :: (D, .deferred (some [])) :: M1 ∧ J k M1) := by
  rintro k hk M G' w1 ⟨M1, rfl, hJ⟩ H1
  have hget : w1.heap[l]? = some (.loop (rec .ready)) := H1.mem _ (List.Mem.head _)
  have hy := run_yield (P := P) (args := #[u1 k, u2 k]) hget (by rw [hrec]; rfl)
  refine ⟨_, _, _, _, hy, roundIn_of_wpIn (F := Fence.wide) trivial ?_⟩
  have hfit : Fits ⟨n.n, [], some l⟩ { tmps := (((rec .ready).params.zip #[u1 k, u2 k]).foldl (fun tmps (t, a) => tmps.setIfInBounds t a) (rec .ready).tmps), defers := [] } (ovl ((p2, u2 k) :: (p1, u1 k) :: L) b) := by
   have hf0 : Fits ⟨n.n, [], some l⟩ { tmps := a.tmps, defers := [] } (ovl L b) := ⟨ha.size, rfl, ha.get⟩
   have := (hf0.put (d := p1) h1 (u1 k)).put (d := p2) h2 (u2 k)
   have hz : ((rec .ready).params.zip #[u1 k, u2 k]).foldl (fun tmps (t, a) => tmps.setIfInBounds t a) (rec .ready).tmps = (a.tmps.setIfInBounds p1 (u1 k)).setIfInBounds p2 (u2 k) := by rw [hrec]; simp
   rw [hz]
   exact this
  have HA : St w0 (M1 ++ ((l, .loop (rec .ready)) :: (D, .deferred (some [])) :: G')) w1 := H1.perm (by
   have := List.perm_append_comm_assoc [(l, Obj.loop (rec .ready)), (D, Obj.deferred (some []))] M1 G'
   simpa using this)
  have hA := hround l k hk M1 _ w1 hJ HA _ hfit
  have hra : (rec .ready).assign = assign := by rw [hrec]
  have hrb : (rec .ready).body = body := by rw [hrec]
  rw [hra, hrb]
  refine wpIn_mono hA fun x a1 w2 q => ?_
  obtain ⟨_, e1, hf1, q⟩ := q
  cases x with
  | normal =>
    obtain ⟨M2, H2, hbody⟩ := q
    have hget2 : w2.heap[l]? = some (.loop (rec .ready)) := H2.mem _ (List.mem_append_right _ (List.Mem.head _))
    refine ⟨_, run_beginRound hget2 (by rw [hrec]), ?_⟩
    have H3 : St w0 (M2 ++ ((l, .loop { rec .ready with state := .busy }) :: (D, .deferred (some [])) :: G')) (w2.putObj l (.loop { rec .ready with state := .busy })) := by
     refine H2.putObj (o := .loop (rec .ready)) ?_
     have : ∀ M : zI, Up l (.loop (rec .ready)) (.loop { rec .ready with state := .busy }) (M ++ ((l, .loop (rec .ready)) :: (D, .deferred (some [])) :: G')) (M ++ ((l, .loop { rec .ready with state := .busy }) :: (D, .deferred (some [])) :: G')) := by
      intro M
      induction M with
      | nil => exact Up.here
      | cons x t ih => exact Up.there ih
     exact this M2
    refine wpIn_mono (hbody _ _ H3 a1 hf1) fun x a2 w4 q => ?_
    obtain ⟨_, e2, _, q⟩ := q
    cases x with
    | normal =>
      obtain ⟨M3, hJ3, H4⟩ := q
      have hget4 : w4.heap[l]? = some (.loop { rec .ready with state := .busy }) := H4.mem _ (List.mem_append_right _ (List.Mem.head _))
      refine ⟨_, _, run_endRound none hget4, _, rfl, rfl, (l, .loop (rec .ready)) :: (D, .deferred (some [])) :: M3, ⟨M3, rfl, hJ3⟩, ?_⟩
      have e : ({ ({ rec .ready with state := .busy } : Loop) with state := if (none : Option Code).isNone = true then LoopState.ready else LoopState.done, pending := none } : Loop) = rec .ready := by rw [hrec]; rfl
      rw [e]
      have H5 := H4.perm (List.perm_append_comm_assoc M3 [(l, Obj.loop { rec .ready with state := .busy }), (D, Obj.deferred (some []))] G')
      exact St.putObj H5 Up.here
    | _ => exact q.elim
  | _ => exact q.elim
 have HL' : St w0 (((l, .loop (rec .ready)) :: (D, .deferred (some [])) :: M0) ++ G) ((w.alloc (.deferred (some []))).alloc (.loop (rec .ready))) := HL
 have hcall := hit l (fun k M => ∃ M1, M = (l, .loop (rec .ready)) :: (D, .deferred (some [])) :: M1 ∧ J k M1) hrounds _ G _ (fun _ h => h) ⟨M0, rfl, h0⟩ HL'
 refine zCa.2 (Calls.mono hcall fun e' w3 q => ?_)
 obtain ⟨v, N', rfl, ⟨M2, rfl, M1, rfl, hJ⟩, H3⟩ := q
 have hget : w3.heap[l]? = some (.loop (rec .ready)) := H3.mem _ (List.Mem.head _)
 have hel : (Instr.endLoop l).run P w3 = .ok none (w3.putObj l (.loop { rec .ready with state := .exhausted })) := by
  have := run_endLoop (P := P) hget (by rw [hrec]; simp)
  exact this.trans (congrArg (fun z => Result.ok z _) (show (rec .ready).pending = none by rw [hrec]))
 refine ⟨none, _, hel, ?_⟩
 have H4 : St w0 ((l, .loop { rec .ready with state := .exhausted }) :: (D, .deferred (some [])) :: (M1 ++ G)) (w3.putObj l (.loop { rec .ready with state := .exhausted })) := St.putObj H3 Up.here
 exact ⟨nofun, mark D :: n.ds, ovl L b, ⟨ha.size, by show _ ++ a.defers = _; rw [ha.defs]; rfl, ha.get⟩, hend D _ M1 _ hJ H4⟩
end
end Go.Sk
set_option linter.unusedSimpArgs false
set_option linter.unusedVariables false
namespace Go.Proofs.YtggolnppckpdlaaGreat
open Go Go.Sk Go.RowKit
attribute [local irreducible] Go.Calls
abbrev P3 := Int × Int × Int
def zAV (o : Odr) : List P3 := if (zA1 o).2 > 0 then [(o.acct, (zA1 o).1, (zA1 o).2)] else []
def zAD (a : Auc) : List P3 := if zBX a then (a.seller, a.inst, a.qty) :: a.bids.map (fun b => (b.acct, 0, b.amount)) else []
def zm (s : Sta) : List P3 := s.orders.flatMap zAV ++ s.aucs.flatMap zAD
def p3 (l : List P3) (k : Nat) : P3 := l.getD k (0, 0, 0)
def u1P (s : Sta) (k : Nat) : Value := .agg #[.int .i64 (p3 (zm s) k).1, .int .i64 (p3 (zm s) k).2.1]
def u2P (s : Sta) (k : Nat) : Value := .int .i64 (p3 (zm s) k).2.2
theorem at_in (A B Z C : List P3) {j : Nat} (hj : j < Z.length) : p3 (A ++ (B ++ (Z ++ C))) (A.length + B.length + j) = p3 Z j ∧ A.length + B.length + j < (A ++ (B ++ (Z ++ C))).length := by
 refine ⟨?_, by simp; omega⟩
 unfold p3
 rw [List.getD_eq_getElem?_getD, List.getD_eq_getElem?_getD, List.getElem?_append_right (by omega), List.getElem?_append_right (by omega), List.getElem?_append_left (by omega)]
 congr 2; omega
theorem zGJ {α : Type} (f : α → List P3) (l : List α) (d : α) {i : Nat} (hi : i < l.length) : l.flatMap f = (l.take i).flatMap f ++ (f (l.getD i d) ++ (l.drop (i + 1)).flatMap f) := by
 have h : l = l.take i ++ (l.getD i d :: l.drop (i + 1)) := by
  conv => lhs; rw [← List.take_append_drop i l, List.drop_eq_getElem_cons hi]
  simp [List.getElem?_eq_getElem hi]
 conv => lhs; rw [h]
 rw [List.flatMap_append, List.flatMap_cons]
theorem zDk {α : Type} (f : α → List P3) (l : List α) (d : α) {i : Nat} (hi : i < l.length) : (l.take (i + 1)).flatMap f = (l.take i).flatMap f ++ f (l.getD i d) := by
 rw [List.take_succ_eq_append_getElem hi, List.flatMap_append]
 simp [List.getElem?_eq_getElem hi]
theorem bid_at {l : List Bid} (x : P3) {j : Nat} (hj : j < l.length) : p3 (x :: l.map (fun b => (b.acct, 0, b.amount))) (j + 1) = ((l.getD j default).acct, 0, (l.getD j default).amount) := by
 unfold p3
 rw [List.getD_cons_succ, List.getD_eq_getElem?_getD, List.getElem?_map, List.getElem?_eq_getElem hj, List.getD_eq_getElem?_getD, List.getElem?_eq_getElem hj]
 rfl
set_option maxHeartbeats 4000000 in
theorem zNy {F : zI} (s : Sta) (p : SPt) {bs : Nat} {G : zI} (w0 : World) (hF : Mem w0 F) (hs0 : StaM F s p) (hm : cb bs (s.cells p) 29 ∈ G) :
  Iter Tryz.prog w0 285 [.pointer (some ⟨bs, 0, none⟩)] (zm s).length (fun k => [u1P s k, u2P s k]) G := by
 intro l K hY M G' w hG hK H
 obtain ⟨hnc, hcb, b0, off, cs, T, fr, hs⟩ := hs0.od
 obtain ⟨⟨hnc2, hcb2, b2, off2, cs2, T2, fr2, hs2⟩, hbd⟩ := hs0.au
 have hmG := hG hm
 clear hG hm
 refine enter [] Tryz.func285 rfl Tryz.ntmps285 rfl rfl ?_
 repeat' (first | refine y1 sg ?_ | refine y3 ?_ | refine z13 (zb sg rfl rfl (H.mem.sub (by intro p hp; simp [hp])) hmG rfl rfl) ?_ | (with_reducible first | apply zB | apply zD | apply zC | apply zE) | refine zA ?_ | fail)
 refine zK [(4, 6), (14, 35)] (fun x : Nat × zI => [(14, .int .i64 (x.1 : Int))]) (fun x w => x.1 ≤ s.orders.length ∧ St w0 (x.2 ++ G') w ∧ K ((s.orders.take x.1).flatMap zAV).length x.2) (fun x => s.orders.length - x.1) (0, M) ⟨rfl, trivial⟩ ⟨Nat.zero_le _, H, hK⟩ ?_
 clear H hK
 rintro ⟨i, M⟩ gh w ⟨hi, H, hK⟩
 simp only at hi H hK ⊢
 repeat' (first | refine y1 sg ?_ | (with_reducible first | apply zB | apply zD | apply zC) | refine zA ?_ | fail)
 refine zM rfl (fun h => ?_) (fun h => ?_)
 ·have hlt : i < s.orders.length := by have := of_decide_eq_true h; omega
  clear h
  obtain ⟨hq, hn, hh⟩ : ∃ q n, zA1 (od_ s.orders i) = (q, n) := ⟨_, _, rfl⟩
  have hHo := fun w => zPI (od_ s.orders i) w
  rw [hh] at hHo
  have hsp := zGJ zAV s.orders default hlt
  have htk := zDk zAV s.orders default hlt
  change _ = _ ++ (zAV (od_ s.orders i) ++ _) at hsp
  change _ = _ ++ zAV (od_ s.orders i) at htk
  have e1 : zAV (od_ s.orders i) = if hn > 0 then [((od_ s.orders i).acct, hq, hn)] else [] := by unfold zAV; rw [hh]
  obtain ⟨cnt, hcnt⟩ : ∃ c, ((s.orders.take i).flatMap zAV).length = c := ⟨_, rfl⟩
  rw [hcnt] at hK
  have hYo : hn > 0 → ∀ (M G' : zI) (w : World), K cnt M → St w0 (M ++ G') w → Yld Tryz.prog l [.agg #[.int .i64 (od_ s.orders i).acct, .int .i64 hq], .int .i64 hn] w (fun e w' => ∃ v, e = .returned v ∧ (v = .bool true ∧ ∃ M', K (cnt + 1) M' ∧ St w0 (M' ++ G') w')) := by
   intro hpos M G' w hK H
   rw [if_pos hpos] at e1
   rw [e1] at hsp
   have hp : zm s = [] ++ ((s.orders.take i).flatMap zAV ++ ([((od_ s.orders i).acct, hq, hn)] ++ ((s.orders.drop (i + 1)).flatMap zAV ++ s.aucs.flatMap zAD))) := by
    unfold zm; rw [hsp]; simp
   obtain ⟨h1, h2⟩ := at_in [] ((s.orders.take i).flatMap zAV) [((od_ s.orders i).acct, hq, hn)] ((s.orders.drop (i + 1)).flatMap zAV ++ s.aucs.flatMap zAD) (j := 0) (by simp)
   rw [← hp, hcnt] at h1 h2
   simp only [List.length_nil, Nat.zero_add, Nat.add_zero] at h1 h2
   have := hY cnt h2 M G' w hK H
   simp only [u1P, u2P, h1] at this
   exact this
  repeat' (first | refine y1 sg ?_ | refine y3 ?_ | refine y5 sg ?_ | refine y7 sg H ?_ | (refine y10 sg H ?_; intro b w H) | (refine y11 sg H ?_; intro w H) | (refine y40 sg (hs) ?_ ?_ ?_; (omega); (omega)) | (refine y42 sg (hs) ((H.memF hF)) ?_ ?_; (omega)) | (refine' y30 ent286 ?_ ?_; rotate_left; exact hHo _; intro w hcl; replace H := H.ext hcl; clear hcl) | (refine CW.regionY (id := 4) ?_) | (refine OY.yield (hYo (of_decide_eq_true h) M (_ :: G') _ hK (H.perm (zAJ M G'))) ?_ (hw := OY.gY rfl rfl rfl); rintro v w ⟨rfl, M, hK, H⟩; replace H := H.perm (zAJ M G').symm) | (refine OY.preN 9 12 ?_; simp only [List.take_succ_cons, List.take_zero, List.drop_succ_cons, List.drop_zero]) | (refine OY.all ?_) | refine y13 ?_ | refine y14 ?_ | (refine y17 ?_ ?_; all_goals intro h) | (with_reducible first | apply zB | apply zD | apply zC | apply zE | apply zG) | refine zA ?_ | refine y22 ?_ | fail)
  ·have hpos := of_decide_eq_true h
   refine zJ (i + 1, M) rfl ⟨zT (by omega), trivial⟩ ⟨hlt, H.sub (List.sublist_cons_self _ _), ?_⟩ (by simp only; omega)
   simp only
   rw [htk, e1, if_pos hpos, List.length_append, hcnt]
   exact hK
  ·have hneg := of_decide_eq_false h
   refine zJ (i + 1, M) rfl ⟨zT (by omega), trivial⟩ ⟨hlt, H.sub (List.sublist_cons_self _ _), ?_⟩ (by simp only; omega)
   simp only
   rw [htk, e1, if_neg hneg, List.append_nil, hcnt]
   exact hK
 ·obtain rfl : i = s.orders.length := by have := of_decide_eq_false h; omega
  clear h
  rw [List.take_length] at hK
  obtain ⟨A, hA⟩ : ∃ A, (s.orders.flatMap zAV).length = A := ⟨_, rfl⟩
  rw [hA] at hK
  repeat' (first | refine y1 sg ?_ | refine y3 ?_ | refine z13 (zb sg rfl rfl (H.mem.sub (by intro p hp; simp [hp])) hmG rfl rfl) ?_ | (with_reducible first | apply zB | apply zD | apply zC | apply zE | apply zL | apply zS) | refine zA ?_ | refine y24 ?_ | fail)
  refine zK [(8, 8), (10, 10), (39, 72)] (fun x : Nat × zI => [(39, .int .i64 (x.1 : Int))]) (fun x w => x.1 ≤ s.aucs.length ∧ St w0 (x.2 ++ G') w ∧ K (A + ((s.aucs.take x.1).flatMap zAD).length) x.2) (fun x => s.aucs.length - x.1) (0, M) ⟨rfl, trivial⟩ ⟨Nat.zero_le _, H, hK⟩ ?_
  clear H hK hi
  rintro ⟨i, M⟩ gh w ⟨hi, H, hK⟩
  simp only at hi H hK ⊢
  repeat' (first | refine y1 sg ?_ | (with_reducible first | apply zB | apply zD | apply zC) | refine zA ?_ | fail)
  refine zM rfl (fun h => ?_) (fun h => ?_)
  ·have hlt : i < s.aucs.length := by have := of_decide_eq_true h; omega
   clear h
   have hbx := hbd i hlt
   have hsp := zGJ zAD s.aucs default hlt
   have htk := zDk zAD s.aucs default hlt
   obtain ⟨cnt, hcnt⟩ : ∃ c, A + ((s.aucs.take i).flatMap zAD).length = c := ⟨_, rfl⟩
   rw [hcnt] at hK
   have hYa : zBX (s.aucs.getD i default) = true → ∀ j, j < (s.aucs.getD i default).bids.length + 1 → ∀ (M G' : zI) (w : World), K (cnt + j) M → St w0 (M ++ G') w → Yld Tryz.prog l [.agg #[.int .i64 (p3 (zAD (s.aucs.getD i default)) j).1, .int .i64 (p3 (zAD (s.aucs.getD i default)) j).2.1], .int .i64 (p3 (zAD (s.aucs.getD i default)) j).2.2] w (fun e w' => ∃ v, e = .returned v ∧ (v = .bool true ∧ ∃ M', K (cnt + j + 1) M' ∧ St w0 (M' ++ G') w')) := by
    intro hmay j hj M G' w hK H
    have hp : zm s = s.orders.flatMap zAV ++ ((s.aucs.take i).flatMap zAD ++ (zAD (s.aucs.getD i default) ++ (s.aucs.drop (i + 1)).flatMap zAD)) := by
     unfold zm; rw [← hsp]
    obtain ⟨h1, h2⟩ := at_in (s.orders.flatMap zAV) ((s.aucs.take i).flatMap zAD) (zAD (s.aucs.getD i default)) ((s.aucs.drop (i + 1)).flatMap zAD) (j := j) (by unfold zAD; rw [if_pos hmay]; simpa using hj)
    rw [← hp, hA, hcnt] at h1 h2
    have := hY (cnt + j) h2 M G' w hK H
    simp only [u1P, u2P, h1] at this
    exact this
   repeat' (first | refine y1 sg ?_ | refine y3 ?_ | refine y7 sg H ?_ | (refine y10 sg H ?_; intro b w H) | (refine y11 sg H ?_; intro w H) | (refine y40 sg (hs2) ?_ ?_ ?_; (omega); (omega)) | (refine y42 sg (hs2) ((H.memF hF)) ?_ ?_; (omega)) | (refine' y30 zNA ?_ ?_; rotate_left; exact c_May (s.aucs.getD i default) _ (H.memF hF) hbx; intro w hcl; replace H := H.ext hcl; clear hcl) | (with_reducible first | apply zB | apply zD | apply zC | apply zE | apply zG) | refine zA ?_ | fail)
   refine zM rfl (fun h => ?_) (fun h => ?_)
   ·have hmf : zBX (s.aucs.getD i default) = false := by simpa using h
    clear h
    repeat' (first | refine y1 sg ?_ | (with_reducible first | apply zB | apply zD | apply zL) | refine zA ?_ | fail)
    refine zJ (i + 1, M) rfl ⟨zT (by omega), trivial⟩ ⟨hlt, H.sub (List.sublist_cons_self _ _), ?_⟩ (by simp only; omega)
    simp only
    have : zAD (s.aucs.getD i default) = [] := by unfold zAD; rw [hmf]; rfl
    rw [htk, this, List.append_nil, hcnt]
    exact hK
   ·have hmt : zBX (s.aucs.getD i default) = true := by simpa using h
    clear h
    have hYm := hYa hmt
    have hap : zAD (s.aucs.getD i default) = ((s.aucs.getD i default).seller, (s.aucs.getD i default).inst, (s.aucs.getD i default).qty) :: (s.aucs.getD i default).bids.map (fun b => (b.acct, 0, b.amount)) := by unfold zAD; rw [if_pos hmt]
    have hY0 := hYm 0 (Nat.succ_pos _)
    rw [hap] at hY0
    have hYb : ∀ j, j < (s.aucs.getD i default).bids.length → ∀ (M G' : zI) (w : World), K (cnt + 1 + j) M → St w0 (M ++ G') w → Yld Tryz.prog l [.agg #[.int .i64 ((s.aucs.getD i default).bids.getD j default).acct, .int .i64 0], .int .i64 ((s.aucs.getD i default).bids.getD j default).amount] w (fun e w' => ∃ v, e = .returned v ∧ (v = .bool true ∧ ∃ M', K (cnt + 1 + (j + 1)) M' ∧ St w0 (M' ++ G') w')) := by
     intro j hj M G' w hK H
     have h1 := hYm (j + 1) (by omega) M G' w (by rw [show cnt + (j + 1) = cnt + 1 + j by omega]; exact hK) H
     have h2 : p3 (zAD (s.aucs.getD i default)) (j + 1) = (((s.aucs.getD i default).bids.getD j default).acct, 0, ((s.aucs.getD i default).bids.getD j default).amount) := by
      rw [hap]
      exact bid_at _ hj
     rw [h2, show cnt + (j + 1) + 1 = cnt + 1 + (j + 1) by omega] at h1
     exact h1
    obtain ⟨hnc3, hcb3, b3, off3, cs3, T3, fr3, hs3⟩ := hbx
    repeat' (first | refine y1 sg ?_ | refine y3 ?_ | refine y7 sg H ?_ | (refine CW.regionY (id := 10) ?_) | (refine OY.yield (hY0 M (_ :: G') _ hK (H.perm (zAJ M G'))) ?_ (hw := OY.go rfl); rintro v w ⟨rfl, M, hK, H⟩; replace H := H.perm (zAJ M G').symm) | (refine OY.preN 8 10 ?_; simp only [List.take_succ_cons, List.take_zero, List.drop_succ_cons, List.drop_zero]) | (refine OY.all ?_) | (with_reducible first | apply zB | apply zD | apply zC | apply zE | apply zG) | refine zA ?_ | refine y22 ?_ | fail)
    refine zK [(10, 10), (59, 71)] (fun x : Nat × zI => [(59, .int .i64 (x.1 : Int))]) (fun x w => x.1 ≤ (s.aucs.getD i default).bids.length ∧ St w0 (_ :: (x.2 ++ G')) w ∧ K (cnt + 1 + x.1) x.2) (fun x => (s.aucs.getD i default).bids.length - x.1) (0, M) ⟨rfl, trivial⟩ ⟨Nat.zero_le _, H, hK⟩ ?_
    clear H hK
    rintro ⟨j, M⟩ gh2 w ⟨hj, H, hK⟩
    simp only at hj H hK ⊢
    repeat' (first | refine y1 sg ?_ | (with_reducible first | apply zB | apply zD | apply zC) | refine zA ?_ | fail)
    refine zM rfl (fun h => ?_) (fun h => ?_)
    ·have hlj : j < (s.aucs.getD i default).bids.length := by have := of_decide_eq_true h; omega
     clear h
     have hYj := hYb j hlj
     repeat' (first | refine y1 sg ?_ | refine y3 ?_ | refine y7 sg H ?_ | (refine y10 sg H ?_; intro b w H) | (refine y11 sg H ?_; intro w H) | (refine y40 sg (hs3) ?_ ?_ ?_; (omega); (omega)) | (refine y42 sg (hs3) ((H.memF hF)) ?_ ?_; (omega)) | (refine CW.regionY (id := 14) ?_) | (refine OY.yield (hYj M (_ :: _ :: G') _ hK (H.perm (zt M G'))) ?_ (hw := OY.go rfl); rintro v w ⟨rfl, M, hK, H⟩; replace H := H.perm (zt M G').symm) | (refine OY.preN 6 8 ?_; simp only [List.take_succ_cons, List.take_zero, List.drop_succ_cons, List.drop_zero]) | (refine OY.all ?_) | (with_reducible first | apply zB | apply zD | apply zC | apply zE | apply zG) | refine zA ?_ | refine y22 ?_ | fail)
     exact zJ (j + 1, M) rfl ⟨zT (by omega), trivial⟩ ⟨hlj, H.sub (List.sublist_cons_self _ _), hK⟩ (by simp only; omega)
    ·obtain rfl : j = (s.aucs.getD i default).bids.length := by have := of_decide_eq_false h; omega
     repeat' (first | refine y1 sg ?_ | (with_reducible first | apply zB | apply zD | apply zL) | refine zA ?_ | fail)
     refine zAY (i + 1, M) rfl ⟨zT (by omega), trivial⟩ ⟨hlt, H.sub (List.sublist_cons_self _ _), ?_⟩ (by simp only; omega)
     simp only
     rw [htk, hap, List.length_append, List.length_cons, List.length_map, ← Nat.add_assoc, hcnt]
     rw [show cnt + ((s.aucs.getD i default).bids.length + 1) = cnt + 1 + (s.aucs.getD i default).bids.length by omega]
     exact hK
  ·obtain rfl : i = s.aucs.length := by have := of_decide_eq_false h; omega
   rw [List.take_length] at hK
   repeat' (first | (with_reducible first | apply zL | apply zS) | refine y24 ?_ | fail)
   refine zu (vs := []) trivial H ⟨M, rfl, ?_⟩
   unfold zm
   rw [List.length_append, hA]
   exact hK
end Go.Proofs.YtggolnppckpdlaaGreat
