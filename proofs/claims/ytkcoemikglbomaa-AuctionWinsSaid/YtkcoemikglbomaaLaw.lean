/- From a law's call to its row: what is read of the arguments, and what is read behind the call. Over any program. -/
import Derived.Test.YtkcoemikglbomaaCore
import Derived.ProofKit
import Derived.Deep.Slices
namespace Go.Sk
open Go Go.RowKit Go.ChangeShapes Go.WideShapes

/-! ### Behind the call -/
section
variable {H : Type} {enc : TypeId × Value → H} {P : Program}
theorem Below.trodAll (hl : laidOutB P = true) {W W' : World} (hb : Below W.heap.size W W') : ∀ {ts : List TypeId} {vs : List Value} {ds : List (DataW H)} {ps : List MemPlace},
    (ts.all fun t => P.readableRec t && decide (t < P.types.size)) = true → DataW.TrodAll enc P W 0 (fun _ => true) true ts vs ds ps → (∀ x ∈ ps, x.block < W.heap.size) →
    DataW.TrodAll enc P W' 0 (fun b => decide (b < W.heap.size)) true ts vs ds ps
  | [], _, _, _, _, h, _ => by
    obtain ⟨rfl, rfl, rfl⟩ := trodAll_nil h
    exact rfl
  | t :: ts, _, _, _, hr, h, hlt => by
    obtain ⟨v, vs, d, ds, p, q, rfl, rfl, rfl, hd, hs⟩ := trodAll_cons h
    simp only [List.all_cons, Bool.and_eq_true, decide_eq_true_eq] at hr
    exact ⟨p, q, Below.trod hl hr.1.1 hr.1.2 hd hb (fun x hx => hlt x (List.mem_append_left _ hx)), Below.trodAll hl hb hr.2 hs (fun x hx => hlt x (List.mem_append_right _ hx)), rfl⟩

theorem law_post {fn : Func} {s : ChangeSpec} {apart : Bool} {W W' : World} {args : Array Value} {ds gs : List (DataW H)} {before : List MemPlace} {tb : TypeId}
    (hl : laidOutB P = true) (hv : s.vars = []) (hr : (fn.params.toList.all fun t => P.readableRec t && decide (t < P.types.size)) = true)
    (hres : fn.resultTypes = #[tb]) (hb : P.underlying tb = some .bool) (hs : s.fn H ds = { results := [.lit (.bool true)], args := ds })
    (hW : DataW.Whole enc P fn.params.toList s.vars apart W args.toList ds gs before) (hc : Cl W W') :
    s.post enc P fn apart true false false W args (.bool true) W' := by
  have hlt : ∀ x ∈ before, x.block < W.heap.size := fun x hx => by simpa using DataW.Whole.lt hW x hx
  have hW' := hW
  obtain ⟨p, q, hA, hV, rfl, _, _⟩ := hW
  rw [hv] at hV
  obtain ⟨rfl, rfl⟩ := trodVars_none hV
  have e : s.fn H (ds ++ []) = { results := [.lit (.bool true)], args := ds } := by rw [List.append_nil]; exact hs
  refine ⟨ds, [], p ++ [], [], p, [], hW', ?_, ?_, ?_, Below.frame hc _, fun h => by cases h⟩
  · rw [e, hres]
    exact trodAll_mk1 (shut_bool hb true)
  · rw [e]
    exact Below.trodAll hl hc hr hA (fun x hx => hlt x (List.mem_append_left _ hx))
  · rw [e, hv]
    exact rfl
end

theorem Sig.desc {P : Program} (S : Sig P) {t : TypeId} {ti : TI} (h : lk S.tab t = some ti) {d : TypeDesc} (hd : ti.d = d) : P.underlying t = some d := by
  subst hd
  exact (S.ok _ (lk_mem h)).1
theorem Sig.ncells {P : Program} (S : Sig P) {t : TypeId} {ti : TI} (h : lk S.tab t = some ti) {n : Nat} (hn : ti.size = n) : P.cellsOf t = n := by
  subst hn
  have := (S.ok _ (lk_mem h)).2
  unfold Program.cellsOf
  cases hi : P.info? t with
  | none => rw [hi] at this; cases this
  | some i => rw [hi] at this; simp at this; simp [this.1]

/-! ### Before the call: a struct's cells, one field behind the other -/
section
variable {H : Type} (enc : TypeId × Value → H) (P : Program) (w : World)
/-- Cells that read as data of a type. -/
def Rd (t : TypeId) (cs : List Value) : Prop := ∃ fuel y, DataW.trod enc P w 0 (fun _ => true) true fuel t cs = some y
def Parts : List TypeId → List Value → Prop
  | [], cs => cs = []
  | t :: ts, cs => Rd enc P w t (cs.take (P.cellsOf t)) ∧ P.cellsOf t ≤ cs.length ∧ Parts ts (cs.drop (P.cellsOf t))
end
section
variable {H : Type} {enc : TypeId × Value → H} {P : Program} {w : World}
def packed (P : Program) : List Field → Nat → Nat → Bool
  | [], o, n => o == n
  | f :: fs, o, n => f.offset == o && packed P fs (o + P.cellsOf f.type) n
theorem parts_of {cs : List Value} : ∀ (fs : List Field) (o : Nat), packed P fs o cs.length = true → (∀ f ∈ fs, Rd enc P w f.type ((cs.drop f.offset).take (P.cellsOf f.type))) → o ≤ cs.length ∧ Parts enc P w (fs.map (·.type)) (cs.drop o)
  | [], o, hp, _ => by
    have : o = cs.length := by simpa [packed] using hp
    subst this
    exact ⟨Nat.le_refl _, by simp [Parts]⟩
  | f :: fs, o, hp, h => by
    simp only [packed, Bool.and_eq_true, beq_iff_eq] at hp
    obtain ⟨rfl, hp⟩ := hp
    obtain ⟨h1, h2⟩ := parts_of fs _ hp (fun g hg => h g (List.mem_cons_of_mem _ hg))
    refine ⟨by omega, h f (List.mem_cons_self ..), ?_, ?_⟩
    · show P.cellsOf f.type ≤ _; rw [List.length_drop]; omega
    · rw [List.drop_drop]; exact h2
/-- A struct's cells in parts. -/
theorem Rd.struct {t : TypeId} {fs : Array Field} {cs : List Value} (h : Rd enc P w t cs) (ht : P.underlying t = some (.struct fs)) (hp : packed P fs.toList 0 (P.cellsOf t) = true) : Parts enc P w (fs.toList.map (·.type)) cs := by
  obtain ⟨n, y, h⟩ := h
  obtain ⟨xs, m, _, _, hl, hx, hg⟩ := DataW.trod_struct ht h
  have := (parts_of (enc := enc) (w := w) (cs := cs) fs.toList 0 (by rw [hl]; exact hp) (fun f hf => by
    obtain ⟨i, hi, rfl⟩ := List.mem_iff_getElem.1 hf
    have hi' : i < fs.size := by simpa using hi
    refine ⟨m, xs[i]'(by omega), ?_⟩
    rw [← List.getElem?_eq_getElem]
    exact hg i _ (by simp [hi']))).2
  simpa using this
theorem Parts.nil {cs : List Value} (h : Parts enc P w [] cs) : cs = [] := h
theorem Rd.int {t : TypeId} {k : IntKind} {cs : List Value} (h : Rd enc P w t cs) (ht : P.underlying t = some (.int k)) : ∃ i, cs = [.int k i] ∧ (Lit.int k i).wf = true := by
  obtain ⟨n, y, h⟩ := h
  obtain ⟨i, h1, _, h2⟩ := DataW.trod_int ht h
  exact ⟨i, h1, h2⟩
theorem Rd.bool {t : TypeId} {cs : List Value} (h : Rd enc P w t cs) (ht : P.underlying t = some .bool) : ∃ i, cs = [.bool i] := by
  obtain ⟨n, y, h⟩ := h
  obtain ⟨i, h1, _⟩ := DataW.trod_bool ht h
  exact ⟨i, h1⟩
theorem Rd.string {t : TypeId} {cs : List Value} (h : Rd enc P w t cs) (ht : P.underlying t = some .string) : ∃ s : ByteArray, cs = [.string s] ∧ s.size ≤ maxLen := by
  obtain ⟨n, y, h⟩ := h
  obtain ⟨s, h1, _, h2⟩ := DataW.trod_string ht h
  exact ⟨s, h1, h2⟩
theorem take_one {cs : List Value} {v : Value} (h : cs.take 1 = [v]) : cs = v :: cs.drop 1 := by
  cases cs with
  | nil => cases h
  | cons a l => simp at h; simp [h]
theorem Parts.int {t : TypeId} {ts : List TypeId} {k : IntKind} {cs : List Value} (h : Parts enc P w (t :: ts) cs) (ht : P.underlying t = some (.int k)) (hc : P.cellsOf t = 1) : ∃ i cs', cs = .int k i :: cs' ∧ (Lit.int k i).wf = true ∧ Parts enc P w ts cs' := by
  obtain ⟨h1, _, h3⟩ := h
  obtain ⟨i, e, hw⟩ := h1.int ht
  rw [hc] at e h3
  exact ⟨i, _, take_one e, hw, h3⟩
theorem Parts.bool {t : TypeId} {ts : List TypeId} {cs : List Value} (h : Parts enc P w (t :: ts) cs) (ht : P.underlying t = some .bool) (hc : P.cellsOf t = 1) : ∃ i cs', cs = .bool i :: cs' ∧ True ∧ Parts enc P w ts cs' := by
  obtain ⟨h1, _, h3⟩ := h
  obtain ⟨i, e⟩ := h1.bool ht
  rw [hc] at e h3
  exact ⟨i, _, take_one e, trivial, h3⟩
theorem Parts.string {t : TypeId} {ts : List TypeId} {cs : List Value} (h : Parts enc P w (t :: ts) cs) (ht : P.underlying t = some .string) (hc : P.cellsOf t = 1) : ∃ s cs', cs = .string s :: cs' ∧ s.size ≤ maxLen ∧ Parts enc P w ts cs' := by
  obtain ⟨h1, _, h3⟩ := h
  obtain ⟨i, e, hs⟩ := h1.string ht
  rw [hc] at e h3
  exact ⟨i, _, take_one e, hs, h3⟩
/-- One part, of whatever type. -/
theorem Parts.part {t : TypeId} {ts : List TypeId} {cs : List Value} (h : Parts enc P w (t :: ts) cs) : ∃ c cs', cs = c ++ cs' ∧ c.length = P.cellsOf t ∧ Rd enc P w t c ∧ Parts enc P w ts cs' :=
  ⟨cs.take (P.cellsOf t), cs.drop (P.cellsOf t), (List.take_append_drop _ _).symm, by rw [List.length_take]; exact Nat.min_eq_left h.2.1, h.1, h.2.2⟩

/-! ### A slice: all of a world's memory as known memory -/
def allF (w : World) : Frag := (List.range w.heap.size).filterMap fun i => (w.heap[i]?).map (i, ·)
theorem allF_mem (w : World) : Mem w (allF w) := by
  rintro ⟨i, o⟩ h
  simp only [allF, List.mem_filterMap, List.mem_range, Option.map_eq_some_iff] at h
  obtain ⟨j, _, a, h1, h2⟩ := h
  cases h2
  exact h1
theorem mem_allF {w : World} {i : Nat} {o : Obj} (h : w.heap[i]? = some o) : (i, o) ∈ allF w := by
  simp only [allF, List.mem_filterMap, List.mem_range, Option.map_eq_some_iff]
  exact ⟨i, lt_of_get h, o, h, rfl⟩
/-- A slice that reads as data: nothing, or its elements' cells, each of which reads. -/
def SlRd (enc : TypeId × Value → H) (P : Program) (w : World) (e : TypeId) (size : Nat) (a : Option Addr) (len cap : Nat) : Prop :=
  len ≤ cap ∧ cap ≤ maxLen ∧ ∃ b off cs T fr, SlB (allF w) size a len b off cs T fr (fun j => (cs.drop (off + j * size)).take size) ∧ ∀ j, j < len → Rd enc P w e ((cs.drop (off + j * size)).take size)
theorem Rd.slice {t e : TypeId} {size : Nat} {cs : List Value} (h : Rd enc P w t cs) (ht : P.underlying t = some (.slice e)) (hc : P.cellsOf e = size + 1) : ∃ a len cap, cs = [.slice a len cap] ∧ SlRd enc P w e (size + 1) a len cap := by
  obtain ⟨n, y, h⟩ := h
  rcases Go.Deep.open_slice ht h with ⟨rfl, _⟩ | ⟨a, len, cap, m, k, D, Pl, rfl, _, hl, hm, hmm, _, hi⟩
  · exact ⟨none, 0, 0, rfl, Nat.le_refl _, Nat.zero_le _, 0, 0, [], 0, (0, 0), fun h => absurd h (Nat.lt_irrefl _), fun j hj => absurd hj (Nat.not_lt_zero _)⟩
  · refine ⟨some a, len, cap, rfl, hl, hm, ?_⟩
    rw [hc] at hi
    have hlm : m = cap := by simpa using hmm
    subst hlm
    rcases Nat.eq_zero_or_pos len with rfl | hp
    · exact ⟨0, 0, [], 0, (0, 0), fun h => absurd h (Nat.lt_irrefl _), fun j hj => absurd hj (Nat.not_lt_zero _)⟩
    obtain ⟨ba, off, sp⟩ := a
    obtain rfl : sp = none := by
      obtain ⟨cs', h1, _⟩ := hi 0 (by omega)
      obtain ⟨_, h3, h4⟩ := World.cells?_some h1
      have := h4 0 (by omega)
      rw [List.getElem?_eq_getElem (by omega), show ((Addr.mk ba off sp).add (0 * (size + 1))).add 0 = ⟨ba, off, sp⟩ from by simp [Addr.add]] at this
      exact World.cell?_spot this
    have key : ∀ i, i < len → ∃ cs', cs'.length = size + 1 ∧ (∀ q, q < size + 1 → w.cell? ⟨ba, off + i * (size + 1) + q, none⟩ = cs'[q]?) ∧ ∃ y, DataW.trod enc P w 0 (fun _ => true) true k e cs' = some y := by
      intro i hil
      obtain ⟨cs', h1, h2⟩ := hi i (by omega)
      obtain ⟨_, h3, h4⟩ := World.cells?_some h1
      exact ⟨cs', h3, fun q hq => by rw [← h4 q hq, Go.Deep.add_add]; exact congrArg w.cell? (by unfold Addr.add; split <;> simp only [*, Nat.add_assoc, Nat.add_zero]), _, h2⟩
    obtain ⟨c0, l0, g0, _⟩ := key 0 hp
    have g00 := g0 0 (by omega)
    rw [List.getElem?_eq_getElem (by omega)] at g00
    have hblk : ∃ c T fr, w.heap[ba]? = some (.cells c T fr) := by
      unfold World.cell? at g00
      split at g00
      · rename_i c T fr hh; exact ⟨c, T, fr, hh⟩
      · cases g00
    obtain ⟨c, T, fr, hblk⟩ := hblk
    have cell : ∀ q v, w.cell? ⟨ba, q, none⟩ = some v → c.toList[q]? = some v := by
      intro q v hv
      unfold World.cell? at hv
      simp only [hblk] at hv
      simpa using hv
    have fit : ∀ i, i < len → off + i * (size + 1) + (size + 1) ≤ c.toList.length ∧ ∃ y, DataW.trod enc P w 0 (fun _ => true) true k e ((c.toList.drop (off + i * (size + 1))).take (size + 1)) = some y := by
      intro i hil
      obtain ⟨cs', h1, h2, h3⟩ := key i hil
      have hlt : off + i * (size + 1) + (size + 1) ≤ c.toList.length := by
        have := h2 size (by omega)
        rw [List.getElem?_eq_getElem (by omega)] at this
        have := (List.getElem?_eq_some_iff.1 (cell _ _ this)).1
        omega
      refine ⟨hlt, ?_⟩
      have : (c.toList.drop (off + i * (size + 1))).take (size + 1) = cs' := by
        apply List.ext_getElem?
        intro q
        rcases Nat.lt_or_ge q (size + 1) with hq | hq
        · rw [List.getElem?_take_of_lt hq, List.getElem?_drop]
          have := h2 q hq
          rw [List.getElem?_eq_getElem (by omega)] at this
          rw [cell _ _ this, List.getElem?_eq_getElem (by omega)]
        · rw [List.getElem?_eq_none (by rw [List.length_take]; omega), List.getElem?_eq_none (by omega)]
      rw [this]
      exact h3
    exact ⟨ba, off, c.toList, T, fr, fun _ => ⟨rfl, mem_allF (by simpa using hblk), fun j hj => ⟨(fit j hj).1, rfl⟩⟩, fun j hj => ⟨k, (fit j hj).2⟩⟩
theorem Parts.slice {t e : TypeId} {ts : List TypeId} {size : Nat} {cs : List Value} (h : Parts enc P w (t :: ts) cs) (ht : P.underlying t = some (.slice e)) (hc1 : P.cellsOf t = 1) (hc : P.cellsOf e = size + 1) :
    ∃ a len cap cs', cs = .slice a len cap :: cs' ∧ SlRd enc P w e (size + 1) a len cap ∧ Parts enc P w ts cs' := by
  obtain ⟨h1, _, h3⟩ := h
  obtain ⟨a, len, cap, e1, hs⟩ := h1.slice ht hc
  rw [hc1] at e1 h3
  exact ⟨a, len, cap, _, take_one e1, hs, h3⟩
/-- A slice's elements named: 'X j' the j-th one's data. -/
theorem SlRd.named {α : Type} [Inhabited α] {e : TypeId} {size : Nat} {a : Option Addr} {len cap : Nat} (h : SlRd enc P w e size a len cap) {el : α → List Value} (hel : ∀ c, Rd enc P w e c → ∃ x, c = el x) :
    ∃ l : List α, l.length = len ∧ (len ≤ 140737488355328 → SlA (allF w) size a len cap (fun j => el (l.getD j default))) := by
  obtain ⟨h1, h2, b, off, cs, T, fr, h3, h4⟩ := h
  obtain ⟨X, hX⟩ := Go.Deep.choose_lt (p := fun j x => (cs.drop (off + j * size)).take size = el x) (fun j hj => hel _ (h4 j hj))
  refine ⟨(List.range len).map X, by simp, fun h5 => ⟨h1, h5, b, off, cs, T, fr, fun h0 => ⟨(h3 h0).1, (h3 h0).2.1, fun j hj => ⟨((h3 h0).2.2 j hj).1, ?_⟩⟩⟩⟩
  refine ((h3 h0).2.2 j hj).2.trans ?_
  show List.take size (List.drop (off + j * size) cs) = el _
  rw [hX j hj]
  congr 1
  simp [List.getD, hj]
end
/-- What reads of a value is what reads of its cells. -/
theorem Rd.of {H : Type} {enc : TypeId × Value → H} {P : Program} {w : World} {t : TypeId} {v : Value} {d : DataW H} {ps : List MemPlace} (h : DataW.Trod enc P w 0 (fun _ => true) true t v d ps) : Rd enc P w t v.cells.toList :=
  let ⟨f, h⟩ := h
  ⟨f, _, h⟩
end Go.Sk
