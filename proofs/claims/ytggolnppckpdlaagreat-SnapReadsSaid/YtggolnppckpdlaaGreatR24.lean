/- Texts of ours, joined: the steps of the proof, or the claim's theorem. -/
import Derived.KernelRfl
import Derived.Shelf.SlLaysE
import Derived.Shelf.SlLaysM
import Derived.Shelf.SlicesE.Compact
import Derived.Shelf.SortM.Plain
import Derived.Shelf.SortM.SortNone
import Derived.Test.YtggolnppckpdlaaGreatProg
import Derived.Test.YtggolnppckpdlaaGreatR04
import Derived.Test.YtggolnppckpdlaaGreatR17
import Derived.Test.YtggolnppckpdlaaGreatR20
import Derived.Test.YtggolnppckpdlaaGreatR22
import Derived.Test.YtggolnppckpdlaaGreatR23
namespace Go.Sk
open Go Go.Proofs Go.RowKit
open Go.Sort (grow putRow Holds mapBlock putCells onCells)
variable {α : Type} [Inhabited α]
def zEg (enc : α → Value) (d : Array α) (cs : List Value) : List Value := d.toList.map enc ++ cs.drop d.size
theorem zHl (enc : α → Value) (d : Array α) (cs : List Value) (h : d.size ≤ cs.length) : putCells enc 0 d cs.toArray = (zEg enc d cs).toArray := by
 apply Array.ext_getElem?
 intro k
 simp only [putCells, Array.getElem?_mapIdx, List.getElem?_toArray, zEg]
 by_cases hk : k < d.size
 ·have hc : k < cs.length := by omega
  rw [List.getElem?_append_left (by simpa using hk), List.getElem?_eq_getElem hc, Option.map_some, if_pos ⟨by omega, by omega⟩, List.getElem?_map, Array.getElem?_toList, Nat.sub_zero,
   Array.getElem?_eq_getElem hk, Option.map_some, getElem!_pos d k hk]
 ·rw [List.getElem?_append_right (by simpa using Nat.le_of_not_lt hk), List.getElem?_drop]
  simp only [List.length_map, Array.length_toList]
  rw [show d.size + (k - d.size) = k by omega]
  cases cs[k]? with
  | none => rfl
  | some y => rw [Option.map_some, if_neg (by omega)]
theorem St.put {enc : α → Value} {w0 w : World} {G G' : zI} {b : Nat} {cs : List Value} {T : TypeId} {fr : Nat × Nat} {d : Array α} (n : Nat) (os : Array Obj) (H : St w0 G w)
  (hu : Up b (.cells cs.toArray T fr) (.cells (zEg enc d cs).toArray T fr) G G') (hl : d.size ≤ cs.length) : St w0 G' (grow (putRow enc (Go.Sort.ahead w n) b 0 d) os) := by
 have hb : w.heap[b]? = some (.cells cs.toArray T fr) := H.mem _ hu.mem
 have h1 : St w0 G' (putRow enc (Go.Sort.ahead w n) b 0 d) := by
  refine St.up H hu rfl rfl rfl (by simp [putRow, mapBlock, Go.Sort.ahead]) ?_ fun k hk => ?_
  ·show (w.heap.modify b (onCells (putCells enc 0 d)))[b]? = _
   rw [Array.getElem?_modify, if_pos rfl, hb]
   simp only [Option.map_some, onCells, zHl enc d cs hl]
  ·show (w.heap.modify b (onCells (putCells enc 0 d)))[k]? = _
   rw [Array.getElem?_modify, if_neg (Ne.symm hk)]
 refine St.ext h1 ⟨rfl, rfl, rfl, by simp, fun k hk => ?_⟩
 show ((putRow enc (Go.Sort.ahead w n) b 0 d).heap ++ os)[k]? = _
 rw [Array.getElem?_append_left hk]
theorem zEh {enc : α → Value} {w0 w : World} {G : zI} {b : Nat} {cs : List Value} {T : TypeId} {d : Array α} (H : St w0 G w) (hm : cb b cs T ∈ G) (he : cs.take d.size = d.toList.map enc) : Holds enc w b 0 d := by
 intro j hj
 have hb : w.heap[b]? = some (.cells cs.toArray T (0, 0)) := H.mem _ hm
 refine ⟨?_, ?_⟩
 ·rw [Nat.zero_add, cell_of_row w b j _ T (0, 0) hb, List.getElem?_toArray]
  have : (cs.take d.size)[j]? = cs[j]? := List.getElem?_take_of_lt hj
  rw [← this, he, List.getElem?_map, Array.getElem?_toList, Array.getElem?_eq_getElem hj, Option.map_some, getElem!_pos d j hj]
 ·simp only [World.frozen?, hb]
  simp
section
variable {β : Type} [Inhabited β] [DecidableEq β]
open Go.Lib (compactUpTo)
theorem zFJ (s : List β) (r : β → β → Prop) (hr : ∀ x y, r x y → r y x → x = y) (hs : s.Pairwise r) : (compactUpTo s.toArray s.length).length = s.length ↔ s.Nodup := by
 have hg : ∀ j, j < s.length → s.toArray[j]! = s[j]! := fun j hj => by simp
 have e0 : (compactUpTo s.toArray s.length).length = ((List.range s.length).filter (Lib.keeps s.toArray)).length := by unfold compactUpTo; rw [List.length_map]
 have e1 : (compactUpTo s.toArray s.length).length = s.length ↔ ∀ j, j < s.length → Lib.keeps s.toArray j = true := by
  rw [e0]
  constructor
  ·intro h j hj
   have h2 : ((List.range s.length).filter (Lib.keeps s.toArray)).length = (List.range s.length).length := by rw [h, List.length_range]
   exact (List.length_filter_eq_length_iff.1 h2) j (List.mem_range.2 hj)
  ·intro h
   rw [List.filter_eq_self.2 fun j hj => h j (List.mem_range.1 hj), List.length_range]
 rw [e1]
 have hk : ∀ j, j < s.length → (Lib.keeps s.toArray j = true ↔ (j = 0 ∨ s[j]! ≠ s[j - 1]!)) := fun j hj => by
  unfold Lib.keeps; rw [decide_eq_true_eq, hg j hj, hg (j - 1) (by omega)]
 constructor
 ·intro h
  rw [List.nodup_iff_pairwise_ne, List.pairwise_iff_getElem]
  intro i j hi hj hij he
  have hne : s[j]! ≠ s[j - 1]! := ((hk j hj).1 (h j hj)).resolve_left (by omega)
  rw [getElem!_pos s j hj, getElem!_pos s (j - 1) (by omega)] at hne
  have hp := List.pairwise_iff_getElem.1 hs
  rcases Nat.lt_or_ge i (j - 1) with g | g
  ·exact hne (hr _ _ (he ▸ hp i (j - 1) hi (by omega) g) (hp (j - 1) j (by omega) hj (by omega)))
  ·have : i = j - 1 := by omega
   subst this
   exact hne he.symm
 ·intro h j hj
  refine (hk j hj).2 ?_
  rcases Nat.eq_zero_or_pos j with g | g
  ·exact .inl g
  ·refine .inr fun he => ?_
   rw [getElem!_pos s j hj, getElem!_pos s (j - 1) (by omega)] at he
   have := (List.nodup_iff_pairwise_ne.1 h)
   exact (List.pairwise_iff_getElem.1 this (j - 1) j (by omega) hj (by omega)) he.symm
end
theorem zIi (l : List (List UInt8)) : (Go.Lib.compactUpTo (l.mergeSort fun x y => decide (x ≤ y)).toArray l.length).length = l.length ↔ l.Nodup := by
 have hp := List.mergeSort_perm l fun x y => decide (x ≤ y)
 have h := zFJ (l.mergeSort fun x y => decide (x ≤ y)) (fun x y => decide (x ≤ y) = true) (fun x y h1 h2 => List.le_antisymm (of_decide_eq_true h1) (of_decide_eq_true h2))
  (List.pairwise_mergeSort (fun a b c h1 h2 => by simp only [decide_eq_true_eq] at *; exact List.le_trans h1 h2) (fun a b => by simp only [Bool.or_eq_true, decide_eq_true_eq]; exact List.le_total a b) l)
 rw [hp.length_eq] at h
 exact h.trans hp.nodup_iff
theorem zIj (l : List Int) : (Go.Lib.compactUpTo (l.mergeSort fun x y => decide (x ≤ y)).toArray l.length).length = l.length ↔ l.Nodup := by
 have hp := List.mergeSort_perm l fun x y => decide (x ≤ y)
 have h := zFJ (l.mergeSort fun x y => decide (x ≤ y)) (fun x y => decide (x ≤ y) = true) (fun x y h1 h2 => Int.le_antisymm (of_decide_eq_true h1) (of_decide_eq_true h2))
  (List.pairwise_mergeSort (fun a b c h1 h2 => by simp only [decide_eq_true_eq] at *; exact Int.le_trans h1 h2) (fun a b => by simp only [Bool.or_eq_true, decide_eq_true_eq]; exact Int.le_total a b) l)
 rw [hp.length_eq] at h
 exact h.trans hp.nodup_iff
end Go.Sk
set_option maxRecDepth 100000
namespace Go.Proofs.YtggolnppckpdlaaGreat
open Go Go.Proofs Go.Shelf
def zN5 : Go.Shelf.Ren := ⟨fun | 6 => 270 | 8 => 219 | 9 => 294 | 19 => 260 | 20 => 261 | 21 => 302 | 22 => 303 | 23 => 304 | 24 => 305 | 25 => 306 | 26 => 307 | 27 => 308 | 28 => 309 | 29 => 310 | 36 => 312 | 31 => 288 | 32 => 289 | 37 => 313 | 38 => 314 | 39 => 315 | 41 => 316 | n => n, fun | 27 => 256 | 29 => 9 | 3 => 3 | 32 => 66 | 26 => 256 | 0 => 0 | 44 => 65 | 46 => 97 | 4 => 4 | 36 => 275 | 35 => 274 | 41 => 279 | 5 => 5 | 9 => 9 | 53 => 304 | 57 => 307 | 63 => 316 | 64 => 317 | n => n, fun | n => n⟩
theorem layS : Go.Proofs.SlLaysM.n6 Tryz.prog zN5 := {
 mixed := (by kernel_rfl),
 f6 := ⟨Tryz.f270.name, by decide, Tryz.func270.trans (congrArg some (by kernel_rfl))⟩,
 f8 := Tryz.func219.trans (congrArg some (by kernel_rfl)),
 f9 := ⟨Tryz.f294.name, by decide, Tryz.func294.trans (congrArg some (by kernel_rfl))⟩,
 f19 := Tryz.func260.trans (congrArg some (by kernel_rfl)),
 f20 := Tryz.func261.trans (congrArg some (by kernel_rfl)),
 f21 := ⟨Tryz.f302.name, by decide, Tryz.func302.trans (congrArg some (by kernel_rfl))⟩,
 f22 := ⟨Tryz.f303.name, by decide, Tryz.func303.trans (congrArg some (by kernel_rfl))⟩,
 f23 := ⟨Tryz.f304.name, by decide, Tryz.func304.trans (congrArg some (by kernel_rfl))⟩,
 f24 := ⟨Tryz.f305.name, by decide, Tryz.func305.trans (congrArg some (by kernel_rfl))⟩,
 f25 := ⟨Tryz.f306.name, by decide, Tryz.func306.trans (congrArg some (by kernel_rfl))⟩,
 f26 := ⟨Tryz.f307.name, by decide, Tryz.func307.trans (congrArg some (by kernel_rfl))⟩,
 f27 := ⟨Tryz.f308.name, by decide, Tryz.func308.trans (congrArg some (by kernel_rfl))⟩,
 f28 := ⟨Tryz.f309.name, by decide, Tryz.func309.trans (congrArg some (by kernel_rfl))⟩,
 f29 := ⟨Tryz.f310.name, by decide, Tryz.func310.trans (congrArg some (by kernel_rfl))⟩,
 f31 := Tryz.func288.trans (congrArg some (by kernel_rfl)),
 f32 := Tryz.func289.trans (congrArg some (by kernel_rfl)),
 f36 := ⟨Tryz.f312.name, by decide, Tryz.func312.trans (congrArg some (by kernel_rfl))⟩,
 f37 := ⟨Tryz.f313.name, by decide, Tryz.func313.trans (congrArg some (by kernel_rfl))⟩,
 f38 := ⟨Tryz.f314.name, by decide, Tryz.func314.trans (congrArg some (by kernel_rfl))⟩,
 f39 := ⟨Tryz.f315.name, by decide, Tryz.func315.trans (congrArg some (by kernel_rfl))⟩,
 f41 := ⟨Tryz.f316.name, by decide, Tryz.func316.trans (congrArg some (by kernel_rfl))⟩,
 t0 := Tryz.underlying0,
 a0 := Tryz.isAgg0,
 z0 := Tryz.sizeOf0,
 v0 := Tryz.zeroValue0,
 t3 := Tryz.underlying3,
 a3 := Tryz.isAgg3,
 z3 := Tryz.sizeOf3,
 v3 := Tryz.zeroValue3,
 t4 := Tryz.underlying4,
 a4 := Tryz.isAgg4,
 z4 := Tryz.sizeOf4,
 v4 := Tryz.zeroValue4,
 t5 := Tryz.underlying5,
 a5 := Tryz.isAgg5,
 z5 := Tryz.sizeOf5,
 v5 := Tryz.zeroValue5,
 t9 := Tryz.underlying9,
 a9 := Tryz.isAgg9,
 z9 := Tryz.sizeOf9,
 v9 := Tryz.zeroValue9,
 t26 := Tryz.underlying256,
 a26 := Tryz.isAgg256,
 z26 := Tryz.sizeOf256,
 v26 := Tryz.zeroValue256,
 t27 := Tryz.underlying256,
 a27 := Tryz.isAgg256,
 z27 := Tryz.sizeOf256,
 v27 := Tryz.zeroValue256,
 t29 := Tryz.underlying9,
 a29 := Tryz.isAgg9,
 z29 := Tryz.sizeOf9,
 v29 := Tryz.zeroValue9,
 t32 := Tryz.underlying66,
 a32 := Tryz.isAgg66,
 z32 := Tryz.sizeOf66,
 v32 := Tryz.zeroValue66,
 t35 := Tryz.underlying274,
 a35 := Tryz.isAgg274,
 z35 := Tryz.sizeOf274,
 v35 := Tryz.zeroValue274,
 t36 := Tryz.underlying275,
 a36 := Tryz.isAgg275,
 z36 := Tryz.sizeOf275,
 v36 := Tryz.zeroValue275,
 t41 := Tryz.underlying279,
 a41 := Tryz.isAgg279,
 z41 := Tryz.sizeOf279,
 v41 := Tryz.zeroValue279,
 t44 := Tryz.underlying65,
 a44 := Tryz.isAgg65,
 z44 := Tryz.sizeOf65,
 v44 := Tryz.zeroValue65,
 t46 := Tryz.underlying97,
 a46 := Tryz.isAgg97,
 z46 := Tryz.sizeOf97,
 v46 := Tryz.zeroValue97,
 t53 := Tryz.underlying304,
 a53 := Tryz.isAgg304,
 z53 := Tryz.sizeOf304,
 v53 := Tryz.zeroValue304,
 t57 := Tryz.underlying307,
 a57 := Tryz.isAgg307,
 z57 := Tryz.sizeOf307,
 v57 := Tryz.zeroValue307,
 t63 := Tryz.underlying316,
 a63 := Tryz.isAgg316,
 z63 := Tryz.sizeOf316,
 v63 := Tryz.zeroValue316,
 t64 := Tryz.underlying317,
 a64 := Tryz.isAgg317,
 z64 := Tryz.sizeOf317,
 v64 := Tryz.zeroValue317 }
def zN6 : Go.Shelf.Ren := ⟨fun | 5 => 174 | 8 => 219 | 7 => 218 | 19 => 260 | 20 => 261 | 10 => 251 | 11 => 252 | 12 => 253 | 13 => 254 | 14 => 255 | 15 => 256 | 16 => 257 | 17 => 258 | 18 => 259 | 30 => 287 | 31 => 288 | 32 => 289 | 33 => 290 | 34 => 291 | 35 => 250 | 40 => 301 | n => n, fun | 23 => 209 | 25 => 2 | 3 => 3 | 32 => 66 | 22 => 209 | 0 => 0 | 44 => 65 | 46 => 97 | 4 => 4 | 36 => 275 | 35 => 274 | 41 => 279 | 5 => 5 | 9 => 9 | 53 => 304 | 57 => 307 | 63 => 316 | 64 => 317 | n => n, fun | n => n⟩
theorem layI : Go.Proofs.SlLaysM.n5 Tryz.prog zN6 := {
 mixed := (by kernel_rfl),
 f5 := ⟨Tryz.f174.name, by decide, Tryz.func174.trans (congrArg some (by kernel_rfl))⟩,
 f7 := ⟨Tryz.f218.name, by decide, Tryz.func218.trans (congrArg some (by kernel_rfl))⟩,
 f8 := Tryz.func219.trans (congrArg some (by kernel_rfl)),
 f10 := ⟨Tryz.f251.name, by decide, Tryz.func251.trans (congrArg some (by kernel_rfl))⟩,
 f11 := ⟨Tryz.f252.name, by decide, Tryz.func252.trans (congrArg some (by kernel_rfl))⟩,
 f12 := ⟨Tryz.f253.name, by decide, Tryz.func253.trans (congrArg some (by kernel_rfl))⟩,
 f13 := ⟨Tryz.f254.name, by decide, Tryz.func254.trans (congrArg some (by kernel_rfl))⟩,
 f14 := ⟨Tryz.f255.name, by decide, Tryz.func255.trans (congrArg some (by kernel_rfl))⟩,
 f15 := ⟨Tryz.f256.name, by decide, Tryz.func256.trans (congrArg some (by kernel_rfl))⟩,
 f16 := ⟨Tryz.f257.name, by decide, Tryz.func257.trans (congrArg some (by kernel_rfl))⟩,
 f17 := ⟨Tryz.f258.name, by decide, Tryz.func258.trans (congrArg some (by kernel_rfl))⟩,
 f18 := ⟨Tryz.f259.name, by decide, Tryz.func259.trans (congrArg some (by kernel_rfl))⟩,
 f19 := Tryz.func260.trans (congrArg some (by kernel_rfl)),
 f20 := Tryz.func261.trans (congrArg some (by kernel_rfl)),
 f30 := ⟨Tryz.f287.name, by decide, Tryz.func287.trans (congrArg some (by kernel_rfl))⟩,
 f31 := Tryz.func288.trans (congrArg some (by kernel_rfl)),
 f32 := Tryz.func289.trans (congrArg some (by kernel_rfl)),
 f33 := ⟨Tryz.f290.name, by decide, Tryz.func290.trans (congrArg some (by kernel_rfl))⟩,
 f34 := ⟨Tryz.f291.name, by decide, Tryz.func291.trans (congrArg some (by kernel_rfl))⟩,
 f35 := ⟨Tryz.f250.name, by decide, Tryz.func250.trans (congrArg some (by kernel_rfl))⟩,
 f40 := ⟨Tryz.f301.name, by decide, Tryz.func301.trans (congrArg some (by kernel_rfl))⟩,
 t0 := Tryz.underlying0,
 a0 := Tryz.isAgg0,
 z0 := Tryz.sizeOf0,
 v0 := Tryz.zeroValue0,
 t3 := Tryz.underlying3,
 a3 := Tryz.isAgg3,
 z3 := Tryz.sizeOf3,
 v3 := Tryz.zeroValue3,
 t4 := Tryz.underlying4,
 a4 := Tryz.isAgg4,
 z4 := Tryz.sizeOf4,
 v4 := Tryz.zeroValue4,
 t5 := Tryz.underlying5,
 a5 := Tryz.isAgg5,
 z5 := Tryz.sizeOf5,
 v5 := Tryz.zeroValue5,
 t9 := Tryz.underlying9,
 a9 := Tryz.isAgg9,
 z9 := Tryz.sizeOf9,
 v9 := Tryz.zeroValue9,
 t22 := Tryz.underlying209,
 a22 := Tryz.isAgg209,
 z22 := Tryz.sizeOf209,
 v22 := Tryz.zeroValue209,
 t23 := Tryz.underlying209,
 a23 := Tryz.isAgg209,
 z23 := Tryz.sizeOf209,
 v23 := Tryz.zeroValue209,
 t25 := Tryz.underlying2,
 a25 := Tryz.isAgg2,
 z25 := Tryz.sizeOf2,
 v25 := Tryz.zeroValue2,
 t32 := Tryz.underlying66,
 a32 := Tryz.isAgg66,
 z32 := Tryz.sizeOf66,
 v32 := Tryz.zeroValue66,
 t35 := Tryz.underlying274,
 a35 := Tryz.isAgg274,
 z35 := Tryz.sizeOf274,
 v35 := Tryz.zeroValue274,
 t36 := Tryz.underlying275,
 a36 := Tryz.isAgg275,
 z36 := Tryz.sizeOf275,
 v36 := Tryz.zeroValue275,
 t41 := Tryz.underlying279,
 a41 := Tryz.isAgg279,
 z41 := Tryz.sizeOf279,
 v41 := Tryz.zeroValue279,
 t44 := Tryz.underlying65,
 a44 := Tryz.isAgg65,
 z44 := Tryz.sizeOf65,
 v44 := Tryz.zeroValue65,
 t46 := Tryz.underlying97,
 a46 := Tryz.isAgg97,
 z46 := Tryz.sizeOf97,
 v46 := Tryz.zeroValue97,
 t53 := Tryz.underlying304,
 a53 := Tryz.isAgg304,
 z53 := Tryz.sizeOf304,
 v53 := Tryz.zeroValue304,
 t57 := Tryz.underlying307,
 a57 := Tryz.isAgg307,
 z57 := Tryz.sizeOf307,
 v57 := Tryz.zeroValue307,
 t63 := Tryz.underlying316,
 a63 := Tryz.isAgg316,
 z63 := Tryz.sizeOf316,
 v63 := Tryz.zeroValue316,
 t64 := Tryz.underlying317,
 a64 := Tryz.isAgg317,
 z64 := Tryz.sizeOf317,
 v64 := Tryz.zeroValue317 }
def zMC : Go.Shelf.Ren := ⟨fun | 43 => 271 | n => n, fun | 22 => 256 | 23 => 9 | 3 => 3 | 4 => 4 | 0 => 0 | n => n, fun | n => n⟩
theorem layCS : Go.Proofs.SlLaysE.n43 Tryz.prog zMC := {
 mixed := (by kernel_rfl),
 f43 := ⟨Tryz.f271.name, by decide, Tryz.func271.trans (congrArg some (by kernel_rfl))⟩,
 t0 := Tryz.underlying0,
 a0 := Tryz.isAgg0,
 z0 := Tryz.sizeOf0,
 v0 := Tryz.zeroValue0,
 t3 := Tryz.underlying3,
 a3 := Tryz.isAgg3,
 z3 := Tryz.sizeOf3,
 v3 := Tryz.zeroValue3,
 t4 := Tryz.underlying4,
 a4 := Tryz.isAgg4,
 z4 := Tryz.sizeOf4,
 v4 := Tryz.zeroValue4,
 t22 := Tryz.underlying256,
 a22 := Tryz.isAgg256,
 z22 := Tryz.sizeOf256,
 v22 := Tryz.zeroValue256,
 a23 := Tryz.isAgg9,
 z23 := Tryz.sizeOf9 }
def zMD : Go.Shelf.Ren := ⟨fun | 43 => 175 | n => n, fun | 22 => 209 | 23 => 2 | 3 => 3 | 4 => 4 | 0 => 0 | n => n, fun | n => n⟩
theorem layCI : Go.Proofs.SlLaysE.n43 Tryz.prog zMD := {
 mixed := (by kernel_rfl),
 f43 := ⟨Tryz.f175.name, by decide, Tryz.func175.trans (congrArg some (by kernel_rfl))⟩,
 t0 := Tryz.underlying0,
 a0 := Tryz.isAgg0,
 z0 := Tryz.sizeOf0,
 v0 := Tryz.zeroValue0,
 t3 := Tryz.underlying3,
 a3 := Tryz.isAgg3,
 z3 := Tryz.sizeOf3,
 v3 := Tryz.zeroValue3,
 t4 := Tryz.underlying4,
 a4 := Tryz.isAgg4,
 z4 := Tryz.sizeOf4,
 v4 := Tryz.zeroValue4,
 t22 := Tryz.underlying209,
 a22 := Tryz.isAgg209,
 z22 := Tryz.sizeOf209,
 v22 := Tryz.zeroValue209,
 a23 := Tryz.isAgg2,
 z23 := Tryz.sizeOf2 }
end Go.Proofs.YtggolnppckpdlaaGreat
set_option linter.unusedSimpArgs false
set_option linter.unusedVariables false
namespace Go.Proofs.YtggolnppckpdlaaGreat
open Go Go.Sk Go.RowKit
open Go.Sort (grow putRow)
attribute [local irreducible] Go.Calls
theorem eqStrD (P : Program) (T : TypeId) : EqlAt P T encStr (fun x y => decide (x = y)) :=
 ⟨fun x y w => by rw [(EqlAt.string P T).1 ⟨x.toArray⟩ ⟨y.toArray⟩ w]; by_cases h : x = y <;> simp [ByteArray.toList_eq, h], fun op a b x y w => (EqlAt.string P T).2 op a b ⟨x.toArray⟩ ⟨y.toArray⟩ w⟩
theorem neStrD (P : Program) (T : TypeId) : NeqAt P T encStr (fun x y => decide (x = y)) :=
 ⟨fun x y w => by rw [(NeqAt.string P T).1 ⟨x.toArray⟩ ⟨y.toArray⟩ w]; by_cases h : x = y <;> simp [ByteArray.toList_eq, h], fun op a b x y w => (NeqAt.string P T).2 op a b ⟨x.toArray⟩ ⟨y.toArray⟩ w⟩
theorem zPx {w0 w : World} {M G : zI} {a : Option Addr} {cap : Nat} (ss : List (List UInt8)) (hn : ss.length ≤ 140737488355328) (H : St w0 (M ++ G) w) (hO : Go.Sk.Own M 9 1 a ss.length cap (ss.map encStr)) :
  Calls Tryz.prog 270 [.slice a ss.length cap].toArray w (zf (fun N v => v = .tuple #[] ∧ ∃ M', N = M' ++ G ∧ Go.Sk.Own M' 9 1 a ss.length cap ((ss.mergeSort fun x y => decide (x ≤ y)).map encStr)) w0) := by
 have hl2 : (ss.mergeSort fun x y => decide (x ≤ y)).length = ss.length := (List.mergeSort_perm ss _).length_eq
 rcases hO.2 with ⟨h1, h2, h3⟩ | ⟨g, cs, rfl, rfl, h4, h5, h6, h7⟩
 ·have hs0 : ss = [] := List.eq_nil_of_length_eq_zero h1
  subst hs0; subst h3; subst h2
  refine Calls.mono (AnyM.slices_Sort_string_none layS a 0 w) ?_
  rintro e w' ⟨rfl, rfl⟩
  exact ⟨_, G, rfl, ⟨rfl, [], rfl, by simpa using zAG _ _ _⟩, by simpa using H⟩
 ·have hm : cb g cs 9 ∈ ([cb g cs 9] ++ G) := List.Mem.head _
  have hz : ss.length * 1 = ss.length := Nat.mul_one _
  refine Calls.mono (AnyM.slices_Sort_string layS g 0 cap ss w (zEh H hm (by simpa using h7)) (zBk (H.mem _ hm)) (by omega)) ?_
  rintro e w' ⟨rfl, n, os, rfl⟩
  have hd : (ss.mergeSort fun x y => decide (x ≤ y)).toArray.size = ss.length := by simp
  refine ⟨_, [cb g (zEg encStr (ss.mergeSort fun x y => decide (x ≤ y)).toArray cs) 9] ++ G, rfl, ⟨rfl, _, rfl, ?_⟩, St.put n os H Up.here (by rw [hd]; omega)⟩
  refine ⟨by simp, .inr ⟨g, _, rfl, rfl, h4, h5, ?_, ?_⟩⟩
  ·simp only [zEg, List.length_append, List.length_map, List.length_drop, List.toList_toArray, hd, hl2]; omega
  ·rw [zEg, List.toList_toArray, List.take_left' (by rw [List.length_map, hl2, hz])]
theorem zPy {w0 w : World} {M G : zI} {a : Option Addr} {cap : Nat} (ss : List (List UInt8)) (hn : ss.length ≤ 140737488355328) (H : St w0 (M ++ G) w) (hO : Go.Sk.Own M 9 1 a ss.length cap (ss.map encStr)) :
  Calls Tryz.prog 271 [.slice a ss.length cap].toArray w (zf (fun N v => N = G ∧ ∃ a' c', v = .slice a' (Lib.compactUpTo ss.toArray ss.length).length c') w0) := by
 rcases hO.2 with ⟨h1, h2, h3⟩ | ⟨g, cs, rfl, rfl, h4, h5, h6, h7⟩
 ·have hs0 : ss = [] := List.eq_nil_of_length_eq_zero h1
  subst hs0; subst h3; subst h2
  refine enter [.tmp 2] Tryz.func271 rfl Tryz.ntmps271 rfl rfl ?_
  repeat' (first | refine y1 sg ?_ | (with_reducible first | apply zB | apply zD | apply zC | apply zF | apply zO) | refine zA ?_ | refine y21 ?_ | fail)
  exact zDs rfl H ⟨rfl, a, 0, rfl⟩
 ·have hm : cb g cs 9 ∈ ([cb g cs 9] ++ G) := List.Mem.head _
  refine Calls.mono (AnyE.slices_Compact layCS encStr (fun _ => rfl) (eqStrD _ _) (neStrD _ _) [] (fun w => Tryz.zeroValue9 w) g 0 cap ss.toArray w (zEh H hm (by simpa using h7)) (by simp; omega) (by simp; omega)) ?_
  rintro e w' ⟨rfl, q, rfl⟩
  refine ⟨_, G, rfl, ⟨rfl, _, cap, rfl⟩, ?_⟩
  have := St.put (enc := encStr) (d := (Lib.compactUpTo ss.toArray ss.toArray.size ++ List.replicate (ss.toArray.size - (Lib.compactUpTo ss.toArray ss.toArray.size).length) ([])).toArray) q #[] H Up.here (by
   have hle : (Lib.compactUpTo ss.toArray ss.length).length ≤ ss.length := by
    unfold Lib.compactUpTo; rw [List.length_map]; exact Nat.le_trans (List.length_filter_le _ _) (by simp)
   simp only [List.size_toArray, List.length_append, List.length_replicate]; omega)
  rw [Go.Sort.grow_empty] at this
  exact this.sub (List.sublist_cons_self _ _)
theorem zPz {w0 w : World} {M G : zI} {a : Option Addr} {cap : Nat} (ss : List (Int)) (hn : ss.length ≤ 140737488355328) (H : St w0 (M ++ G) w) (hO : Go.Sk.Own M 2 1 a ss.length cap (ss.map (Value.int .i64))) :
  Calls Tryz.prog 174 [.slice a ss.length cap].toArray w (zf (fun N v => v = .tuple #[] ∧ ∃ M', N = M' ++ G ∧ Go.Sk.Own M' 2 1 a ss.length cap ((ss.mergeSort fun x y => decide (x ≤ y)).map (Value.int .i64))) w0) := by
 have hl2 : (ss.mergeSort fun x y => decide (x ≤ y)).length = ss.length := (List.mergeSort_perm ss _).length_eq
 rcases hO.2 with ⟨h1, h2, h3⟩ | ⟨g, cs, rfl, rfl, h4, h5, h6, h7⟩
 ·have hs0 : ss = [] := List.eq_nil_of_length_eq_zero h1
  subst hs0; subst h3; subst h2
  refine Calls.mono (AnyM.slices_Sort_int_none layI a 0 w) ?_
  rintro e w' ⟨rfl, rfl⟩
  exact ⟨_, G, rfl, ⟨rfl, [], rfl, by simpa using zAG _ _ _⟩, by simpa using H⟩
 ·have hm : cb g cs 2 ∈ ([cb g cs 2] ++ G) := List.Mem.head _
  have hz : ss.length * 1 = ss.length := Nat.mul_one _
  refine Calls.mono (AnyM.slices_Sort_int layI g 0 cap ss w (zEh H hm (by simpa using h7)) (zBk (H.mem _ hm)) (by omega)) ?_
  rintro e w' ⟨rfl, n, os, rfl⟩
  have hd : (ss.mergeSort fun x y => decide (x ≤ y)).toArray.size = ss.length := by simp
  refine ⟨_, [cb g (zEg (Value.int .i64) (ss.mergeSort fun x y => decide (x ≤ y)).toArray cs) 2] ++ G, rfl, ⟨rfl, _, rfl, ?_⟩, St.put n os H Up.here (by rw [hd]; omega)⟩
  refine ⟨by simp, .inr ⟨g, _, rfl, rfl, h4, h5, ?_, ?_⟩⟩
  ·simp only [zEg, List.length_append, List.length_map, List.length_drop, List.toList_toArray, hd, hl2]; omega
  ·rw [zEg, List.toList_toArray, List.take_left' (by rw [List.length_map, hl2, hz])]
theorem zP0 {w0 w : World} {M G : zI} {a : Option Addr} {cap : Nat} (ss : List (Int)) (hn : ss.length ≤ 140737488355328) (H : St w0 (M ++ G) w) (hO : Go.Sk.Own M 2 1 a ss.length cap (ss.map (Value.int .i64))) :
  Calls Tryz.prog 175 [.slice a ss.length cap].toArray w (zf (fun N v => N = G ∧ ∃ a' c', v = .slice a' (Lib.compactUpTo ss.toArray ss.length).length c') w0) := by
 rcases hO.2 with ⟨h1, h2, h3⟩ | ⟨g, cs, rfl, rfl, h4, h5, h6, h7⟩
 ·have hs0 : ss = [] := List.eq_nil_of_length_eq_zero h1
  subst hs0; subst h3; subst h2
  refine enter [.tmp 2] Tryz.func175 rfl Tryz.ntmps175 rfl rfl ?_
  repeat' (first | refine y1 sg ?_ | (with_reducible first | apply zB | apply zD | apply zC | apply zF | apply zO) | refine zA ?_ | refine y21 ?_ | fail)
  exact zDs rfl H ⟨rfl, a, 0, rfl⟩
 ·have hm : cb g cs 2 ∈ ([cb g cs 2] ++ G) := List.Mem.head _
  refine Calls.mono (AnyE.slices_Compact layCI (Value.int .i64) (fun _ => rfl) (EqlAt.intD _ _ _) (NeqAt.intD _ _ _) 0 (fun w => Tryz.zeroValue2 w) g 0 cap ss.toArray w (zEh H hm (by simpa using h7)) (by simp; omega) (by simp; omega)) ?_
  rintro e w' ⟨rfl, q, rfl⟩
  refine ⟨_, G, rfl, ⟨rfl, _, cap, rfl⟩, ?_⟩
  have := St.put (enc := (Value.int .i64)) (d := (Lib.compactUpTo ss.toArray ss.toArray.size ++ List.replicate (ss.toArray.size - (Lib.compactUpTo ss.toArray ss.toArray.size).length) (0)).toArray) q #[] H Up.here (by
   have hle : (Lib.compactUpTo ss.toArray ss.length).length ≤ ss.length := by
    unfold Lib.compactUpTo; rw [List.length_map]; exact Nat.le_trans (List.length_filter_le _ _) (by simp)
   simp only [List.size_toArray, List.length_append, List.length_replicate]; omega)
  rw [Go.Sort.grow_empty] at this
  exact this.sub (List.sublist_cons_self _ _)
def nmL (l : List ByteArray) : List (List UInt8) := l.map fun s => s.data.toList
def zEF (l : List ByteArray) : Bool := l.all z6 && decide (nmL l).Nodup
theorem zE0 {α : Type} (f : α → Value) (l : List α) (d : α) : ((List.range l.length).flatMap fun j => [f (l.getD j d)]) = l.map f := by
 have : ∀ k, k ≤ l.length → ((List.range k).flatMap fun j => [f (l.getD j d)]) = (l.take k).map f := by
  intro k
  induction k with
  | zero => intro _; rfl
  | succ k ih =>
    intro hk
    rw [List.range_succ, List.flatMap_append, ih (by omega), List.flatMap_singleton, List.take_succ_eq_append_getElem (by omega), List.map_append]
    congr 1
    simp [List.getElem?_eq_getElem (show k < l.length by omega)]
 rw [this _ (Nat.le_refl _), List.take_length]
theorem zP1 (l : List ByteArray) : (nmL l).map encStr = l.map Value.string := by simp [nmL]
theorem zK9 {w0 w : World} {M G : zI} {a : Option Addr} {cap : Nat} (l : List ByteArray) (hn : l.length ≤ 10000) (hz : ∀ k, k < l.length → (l.getD k ByteArray.empty).size ≤ 140737488355328) (H : St w0 (M ++ G) w) (hO : Go.Sk.Own M 9 1 a l.length cap (l.map Value.string)) :
  Calls Tryz.prog 233 [.slice a l.length cap].toArray w (zf (fun N v => N = G ∧ v = .bool (zEF l)) w0) := by
 have hO1 := hO
 rw [← zE0 Value.string l ByteArray.empty] at hO1
 have hs := Go.Sk.Own.sl hO1 (F := M ++ G) (List.subset_append_left _ _) (fun _ _ => rfl) (by omega)
 have hln : (nmL l).length = l.length := by simp [nmL]
 rw [← hln, ← zP1] at hO
 have hcmp := zIi (nmL l)
 obtain ⟨S, hS⟩ : ∃ S, ((nmL l).mergeSort fun x y => decide (x ≤ y)) = S := ⟨_, rfl⟩
 have hSl : S.length = (nmL l).length := by rw [← hS]; exact (List.mergeSort_perm _ _).length_eq
 rw [hS] at hcmp
 refine enter [.tmp 2] Tryz.func233 rfl Tryz.ntmps233 rfl rfl ?_
 repeat' (first | refine y1 sg ?_ | refine y3 ?_ | (refine' y30 ent267 ?_ ?_; rotate_left; exact zPs (fun j => l.getD j ByteArray.empty) (caps := []) (fun j => !z6 (l.getD j ByteArray.empty)) _ H.mem hs ent268 (fun j hj w' _ => zN1 _ (hz j hj) w'); intro w hcl; replace H := H.ext hcl; clear hcl) | (with_reducible first | apply zB | apply zD | apply zC) | refine zA ?_ | fail)
 refine zM rfl (fun h => ?_) (fun h => ?_)
 ·repeat' (first | refine y1 sg ?_ | (with_reducible first | apply zB | apply zD | apply zC | apply zF | apply zO) | refine zA ?_ | fail)
  refine zDs rfl (H.tail) ⟨rfl, congrArg Value.bool ?_⟩
  have h1 := of_decide_eq_true h
  rcases z7 (fun j => !z6 (l.getD j ByteArray.empty)) l.length with ⟨k, hk, _, hp, _⟩ | ⟨_, h2⟩
  ·unfold zEF
   have : l.all z6 = false := by
    rw [List.all_eq_false]
    refine ⟨l.getD k ByteArray.empty, ?_, by simpa using hp⟩
    simp [List.getElem?_eq_getElem hk]
   rw [this]; rfl
  ·omega
 ·have h1 := of_decide_eq_false h
  have hall : l.all z6 = true := by
   rcases z7 (fun j => !z6 (l.getD j ByteArray.empty)) l.length with ⟨k, hk, _, hp, h2⟩ | ⟨h2, _⟩
   ·omega
   ·rw [List.all_eq_true]
    intro x hx
    obtain ⟨k, hk, rfl⟩ := List.mem_iff_getElem.1 hx
    have := h2 k hk
    simpa [List.getElem?_eq_getElem hk] using this
  clear h
  rw [← hln]
  repeat' (first | refine y1 sg ?_ | refine y3 ?_ | (refine' y33 ent270 ?_ ?_; rotate_left 2; exact zPx (nmL l) (by omega) H hO; rintro v N w ⟨rfl, M, rfl, hO⟩ H; rw [hS] at hO) | (with_reducible first | apply zB | apply zD | apply zC | apply zG) | refine zA ?_ | fail)
  have hs2 : SlA (M ++ G) 1 a (nmL l).length cap fun j => [Value.string ⟨(S.getD j []).toArray⟩] := Go.Sk.Own.sl (E := 9) (M := M) (by rw [← hSl, zE0 encStr S []]; rw [hSl]; exact hO) (List.subset_append_left _ _) (fun _ _ => rfl) (by omega)
  repeat' (first | refine y3 ?_ | (refine' y32 ent272 ?_ ?_; rotate_left; exact zN0 (fun j => ⟨(S.getD j []).toArray⟩) _ H.mem hs2 (by omega); intro v Mc w hR hS; replace H := H.addR hS; clear hS; (try simp only [List.cons_append, List.nil_append] at H); obtain ⟨a3, cap3, rfl, hO3⟩ := hR) | fail)
  rw [← hSl] at hO3
  rw [zE0 encStr S []] at hO3
  rw [← hSl]
  repeat' (first | refine y1 sg ?_ | (refine' y33 ent271 ?_ ?_; rotate_left 2; exact zPy S (by omega) (H.perm List.perm_append_comm) hO3; rintro v N w ⟨rfl, a4, c4, rfl⟩ H) | (with_reducible first | apply zB | apply zD | apply zF) | fail)
  rw [hSl]
  refine zDs rfl (H.tail) ⟨rfl, congrArg Value.bool ?_⟩
  unfold zEF
  rw [hall, Bool.true_and]
  by_cases hd : (nmL l).Nodup
  ·rw [hcmp.2 hd, decide_eq_true hd]; simp
  ·have : (Lib.compactUpTo S.toArray (nmL l).length).length ≠ (nmL l).length := fun h => hd (hcmp.1 h)
   rw [decide_eq_false hd]
   exact beq_eq_false_iff_ne.2 (by omega)
end Go.Proofs.YtggolnppckpdlaaGreat
set_option linter.unusedSimpArgs false
set_option linter.unusedVariables false
namespace Go.Proofs.YtggolnppckpdlaaGreat
open Go Go.Sk Go.RowKit
attribute [local irreducible] Go.Calls
def nmA (l : List Ac) : List ByteArray := l.map (·.name)
def nmI (l : List Ins) : List ByteArray := l.map (·.name)
theorem zCe {α : Type} (f : α → List UInt8) (l : List α) (d : α) : (l.map f).Nodup ↔ ∀ k, k < l.length → ∀ j, j < k → f (l.getD j d) ≠ f (l.getD k d) := by
 rw [List.nodup_iff_pairwise_ne, List.pairwise_iff_getElem]
 constructor
 ·intro h k hk j hj
  have := h j k (by simpa using (by omega : j < l.length)) (by simpa using hk) hj
  simpa [List.getElem?_eq_getElem hk, List.getElem?_eq_getElem (show j < l.length by omega)] using this
 ·intro h i j hi hj hij
  have hi' : i < l.length := by simpa using hi
  have hj' : j < l.length := by simpa using hj
  have := h j hj' i hij
  simpa [List.getElem?_eq_getElem hi', List.getElem?_eq_getElem hj'] using this
theorem zE1 {α : Type} {l : List α} {x d : α} (h : x ∈ l) : ∃ k, k < l.length ∧ l.getD k d = x := by
 obtain ⟨k, hk, rfl⟩ := List.mem_iff_getElem.1 h
 exact ⟨k, hk, by simp [List.getElem?_eq_getElem hk]⟩
theorem zIk {α : Type} {l : List α} {k : Nat} (d : α) (h : k < l.length) : l.getD k d ∈ l := by
 simp [List.getElem?_eq_getElem h]
theorem zHm (l : List Ac) : zCn l = (decide (l.length ≤ 64) && zEF (nmA l)) := by
 rw [Bool.eq_iff_iff, zDD, Bool.and_eq_true, decide_eq_true_eq]
 unfold zEF nmA nmL
 rw [Bool.and_eq_true, List.all_eq_true, decide_eq_true_eq, List.map_map]
 refine and_congr_right fun _ => ?_
 have hfi : ∀ k, k < l.length → (zBy l (ac_ l k).name = k ↔ ∀ j, j < k → (ac_ l j).name.data.toList ≠ (ac_ l k).name.data.toList) := by
  intro k hk
  have hkk : zDZ l (ac_ l k).name k = true := by unfold zDZ; exact beq_self_eq_true _
  constructor
  ·intro h j hj he
   rcases z7 (zDZ l (ac_ l k).name) l.length with ⟨m, hm, hn, _, h2⟩ | ⟨hn, _⟩
   ·unfold zBy at h
    have : m = k := by omega
    subst this
    have := hn j hj
    unfold zDZ at this
    rw [ByteArray.toList_eq, ByteArray.toList_eq, he] at this
    simp at this
   ·rw [hn k hk] at hkk; cases hkk
  ·intro h
   unfold zBy
   rw [zA5 hk (fun j hj => ?_) hkk]
   unfold zDZ
   rw [ByteArray.toList_eq, ByteArray.toList_eq]
   exact beq_eq_false_iff_ne.2 (h j hj)
 constructor
 ·intro h
  refine ⟨fun x hx => ?_, (zCe (fun x : Ac => x.name.data.toList) l default).2 fun k hk => (hfi k hk).1 (h k hk).2⟩
  obtain ⟨y, hy, rfl⟩ := List.mem_map.1 hx
  obtain ⟨k, hk, rfl⟩ := zE1 (d := default) hy
  exact (h k hk).1
 ·rintro ⟨h1, h2⟩ k hk
  exact ⟨h1 _ (List.mem_map.2 ⟨_, zIk default hk, rfl⟩), (hfi k hk).2 ((zCe (fun x : Ac => x.name.data.toList) l default).1 h2 k hk)⟩
theorem zEi (l : List Ins) : zBs l = (decide (l.length ≤ 16) && ((List.range l.length).all (fun k => zX (in_ l k).tick 1 1073741824) && zEF (nmI l))) := by
 rw [Bool.eq_iff_iff, zCT, Bool.and_eq_true, decide_eq_true_eq]
 unfold zEF nmI nmL
 rw [Bool.and_eq_true, Bool.and_eq_true, List.all_eq_true, List.all_eq_true, decide_eq_true_eq, List.map_map]
 simp only [List.mem_range, zAC]
 refine and_congr_right fun _ => ?_
 have hne : ∀ {j k}, ((in_ l j).name.toList == (in_ l k).name.toList) = false ↔ (in_ l j).name.data.toList ≠ (in_ l k).name.data.toList := fun {j k} => by
  rw [ByteArray.toList_eq, ByteArray.toList_eq, beq_eq_false_iff_ne]
 constructor
 ·intro h
  refine ⟨fun k hk => (h k hk).2.1, fun x hx => ?_, (zCe (fun x : Ins => x.name.data.toList) l default).2 fun k hk j hj => hne.1 ((h k hk).2.2 j hj)⟩
  obtain ⟨y, hy, rfl⟩ := List.mem_map.1 hx
  obtain ⟨k, hk, rfl⟩ := zE1 (d := default) hy
  exact (h k hk).1
 ·rintro ⟨h0, h1, h2⟩ k hk
  exact ⟨h1 _ (List.mem_map.2 ⟨_, zIk default hk, rfl⟩), h0 k hk, fun j hj => hne.2 ((zCe (fun x : Ins => x.name.data.toList) l default).1 h2 k hk j hj)⟩
structure Gr where
 k : Nat
 a : Option Addr
 cap : Nat
 M : zI
theorem zGM {α : Type} (f : α → Value) (l : List α) (d : α) {k : Nat} (hk : k < l.length) : (l.take k).map f ++ [f (l.getD k d)] = (l.take (k + 1)).map f := by
 rw [List.take_succ_eq_append_getElem hk, List.map_append]
 simp [List.getElem?_eq_getElem hk]
set_option maxHeartbeats 1000000 in
theorem zJm {F : zI} (s : Sta) (p : SPt) (hb : s.accts.length ≤ 10000) (hz : ∀ k, k < s.accts.length → (ac_ s.accts k).name.size ≤ 140737488355328) (w0 : World) (hF : Mem w0 F) (hs0 : StaM F s p) :
  Calls Tryz.prog 207 [.agg (s.cells p).toArray].toArray w0 (Ret (.bool (zCn s.accts)) w0) := by
 obtain ⟨hnc, hcb, b0, off, cs, T, fr, hs⟩ := hs0.ac
 refine enter [.tmp 2] Tryz.func207 rfl Tryz.ntmps207 rfl rfl ?_
 have H := zH w0
 repeat' (first | refine y1 sg ?_ | refine y3 ?_ | refine y7 sg H ?_ | (refine y9 H ?_; intro b w H) | (with_reducible first | apply zB | apply zD | apply zC | apply zE) | refine zA ?_ | fail)
 refine zK [(3, 3), (5, 5), (9, 18)] (fun x : Gr => [(9, .int .i64 (x.k : Int)), (3, .slice x.a x.k x.cap)]) (fun x w => x.k ≤ s.accts.length ∧ Go.Sk.Own x.M 9 1 x.a x.k x.cap ((s.accts.take x.k).map fun y => Value.string y.name) ∧ St w0 (cb _ (s.cells p) 29 :: x.M) w) (fun x => s.accts.length - x.k) ⟨0, none, 0, []⟩ ⟨rfl, rfl, trivial⟩ ⟨Nat.zero_le _, zAG _ _ _, H⟩ ?_
 clear H
 rintro ⟨k, ao, co, M⟩ gh w ⟨hk, hO, H⟩
 simp only at hk hO H ⊢
 repeat' (first | refine y1 sg ?_ | (with_reducible first | apply zB | apply zD | apply zC) | refine zA ?_ | fail)
 refine zM rfl (fun h => ?_) (fun h => ?_)
 ·have hlt : k < s.accts.length := by have := of_decide_eq_true h; omega
  clear h
  repeat' (first | refine y1 sg ?_ | refine y3 ?_ | refine y7 sg H ?_ | (refine y10 sg H ?_; intro b w H) | (refine y11 sg H ?_; intro w H) | (refine y40 sg (hs) ?_ ?_ ?_; (omega); (omega)) | (refine y42 sg (hs) ((H.memF hF)) ?_ ?_; (omega)) | (refine z14 sg H ?_; intro b w H) | (have hp := H.perm (List.perm_append_comm (l₁ := [_, _, _]) (l₂ := M)); refine zi sg 1 16 (M := M) hp rfl rfl rfl rfl rfl rfl rfl rfl rfl rfl rfl hO (zk hp.mem (List.mem_append_right _ (List.Mem.head _))) rfl (zAh rfl) (by unfold maxLen; omega) (by omega) ?_; clear hp hO; intro ao co M w hO H; replace H := H.perm (List.perm_append_comm (l₁ := M) (l₂ := [_, _, _]))) | (with_reducible first | apply zB | apply zD | apply zC | apply zE | apply zG) | refine zA ?_ | fail)
  exact zJ ⟨k + 1, ao, co, M⟩ rfl ⟨zT (by omega), rfl, trivial⟩ ⟨hlt, by show Go.Sk.Own M _ 1 ao (k + 1) co _; rw [← zGM (fun y : Ac => Value.string y.name) s.accts default hlt]; exact hO, (H.sub (List.sublist_cons_self _ _)).sub (List.sublist_cons_self _ _)⟩ (by show s.accts.length - (k + 1) < s.accts.length - k; omega)
 ·obtain rfl : k = s.accts.length := by have := of_decide_eq_false h; omega
  have hln : (nmA s.accts).length = s.accts.length := by simp [nmA]
  rw [List.take_length] at hO
  have hO2 : Go.Sk.Own M 9 1 ao (nmA s.accts).length co ((nmA s.accts).map Value.string) := by rw [hln]; simpa [nmA, Function.comp_def] using hO
  have hnz : ∀ k, k < (nmA s.accts).length → ((nmA s.accts).getD k ByteArray.empty).size ≤ 140737488355328 := fun k hk => by
   rw [hln] at hk
   have := hz k hk
   simpa [nmA, ac_, List.getElem?_eq_getElem hk] using this
  have hcn := fun {G : zI} {w : World} => zK9 (w0 := w0) (w := w) (G := G) (M := M) (a := ao) (cap := co) (nmA s.accts) (by omega) hnz
  rw [hln] at hcn hO2
  repeat' (first | refine y1 sg ?_ | refine y5 sg ?_ | (refine' y33 zM2 ?_ ?_; rotate_left 2; exact hcn (H.perm (List.perm_append_comm (l₁ := [_]) (l₂ := M))) hO2; rintro v N w ⟨rfl, rfl⟩ H) | refine y13 ?_ | refine y14 ?_ | (refine y17 ?_ ?_; all_goals intro h) | (with_reducible first | apply zB | apply zD | apply zC | apply zF | apply zL | apply zS) | refine zA ?_ | refine y24 ?_ | fail)
  all_goals refine zQ rfl H.cl (congrArg Value.bool ?_)
  all_goals rw [zHm]
  all_goals simp only [decide_eq_true_eq, decide_eq_false_iff_not] at h
  ·rw [decide_eq_true (by omega)]; rfl
  ·rw [decide_eq_false (by omega)]; rfl
set_option maxHeartbeats 1000000 in
theorem zGk {F : zI} (s : Sta) (p : SPt) (hb : s.insts.length ≤ 10000) (hz : ∀ k, k < s.insts.length → (in_ s.insts k).name.size ≤ 140737488355328) (w0 : World) (hF : Mem w0 F) (hs0 : StaM F s p) :
  Calls Tryz.prog 208 [.agg (s.cells p).toArray].toArray w0 (Ret (.bool (zBs s.insts)) w0) := by
 obtain ⟨hnc, hcb, b0, off, cs, T, fr, hs⟩ := hs0.ins
 refine enter [.tmp 2] Tryz.func208 rfl Tryz.ntmps208 rfl rfl ?_
 have H := zH w0
 repeat' (first | refine y1 sg ?_ | refine y3 ?_ | refine y7 sg H ?_ | (refine y9 H ?_; intro b w H) | (with_reducible first | apply zB | apply zD | apply zC | apply zE) | refine zA ?_ | fail)
 refine zK [(2, 3), (5, 5), (9, 22)] (fun x : Gr => [(9, .int .i64 (x.k : Int)), (3, .slice x.a x.k x.cap)]) (fun x w => x.k ≤ s.insts.length ∧ (∀ j, j < x.k → zX (in_ s.insts j).tick 1 1073741824 = true) ∧ Go.Sk.Own x.M 9 1 x.a x.k x.cap ((s.insts.take x.k).map fun y => Value.string y.name) ∧ St w0 (cb _ (s.cells p) 29 :: x.M) w) (fun x => s.insts.length - x.k) ⟨0, none, 0, []⟩ ⟨rfl, rfl, trivial⟩ ⟨Nat.zero_le _, fun j hj => absurd hj (Nat.not_lt_zero _), zAG _ _ _, H⟩ ?_
 clear H
 rintro ⟨k, ao, co, M⟩ gh w ⟨hk, hr, hO, H⟩
 simp only at hk hr hO H ⊢
 repeat' (first | refine y1 sg ?_ | (with_reducible first | apply zB | apply zD | apply zC) | refine zA ?_ | fail)
 refine zM rfl (fun h => ?_) (fun h => ?_)
 ·have hlt : k < s.insts.length := by have := of_decide_eq_true h; omega
  clear h
  repeat' (first | refine y1 sg ?_ | refine y3 ?_ | refine y7 sg H ?_ | (refine y10 sg H ?_; intro b w H) | (refine y11 sg H ?_; intro w H) | (refine y40 sg (hs) ?_ ?_ ?_; (omega); (omega)) | (refine y42 sg (hs) ((H.memF hF)) ?_ ?_; (omega)) | (refine' y30 zHV ?_ ?_; rotate_left; exact zFd (in_ s.insts k).tick 1 1073741824 _; intro w hcl; replace H := H.ext hcl; clear hcl) | (with_reducible first | apply zB | apply zD | apply zC | apply zE | apply zG) | refine zA ?_ | fail)
  refine zM rfl (fun h => ?_) (fun h => ?_)
  ·repeat' (first | refine y1 sg ?_ | (with_reducible first | apply zB | apply zD | apply zC | apply zF | apply zO | apply zW) | refine zA ?_ | fail)
   refine zQ rfl H.cl (congrArg Value.bool ?_)
   rw [zEi]
   have : (List.range s.insts.length).all (fun k => zX (in_ s.insts k).tick 1 1073741824) = false := by
    rw [List.all_eq_false]
    exact ⟨k, List.mem_range.2 hlt, by simpa using h⟩
   rw [this, Bool.false_and, Bool.and_false]
  ·have hrk : zX (in_ s.insts k).tick 1 1073741824 = true := by simpa using h
   repeat' (first | refine y1 sg ?_ | refine y3 ?_ | refine y7 sg H ?_ | (refine z14 sg H ?_; intro b w H) | (have hp := H.perm (List.perm_append_comm (l₁ := [_, _, _]) (l₂ := M)); refine zi sg 1 16 (M := M) hp rfl rfl rfl rfl rfl rfl rfl rfl rfl rfl rfl hO (zk hp.mem (List.mem_append_right _ (List.Mem.head _))) rfl (zAh rfl) (by unfold maxLen; omega) (by omega) ?_; clear hp hO; intro ao co M w hO H; replace H := H.perm (List.perm_append_comm (l₁ := M) (l₂ := [_, _, _]))) | (with_reducible first | apply zB | apply zD | apply zG) | refine zA ?_ | fail)
   exact zJ ⟨k + 1, ao, co, M⟩ rfl ⟨zT (by omega), rfl, trivial⟩ ⟨hlt, fun j hj => by
    rcases (show j < k ∨ j = k by have : j < k + 1 := hj; omega) with g | rfl
    ·exact hr j g
    ·exact hrk, by show Go.Sk.Own M _ 1 ao (k + 1) co _; rw [← zGM (fun y : Ins => Value.string y.name) s.insts default hlt]; exact hO, (H.sub (List.sublist_cons_self _ _)).sub (List.sublist_cons_self _ _)⟩ (by show s.insts.length - (k + 1) < s.insts.length - k; omega)
 ·obtain rfl : k = s.insts.length := by have := of_decide_eq_false h; omega
  have hln : (nmI s.insts).length = s.insts.length := by simp [nmI]
  rw [List.take_length] at hO
  have hO2 : Go.Sk.Own M 9 1 ao (nmI s.insts).length co ((nmI s.insts).map Value.string) := by rw [hln]; simpa [nmI, Function.comp_def] using hO
  have hnz : ∀ k, k < (nmI s.insts).length → ((nmI s.insts).getD k ByteArray.empty).size ≤ 140737488355328 := fun k hk => by
   rw [hln] at hk
   have := hz k hk
   simpa [nmI, in_, List.getElem?_eq_getElem hk] using this
  have hcn := fun {G : zI} {w : World} => zK9 (w0 := w0) (w := w) (G := G) (M := M) (a := ao) (cap := co) (nmI s.insts) (by omega) hnz
  rw [hln] at hcn hO2
  have hall : (List.range s.insts.length).all (fun k => zX (in_ s.insts k).tick 1 1073741824) = true := List.all_eq_true.2 fun k hk => hr k (List.mem_range.1 hk)
  repeat' (first | refine y1 sg ?_ | refine y5 sg ?_ | (refine' y33 zM2 ?_ ?_; rotate_left 2; exact hcn (H.perm (List.perm_append_comm (l₁ := [_]) (l₂ := M))) hO2; rintro v N w ⟨rfl, rfl⟩ H) | refine y13 ?_ | refine y14 ?_ | (refine y17 ?_ ?_; all_goals intro h) | (with_reducible first | apply zB | apply zD | apply zC | apply zF | apply zL | apply zS) | refine zA ?_ | refine y24 ?_ | fail)
  all_goals refine zQ rfl H.cl (congrArg Value.bool ?_)
  all_goals rw [zEi, hall, Bool.true_and]
  all_goals simp only [decide_eq_true_eq, decide_eq_false_iff_not] at h
  ·rw [decide_eq_true (by omega)]; rfl
  ·rw [decide_eq_false (by omega)]; rfl
end Go.Proofs.YtggolnppckpdlaaGreat
set_option linter.unusedSimpArgs false
set_option linter.unusedVariables false
namespace Go.Proofs.YtggolnppckpdlaaGreat
open Go Go.Sk Go.RowKit
attribute [local irreducible] Go.Calls
def zDz (s : Sta) : Bool := zX s.clock 0 1099511627776 && zX s.fee 0 1000 && zX s.nextO 1 1099511627777 && zX s.nextA 1 1099511627777
theorem zJn (n : Int) (w0 : World) : Calls Tryz.prog 231 [.int .i64 n].toArray w0 (Ret (.bool (zX n 1 1099511627777)) w0) := by
 refine enter [.tmp 2] Tryz.func231 rfl Tryz.ntmps231 rfl rfl ?_
 have H := zH w0
 repeat' (first | refine y1 sg ?_ | refine y3 ?_ | (refine' y30 zHV ?_ ?_; rotate_left; exact zFd n 1 1099511627777 _; intro w hcl; replace H := H.ext hcl; clear hcl) | (with_reducible first | apply zB | apply zD | apply zC | apply zF) | refine zA ?_ | fail)
 all_goals exact zQ rfl H.cl rfl
theorem zME (s : Sta) (p : SPt) (w0 : World) :
  Calls Tryz.prog 206 [.agg (s.cells p).toArray].toArray w0 (Ret (.bool (zDz s)) w0) := by
 refine enter [.tmp 2] Tryz.func206 rfl Tryz.ntmps206 rfl rfl ?_
 have H := zH w0
 repeat' (first | refine y1 sg ?_ | refine y3 ?_ | refine y5 sg ?_ | refine y7 sg H ?_ | (refine y9 H ?_; intro b w H) | (refine' y30 zHV ?_ ?_; rotate_left; exact zFd s.clock 0 1099511627776 _; intro w hcl; replace H := H.ext hcl; clear hcl) | (refine' y30 zHV ?_ ?_; rotate_left; exact zFd s.fee 0 1000 _; intro w hcl; replace H := H.ext hcl; clear hcl) | (refine' y34 ent231 ?_ ?_; rotate_left; exact zJn _ _; intro w hcl; replace H := H.ext hcl; clear hcl) | refine y13 ?_ | refine y14 ?_ | (refine y17 ?_ ?_; all_goals intro h) | (with_reducible first | apply zB | apply zD | apply zC | apply zF) | refine zA ?_ | fail)
 all_goals exact zQ rfl H.cl (congrArg Value.bool (by unfold zDz; simp only [*, Bool.true_and, Bool.and_true, Bool.false_and, Bool.and_false]))
end Go.Proofs.YtggolnppckpdlaaGreat
set_option linter.unusedSimpArgs false
set_option linter.unusedVariables false
namespace Go.Proofs.YtggolnppckpdlaaGreat
open Go Go.Sk Go.RowKit
attribute [local irreducible] Go.Calls
def zCf (s : Sta) (o : Odr) : Bool := decide (o.id < s.nextO) && (zAd s.accts o.acct).2 && (zBG s.insts o.inst).2 && (o.price.tmod (zBG s.insts o.inst).1.tick == 0)
def zAp (s : Sta) : Bool := zAr s.orders && (List.range s.orders.length).all fun k => zCf s (od_ s.orders k)
theorem zBt {s : Sta} : zAp s = true ↔ zAr s.orders = true ∧ ∀ k, k < s.orders.length → zCf s (od_ s.orders k) = true := by
 unfold zAp
 rw [Bool.and_eq_true, List.all_eq_true]
 simp only [List.mem_range]
theorem zIl {l : List Ins} (h : zBs l = true) {a : Int} (ha : (zBG l a).2 = true) : 1 ≤ (zBG l a).1.tick := by
 unfold zBG at ha ⊢
 split at ha
 ·rename_i hh
  rw [if_pos hh]
  exact ((zCT.1 h).2 _ (by omega)).2.1.1
 ·cases ha
set_option maxHeartbeats 2000000 in
theorem zMF {F : zI} (s : Sta) (p : SPt) (hi : zBs s.insts = true) (w0 : World) (hF : Mem w0 F) (hs0 : StaM F s p) :
  Calls Tryz.prog 150 [.agg (s.cells p).toArray].toArray w0 (Ret (.bool (zAp s)) w0) := by
 obtain ⟨hnc, hcb, b0, off, cs, T, fr, hs⟩ := id hs0.od
 refine enter [.tmp 2] Tryz.func150 rfl Tryz.ntmps150 rfl rfl ?_
 have H := zH w0
 repeat' (first | refine y1 sg ?_ | refine y3 ?_ | refine y7 sg H ?_ | (refine y9 H ?_; intro b w H) | (refine' y30 ent196 ?_ ?_; rotate_left; exact zLg s.orders _ (H.memF hF) hs0.od; intro w hcl; replace H := H.ext hcl; clear hcl) | (with_reducible first | apply zB | apply zD | apply zC) | refine zA ?_ | fail)
 refine zM rfl (fun h => ?_) (fun h => ?_)
 ·repeat' (first | refine y1 sg ?_ | (with_reducible first | apply zB | apply zD | apply zC | apply zF | apply zO) | refine zA ?_ | fail)
  exact zQ rfl H.cl (congrArg Value.bool (noB fun q => by
   have := (zBt.1 q).1
   rw [this] at h; cases h))
 have hR : zAr s.orders = true := by simpa using h
 clear h
 repeat' (first | refine y1 sg ?_ | (with_reducible first | apply zB | apply zD | apply zC | apply zE | apply zG) | refine zA ?_ | fail)
 refine zK [(2, 8), (13, 59)] (fun k : Nat => [(3, .int .i64 (k : Int))]) (fun k w => k ≤ s.orders.length ∧ (∀ j, j < k → zCf s (od_ s.orders j) = true) ∧ St w0 [cb _ (s.cells p) 29] w) (fun k => s.orders.length - k) 0 ⟨rfl, trivial⟩ ⟨Nat.zero_le _, fun j hj => absurd hj (Nat.not_lt_zero _), H⟩ ?_
 clear H
 rintro k gh w ⟨hk, hn, H⟩
 repeat' (first | refine y1 sg ?_ | refine y3 ?_ | refine y7 sg H ?_ | (with_reducible first | apply zB | apply zD | apply zC) | refine zA ?_ | fail)
 refine zM rfl (fun h => ?_) (fun h => ?_)
 ·have hlt : k < s.orders.length := by have := of_decide_eq_true h; omega
  clear h
  have htk := zIl hi (a := (od_ s.orders k).inst)
  obtain ⟨ac, ok, hac⟩ : ∃ ac ok, zAd s.accts (od_ s.orders k).acct = (ac, ok) := ⟨_, _, rfl⟩
  obtain ⟨ins, is, his⟩ : ∃ ac ok, zBG s.insts (od_ s.orders k).inst = (ac, ok) := ⟨_, _, rfl⟩
  have acct : ∀ {w : World}, Mem w F → Calls Tryz.prog 195 [.agg (s.cells p).toArray, .int .i64 (od_ s.orders k).acct].toArray w (Ret (.tuple #[.agg ac.cells.toArray, .bool ok]) w) := fun hF => by
   have := zFa s p (od_ s.orders k).acct _ hF hs0
   rw [hac] at this
   exact this
  have inst : ∀ {w : World}, Mem w F → Calls Tryz.prog 197 [.agg (s.cells p).toArray, .int .i64 (od_ s.orders k).inst].toArray w (Ret (.tuple #[.agg ins.cells.toArray, .bool is]) w) := fun hF => by
   have := zK0 s p (od_ s.orders k).inst _ hF hs0
   rw [his] at this
   exact this
  have hso : zCf s (od_ s.orders k) = (decide ((od_ s.orders k).id < s.nextO) && ok && is && ((od_ s.orders k).price.tmod ins.tick == 0)) := by unfold zCf; rw [hac, his]
  rw [his] at htk
  have hfacts : zAp s = true → (od_ s.orders k).id < s.nextO ∧ ok = true ∧ is = true ∧ (od_ s.orders k).price.tmod ins.tick = 0 := fun q => by
   have := (zBt.1 q).2 k hlt
   rw [hso] at this
   simp only [Bool.and_eq_true, decide_eq_true_eq, beq_iff_eq] at this
   exact ⟨this.1.1.1, this.1.1.2, this.1.2, this.2⟩
  repeat' (first | refine y1 sg ?_ | refine y3 ?_ | refine y5 sg ?_ | refine y7 sg H ?_ | (refine y10 sg H ?_; intro b w H) | (refine y11 sg H ?_; intro w H) | (refine y40 sg (hs) ?_ ?_ ?_; (omega); (omega)) | (refine y42 sg (hs) ((H.memF hF)) ?_ ?_; (omega)) | (refine' y30 zHT ?_ ?_; rotate_left; exact acct (H.memF hF); intro w hcl; replace H := H.ext hcl; clear hcl) | (refine' y30 zMv ?_ ?_; rotate_left; exact inst (H.memF hF); intro w hcl; replace H := H.ext hcl; clear hcl) | (refine zY rfl rfl (Yq.rem rfl rfl rfl ?_) ?_; (have h9 := htk (by simpa using h); have h9 : 1 ≤ ins.tick := h9; omega)) | refine y13 ?_ | refine y14 ?_ | (refine y17 ?_ ?_; all_goals intro h) | (with_reducible first | apply zB | apply zD | apply zC | apply zE | apply zF | apply zG | apply zO | apply zW) | refine zA ?_ | refine y21 ?_ | (refine y23 ?_ ?_; all_goals intro h) | fail)
  all_goals simp only [Bool.not_eq_true', Bool.not_eq_false', decide_eq_true_eq, decide_eq_false_iff_not, bne_iff_ne, ne_eq, bne_eq_false_iff_eq] at *
  all_goals first
   | exact zQ rfl H.cl (congrArg Value.bool (noB fun q => by
     obtain ⟨q1, q2, q3, q4⟩ := hfacts q
     first | omega | (cases q2.symm.trans ‹ok = false›) | (cases q3.symm.trans ‹is = false›) | exact h q4))
   | (refine zJ (k + 1) rfl ⟨zT (by omega), trivial⟩ ⟨hlt, fun j hj => ?_, H.sub (by repeat (first | exact List.Sublist.refl _ | exact List.nil_sublist _ | apply List.Sublist.cons_cons | apply List.Sublist.cons))⟩ (by omega)
      rcases (show j < k ∨ j = k by omega) with g | rfl
      ·exact hn j g
      ·rw [hso]
       simp only [Bool.and_eq_true, decide_eq_true_eq, beq_iff_eq]
       exact ⟨⟨⟨by omega, by assumption⟩, by assumption⟩, by assumption⟩)
 ·obtain rfl : k = s.orders.length := by have := of_decide_eq_false h; omega
  repeat' (first | refine y1 sg ?_ | (with_reducible first | apply zB | apply zD | apply zC | apply zF | apply zL | apply zS) | refine zA ?_ | refine y24 ?_ | fail)
  exact zQ rfl H.cl (congrArg Value.bool (zBt.2 ⟨hR, hn⟩).symm)
end Go.Proofs.YtggolnppckpdlaaGreat
set_option linter.unusedSimpArgs false
set_option linter.unusedVariables false
namespace Go.Proofs.YtggolnppckpdlaaGreat
open Go Go.Sk Go.RowKit
attribute [local irreducible] Go.Calls
theorem zP2 {b : Nat} {T : TypeId} {fr : Nat × Nat} {F : zI} (s : Sta) (p : SPt) (r : Row4) (w0 : World) (hF : Mem w0 F) (hs0 : StaM F s p) (hm : (b, Obj.cells (s.cells p).toArray T fr) ∈ F) :
  Calls Tryz.prog 234 [.agg r.cells.toArray, .pointer (some ⟨b, 0, none⟩)].toArray w0 (Ret (.bool ((!(r.acct == 0) && !(zAd s.accts r.acct).2) || decide (r.asset > s.insts.length))) w0) := by
 obtain ⟨ac, ok, hac⟩ : ∃ ac ok, zAd s.accts r.acct = (ac, ok) := ⟨_, _, rfl⟩
 have opn : ∀ {w : World}, Mem w F → Calls Tryz.prog 235 [.agg (s.cells p).toArray, .int .i64 r.acct].toArray w (Ret (.bool ok) w) := fun hF => by
  have := zHb s p r.acct _ hF hs0
  rw [hac] at this
  exact this
 rw [hac]
 refine enter [.tmp 3] Tryz.func234 rfl Tryz.ntmps234 rfl rfl ?_
 have H := zH w0
 repeat' (first | refine y1 sg ?_ | refine y3 ?_ | refine y5 sg ?_ | refine y7 sg H ?_ | (refine y9 H ?_; intro b w H) | refine z13 (zb sg rfl rfl (H.memF hF) hm rfl rfl) ?_ | (refine' y30 zHW ?_ ?_; rotate_left; exact opn (H.memF hF); intro w hcl; replace H := H.ext hcl; clear hcl) | refine y13 ?_ | refine y14 ?_ | (refine y17 ?_ ?_; all_goals intro h) | (with_reducible first | apply zB | apply zD | apply zC | apply zF) | refine zA ?_ | fail)
 all_goals first
  | (have h1 : (r.acct != 0) = true := by assumption
     have h1 : (!(r.acct == 0)) = true := h1
     exact zQ rfl H.cl (congrArg Value.bool (by simp only [*, Bool.true_and, Bool.or_true, Bool.true_or, Bool.false_or, Bool.not_true, Bool.not_false])))
  | (have h1 : (r.acct != 0) = false := by assumption
     have h1 : (!(r.acct == 0)) = false := h1
     exact zQ rfl H.cl (congrArg Value.bool (by simp only [*, Bool.false_and, Bool.or_true, Bool.false_or])))
theorem zG5 {s : Sta} (hR : zBU s.rows = true) {k : Nat} (hk : k < s.rows.length) :
  ((!((rw_ s.rows k).acct == 0) && !(zAd s.accts (rw_ s.rows k).acct).2) || decide ((rw_ s.rows k).asset > s.insts.length)) = !zCd s k := by
 have hg := ((zBT.1 hR).1 k hk).1.1
 unfold zCd
 generalize (zAd s.accts (rw_ s.rows k).acct).2 = ok
 by_cases h1 : (rw_ s.rows k).acct = 0
 ·by_cases h2 : (rw_ s.rows k).asset ≤ s.insts.length
  ·have h3 : ¬ (rw_ s.rows k).asset > s.insts.length := by omega
   simp [h1, h2]
  ·have h3 : (rw_ s.rows k).asset > s.insts.length := by omega
   simp [h1, h2, h3]
 ·have h4 : ¬ (rw_ s.rows k).acct ≤ 0 := by omega
  by_cases h2 : (rw_ s.rows k).asset ≤ s.insts.length
  ·have h3 : ¬ (rw_ s.rows k).asset > s.insts.length := by omega
   cases ok <;> simp [h1, h2, h4]
  ·have h3 : (rw_ s.rows k).asset > s.insts.length := by omega
   cases ok <;> simp [h1, h2, h3, h4]
theorem c_rows {F : zI} (s : Sta) (p : SPt) (hw : ∀ j, j < s.rows.length → (rw_ s.rows j).wf) (w0 : World) (hF : Mem w0 F) (hs0 : StaM F s p) :
  Calls Tryz.prog 209 [.agg (s.cells p).toArray].toArray w0 (Ret (.bool (zCE s)) w0) := by
 let wr := fun j => (!((rw_ s.rows j).acct == 0) && !(zAd s.accts (rw_ s.rows j).acct).2) || decide ((rw_ s.rows j).asset > s.insts.length)
 have cont : ∀ {b : Nat} {w : World}, Mem w (cb b (s.cells p) 29 :: F) → Calls Tryz.prog 237 [.slice p.rwA s.rows.length p.rwC, .func (.func 234) #[] #[.pointer (some ⟨b, 0, none⟩)]].toArray w (Ret (.bool (decide (idx wr s.rows.length ≥ 0))) w) := fun hM =>
  zGb (caps := [.pointer (some ⟨_, 0, none⟩)]) wr _ hM (SlA.mono hs0.rw (List.subset_cons_self _ _)) ent234 (fun j _ w hw => zP2 s p (rw_ s.rows j) w (hM.ext hw) (hs0.mono (List.subset_cons_self _ _)) (List.Mem.head _))
 have fin : zBU s.rows = true → (!decide (idx wr s.rows.length ≥ 0)) = zCE s := fun hR => by
  have e : zCE s = (List.range s.rows.length).all fun k => zCd s k := by unfold zCE; rw [hR, Bool.true_and]
  rw [e]
  rcases z7 wr s.rows.length with ⟨k, hk, _, hb, hx⟩ | ⟨ha, hx⟩
  ·rw [hx, decide_eq_true (by omega)]
   symm
   rw [Bool.not_true, List.all_eq_false]
   refine ⟨k, List.mem_range.2 hk, ?_⟩
   have := (zG5 hR hk).symm.trans hb
   simpa using this
  ·rw [hx, decide_eq_false (by omega)]
   symm
   rw [Bool.not_false, List.all_eq_true]
   intro k hk
   have hk := List.mem_range.1 hk
   have := (zG5 hR hk).symm.trans (ha k hk)
   simpa using this
 refine enter [.tmp 2] Tryz.func209 rfl Tryz.ntmps209 rfl rfl ?_
 have H := zH w0
 repeat' (first | refine y1 sg ?_ | refine y3 ?_ | refine y5 sg ?_ | refine y7 sg H ?_ | (refine y9 H ?_; intro b w H) | (refine' y30 ent236 ?_ ?_; rotate_left; exact c_LMay s.rows hw _ (H.memF hF) hs0.rw; intro w hcl; replace H := H.ext hcl; clear hcl) | (refine' y30 ent237 ?_ ?_; rotate_left; exact cont (H.all hF); intro w hcl; replace H := H.ext hcl; clear hcl) | refine y13 ?_ | refine y14 ?_ | (refine y17 ?_ ?_; all_goals intro h) | (with_reducible first | apply zB | apply zD | apply zC | apply zF) | refine zA ?_ | fail)
 all_goals first
  | (have h : zBU s.rows = true := by assumption
     exact zQ rfl H.cl (congrArg Value.bool (fin h)))
  | (have h : zBU s.rows = false := by assumption
     refine zQ rfl H.cl (congrArg Value.bool ?_)
     unfold zCE
     rw [h, Bool.false_and])
  | fail
end Go.Proofs.YtggolnppckpdlaaGreat
set_option linter.unusedSimpArgs false
set_option linter.unusedVariables false
namespace Go.Proofs.YtggolnppckpdlaaGreat
open Go Go.Sk Go.RowKit
attribute [local irreducible] Go.Calls
def zDE (s : Sta) (o : Odr) : Bool := decide (o.id ≥ s.nextO) || !(zAd s.accts o.acct).2 || !(zBG s.insts o.inst).2 || (o.price.tmod (zBG s.insts o.inst).1.tick != 0)
theorem zG6 (s : Sta) (o : Odr) : zDE s o = !zCf s o := by
 unfold zDE zCf
 have h : decide (o.id ≥ s.nextO) = !decide (o.id < s.nextO) := by
  by_cases h : o.id < s.nextO
  ·rw [decide_eq_true h, decide_eq_false (by omega)]; rfl
  ·rw [decide_eq_false h, decide_eq_true (by omega)]; rfl
 rw [h, bne]
 simp only [Bool.not_and]
theorem zMG {b : Nat} {T : TypeId} {fr : Nat × Nat} {F : zI} (s : Sta) (p : SPt) (hi : zBs s.insts = true) (o : Odr) (w0 : World) (hF : Mem w0 F) (hs0 : StaM F s p) (hm : (b, Obj.cells (s.cells p).toArray T fr) ∈ F) :
  Calls Tryz.prog 238 [.agg o.cells.toArray, .pointer (some ⟨b, 0, none⟩)].toArray w0 (Ret (.bool (zDE s o)) w0) := by
 have htk := zIl hi (a := o.inst)
 obtain ⟨ac, ok, hac⟩ : ∃ ac ok, zAd s.accts o.acct = (ac, ok) := ⟨_, _, rfl⟩
 obtain ⟨ins, is, his⟩ : ∃ ac ok, zBG s.insts o.inst = (ac, ok) := ⟨_, _, rfl⟩
 have opn : ∀ {w : World}, Mem w F → Calls Tryz.prog 235 [.agg (s.cells p).toArray, .int .i64 o.acct].toArray w (Ret (.bool ok) w) := fun hF => by
  have := zHb s p o.acct _ hF hs0
  rw [hac] at this
  exact this
 have inst : ∀ {w : World}, Mem w F → Calls Tryz.prog 239 [.agg (s.cells p).toArray, .int .i64 o.inst].toArray w (Ret (.tuple #[.agg ins.cells.toArray, .bool is]) w) := fun hF => by
  have := zNe s p o.inst _ hF hs0
  rw [his] at this
  exact this
 have hso : zDE s o = (decide (o.id ≥ s.nextO) || !ok || !is || (o.price.tmod ins.tick != 0)) := by unfold zDE; rw [hac, his]
 rw [his] at htk
 rw [hso]
 refine enter [.tmp 3] Tryz.func238 rfl Tryz.ntmps238 rfl rfl ?_
 have H := zH w0
 repeat' (first | refine y1 sg ?_ | refine y3 ?_ | refine y5 sg ?_ | refine y7 sg H ?_ | (refine y9 H ?_; intro b w H) | (refine y10 sg H ?_; intro b w H) | (refine y11 sg H ?_; intro w H) | refine z13 (zb sg rfl rfl (H.memF hF) hm rfl rfl) ?_ | (refine' y30 zHW ?_ ?_; rotate_left; exact opn (H.memF hF); intro w hcl; replace H := H.ext hcl; clear hcl) | (refine' y30 zM3 ?_ ?_; rotate_left; exact inst (H.memF hF); intro w hcl; replace H := H.ext hcl; clear hcl) | (refine zY rfl rfl (Yq.rem rfl rfl rfl ?_) ?_; (have h9 := htk (by simpa using h); have h9 : 1 ≤ ins.tick := h9; omega)) | refine y13 ?_ | refine y14 ?_ | (refine y17 ?_ ?_; all_goals intro h) | (with_reducible first | apply zB | apply zD | apply zC | apply zF) | refine zA ?_ | fail)
 all_goals simp only [Bool.not_eq_true', Bool.not_eq_false', decide_eq_true_eq, decide_eq_false_iff_not] at *
 all_goals exact zQ rfl H.cl (congrArg Value.bool (by simp only [*, decide_true, decide_false, Bool.true_or, Bool.or_true, Bool.false_or, Bool.or_false, Bool.not_true, Bool.not_false]))
theorem zN7 {F : zI} (s : Sta) (p : SPt) (hi : zBs s.insts = true) (w0 : World) (hF : Mem w0 F) (hs0 : StaM F s p) :
  Calls Tryz.prog 210 [.agg (s.cells p).toArray].toArray w0 (Ret (.bool (zAp s)) w0) := by
 have cont : ∀ {b : Nat} {w : World}, Mem w (cb b (s.cells p) 29 :: F) → Calls Tryz.prog 241 [.slice p.odA s.orders.length p.odC, .func (.func 238) #[] #[.pointer (some ⟨b, 0, none⟩)]].toArray w (Ret (.bool (decide (idx (fun j => zDE s (od_ s.orders j)) s.orders.length ≥ 0))) w) := fun hM =>
  zDv (caps := [.pointer (some ⟨_, 0, none⟩)]) (fun j => zDE s (od_ s.orders j)) _ hM (SlA.mono hs0.od (List.subset_cons_self _ _)) ent238 (fun j _ w hw => zMG s p hi (od_ s.orders j) w (hM.ext hw) (hs0.mono (List.subset_cons_self _ _)) (List.Mem.head _))
 have fin : zAr s.orders = true → (!decide (idx (fun j => zDE s (od_ s.orders j)) s.orders.length ≥ 0)) = zAp s := fun hR => by
  have e : zAp s = (List.range s.orders.length).all fun k => zCf s (od_ s.orders k) := by unfold zAp; rw [hR, Bool.true_and]
  rw [e]
  rcases z7 (fun j => zDE s (od_ s.orders j)) s.orders.length with ⟨k, hk, _, hb, hx⟩ | ⟨ha, hx⟩
  ·rw [hx, decide_eq_true (by omega)]
   symm
   rw [Bool.not_true, List.all_eq_false]
   refine ⟨k, List.mem_range.2 hk, ?_⟩
   have := (zG6 s _).symm.trans hb
   simpa using this
  ·rw [hx, decide_eq_false (by omega)]
   symm
   rw [Bool.not_false, List.all_eq_true]
   intro k hk
   have hk := List.mem_range.1 hk
   have := (zG6 s _).symm.trans (ha k hk)
   simpa using this
 refine enter [.tmp 2] Tryz.func210 rfl Tryz.ntmps210 rfl rfl ?_
 have H := zH w0
 repeat' (first | refine y1 sg ?_ | refine y3 ?_ | refine y5 sg ?_ | refine y7 sg H ?_ | (refine y9 H ?_; intro b w H) | (refine' y30 ent240 ?_ ?_; rotate_left; exact zNV s.orders _ (H.memF hF) hs0.od; intro w hcl; replace H := H.ext hcl; clear hcl) | (refine' y30 zM4 ?_ ?_; rotate_left; exact cont (H.all hF); intro w hcl; replace H := H.ext hcl; clear hcl) | refine y13 ?_ | refine y14 ?_ | (refine y17 ?_ ?_; all_goals intro h) | (with_reducible first | apply zB | apply zD | apply zC | apply zF) | refine zA ?_ | fail)
 all_goals first
  | (have h : zAr s.orders = true := by assumption
     exact zQ rfl H.cl (congrArg Value.bool (fin h)))
  | (have h : zAr s.orders = false := by assumption
     refine zQ rfl H.cl (congrArg Value.bool ?_)
     unfold zAp
     rw [h, Bool.false_and])
  | fail
end Go.Proofs.YtggolnppckpdlaaGreat
set_option linter.unusedSimpArgs false
set_option linter.unusedVariables false
namespace Go.Proofs.YtggolnppckpdlaaGreat
open Go Go.Sk Go.RowKit
attribute [local irreducible] Go.Calls
abbrev au_ (l : List Auc) (k : Nat) : Auc := l.getD k default
def zGN (s : Sta) (l : List Bid) (k : Nat) : Bool := !(zAd s.accts (l.getD k default).acct).2
def zDF (s : Sta) (l : List Bid) : Bool := decide (idx (zGN s l) l.length ≥ 0)
def zBz (s : Sta) (x : Auc) : Bool := decide (x.id ≥ s.nextA) || !(zAd s.accts x.seller).2 || !(zBG s.insts x.inst).2 || zDF s x.bids
def zBi (s : Sta) : Bool := zAf s.aucs && !decide (idx (fun j => zBz s (au_ s.aucs j)) s.aucs.length ≥ 0)
theorem zHn {b : Nat} {T : TypeId} {fr : Nat × Nat} {F : zI} (s : Sta) (p : SPt) (d : Bid) (w0 : World) (hF : Mem w0 F) (hs0 : StaM F s p) (hm : (b, Obj.cells (s.cells p).toArray T fr) ∈ F) :
  Calls Tryz.prog 243 [.agg d.cells.toArray, .pointer (some ⟨b, 0, none⟩)].toArray w0 (Ret (.bool (!(zAd s.accts d.acct).2)) w0) := by
 obtain ⟨ac, ok, hac⟩ : ∃ ac ok, zAd s.accts d.acct = (ac, ok) := ⟨_, _, rfl⟩
 have opn : ∀ {w : World}, Mem w F → Calls Tryz.prog 235 [.agg (s.cells p).toArray, .int .i64 d.acct].toArray w (Ret (.bool ok) w) := fun hF => by
  have := zHb s p d.acct _ hF hs0
  rw [hac] at this
  exact this
 rw [hac]
 refine enter [.tmp 3] Tryz.func243 rfl Tryz.ntmps243 rfl rfl ?_
 have H := zH w0
 repeat' (first | refine y1 sg ?_ | refine y3 ?_ | refine y7 sg H ?_ | (refine y9 H ?_; intro b w H) | refine z13 (zb sg rfl rfl (H.memF hF) hm rfl rfl) ?_ | (refine' y30 zHW ?_ ?_; rotate_left; exact opn (H.memF hF); intro w hcl; replace H := H.ext hcl; clear hcl) | (with_reducible first | apply zB | apply zD | apply zC | apply zF) | refine zA ?_ | fail)
 all_goals exact zQ rfl H.cl rfl
theorem zIm {b : Nat} {T : TypeId} {fr : Nat × Nat} {F : zI} {ba : Option Addr} {bc : Nat} (s : Sta) (p : SPt) (x : Auc) (w0 : World) (hF : Mem w0 F) (hb : Bids F ba bc x.bids) (hs0 : StaM F s p) (hm : (b, Obj.cells (s.cells p).toArray T fr) ∈ F) :
  Calls Tryz.prog 242 [.agg (x.cells ba bc).toArray, .pointer (some ⟨b, 0, none⟩)].toArray w0 (Ret (.bool (zBz s x)) w0) := by
 obtain ⟨ac, ok, hac⟩ : ∃ ac ok, zAd s.accts x.seller = (ac, ok) := ⟨_, _, rfl⟩
 obtain ⟨ins, is, his⟩ : ∃ ac ok, zBG s.insts x.inst = (ac, ok) := ⟨_, _, rfl⟩
 obtain ⟨bb, hbb⟩ : ∃ bb, zDF s x.bids = bb := ⟨_, rfl⟩
 have opn : ∀ {w : World}, Mem w F → Calls Tryz.prog 235 [.agg (s.cells p).toArray, .int .i64 x.seller].toArray w (Ret (.bool ok) w) := fun hF => by
  have := zHb s p x.seller _ hF hs0
  rw [hac] at this
  exact this
 have inst : ∀ {w : World}, Mem w F → Calls Tryz.prog 244 [.agg (s.cells p).toArray, .int .i64 x.inst].toArray w (Ret (.bool is) w) := fun hF => by
  have := zPQ s p x.inst _ hF hs0
  rw [his] at this
  exact this
 have cont : ∀ {w : World}, Mem w F → Calls Tryz.prog 245 [.slice ba x.bids.length bc, .func (.func 243) #[] #[.pointer (some ⟨b, 0, none⟩)]].toArray w (Ret (.bool bb) w) := fun hM =>
  hbb ▸ zDu (caps := [.pointer (some ⟨_, 0, none⟩)]) (zGN s x.bids) _ hM hb ent243 (fun j _ w hw => zHn s p (x.bids.getD j default) w (hM.ext hw) hs0 hm)
 have hso : zBz s x = (decide (x.id ≥ s.nextA) || !ok || !is || bb) := by unfold zBz; rw [hac, his, hbb]
 rw [hso]
 refine enter [.tmp 3] Tryz.func242 rfl Tryz.ntmps242 rfl rfl ?_
 have H := zH w0
 repeat' (first | refine y1 sg ?_ | refine y3 ?_ | refine y5 sg ?_ | refine y7 sg H ?_ | (refine y9 H ?_; intro b w H) | refine z13 (zb sg rfl rfl (H.memF hF) hm rfl rfl) ?_ | (refine' y30 zHW ?_ ?_; rotate_left; exact opn (H.memF hF); intro w hcl; replace H := H.ext hcl; clear hcl) | (refine' y30 ent244 ?_ ?_; rotate_left; exact inst (H.memF hF); intro w hcl; replace H := H.ext hcl; clear hcl) | (refine' y30 zM5 ?_ ?_; rotate_left; exact cont (H.memF hF); intro w hcl; replace H := H.ext hcl; clear hcl) | refine y13 ?_ | refine y14 ?_ | (refine y17 ?_ ?_; all_goals intro h) | (with_reducible first | apply zB | apply zD | apply zC | apply zF) | refine zA ?_ | fail)
 all_goals simp only [Bool.not_eq_true', Bool.not_eq_false', decide_eq_true_eq, decide_eq_false_iff_not] at *
 all_goals exact zQ rfl H.cl (congrArg Value.bool (by simp only [*, decide_true, decide_false, Bool.true_or, Bool.or_true, Bool.false_or, Bool.or_false, Bool.not_true, Bool.not_false]))
theorem zJo {F : zI} (s : Sta) (p : SPt) (w0 : World) (hF : Mem w0 F) (hs0 : StaM F s p) :
  Calls Tryz.prog 211 [.agg (s.cells p).toArray].toArray w0 (Ret (.bool (zBi s)) w0) := by
 have cont : ∀ {b : Nat} {w : World}, Mem w (cb b (s.cells p) 29 :: F) → Calls Tryz.prog 247 [.slice p.auA s.aucs.length p.auC, .func (.func 242) #[] #[.pointer (some ⟨b, 0, none⟩)]].toArray w (Ret (.bool (decide (idx (fun j => zBz s (au_ s.aucs j)) s.aucs.length ≥ 0))) w) := fun hM =>
  zGd (caps := [.pointer (some ⟨_, 0, none⟩)]) (fun j => zBz s (au_ s.aucs j)) _ hM (SlA.mono hs0.au.1 (List.subset_cons_self _ _)) ent242 (fun j hj w hw => zIm s p (au_ s.aucs j) w (hM.ext hw) (SlA.mono (hs0.au.2 j hj) (List.subset_cons_self _ _)) (hs0.mono (List.subset_cons_self _ _)) (List.Mem.head _))
 have fin : zAf s.aucs = true → (!decide (idx (fun j => zBz s (au_ s.aucs j)) s.aucs.length ≥ 0)) = zBi s := fun hR => by
  unfold zBi; rw [hR, Bool.true_and]
 refine enter [.tmp 2] Tryz.func211 rfl Tryz.ntmps211 rfl rfl ?_
 have H := zH w0
 repeat' (first | refine y1 sg ?_ | refine y3 ?_ | refine y5 sg ?_ | refine y7 sg H ?_ | (refine y9 H ?_; intro b w H) | (refine' y30 ent246 ?_ ?_; rotate_left; exact zNd s.aucs p.ad _ (H.memF hF) hs0.au; intro w hcl; replace H := H.ext hcl; clear hcl) | (refine' y30 ent247 ?_ ?_; rotate_left; exact cont (H.all hF); intro w hcl; replace H := H.ext hcl; clear hcl) | refine y13 ?_ | refine y14 ?_ | (refine y17 ?_ ?_; all_goals intro h) | (with_reducible first | apply zB | apply zD | apply zC | apply zF) | refine zA ?_ | fail)
 all_goals first
  | (have h : zAf s.aucs = true := by assumption
     exact zQ rfl H.cl (congrArg Value.bool (fin h)))
  | (have h : zAf s.aucs = false := by assumption
     refine zQ rfl H.cl (congrArg Value.bool ?_)
     unfold zBi
     rw [h, Bool.false_and])
  | fail
end Go.Proofs.YtggolnppckpdlaaGreat
set_option linter.unusedSimpArgs false
set_option linter.unusedVariables false
namespace Go.Proofs.YtggolnppckpdlaaGreat
open Go Go.Sk Go.RowKit
attribute [local irreducible] Go.Calls
def zGO : List Value := [.string ⟨#[110, 117, 109, 98, 101, 114, 115]⟩, .func (.func 206) #[] #[], .string ⟨#[97, 99, 99, 111, 117, 110, 116, 115]⟩, .func (.func 207) #[] #[], .string ⟨#[105, 110, 115, 116, 114, 117, 109, 101, 110, 116, 115]⟩, .func (.func 208) #[] #[], .string ⟨#[114, 111, 119, 115]⟩, .func (.func 209) #[] #[], .string ⟨#[111, 114, 100, 101, 114, 115]⟩, .func (.func 210) #[] #[], .string ⟨#[97, 117, 99, 116, 105, 111, 110, 115]⟩, .func (.func 211) #[] #[], .string ⟨#[104, 101, 108, 100]⟩, .func (.func 212) #[] #[]]
theorem zP3 (w0 : World) :
  Calls Tryz.prog 168 [].toArray w0 (zf (fun M v => ∃ b T fr, v = .slice (some ⟨b, 0, none⟩) 7 7 ∧ M = [(b, Obj.cells zGO.toArray T fr)]) w0) := by
 refine enter [.tmp 0] Tryz.func168 rfl Tryz.ntmps168 rfl rfl ?_
 have H := zH w0
 repeat' (first | refine y1 sg ?_ | refine y3 ?_ | (refine z14 sg H ?_; intro b w H) | (with_reducible first | apply zB | apply zD | apply zC | apply zF) | refine zA ?_ | fail)
 exact zDs rfl H ⟨_, _, _, rfl, rfl⟩
end Go.Proofs.YtggolnppckpdlaaGreat
