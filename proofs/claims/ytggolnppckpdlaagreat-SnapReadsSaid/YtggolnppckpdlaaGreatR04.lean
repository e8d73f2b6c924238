/- Texts of ours, joined: the steps of the proof, or the claim's theorem. -/
import Derived.Laws.StructEq
import Derived.Test.YtggolnppckpdlaaGreatR03
namespace Go.Sk
open Go Go.RowKit
def eqV : Value → Value → Option Bool
 | .int k a, .int k' b => bif kEq k k' then some (a == b) else none
 | .bool a, .bool b => some (a == b)
 | .string a, .string b => some (a.toList == b.toList)
 | _, _ => none
def zES : TypeDesc → Value → Bool
 | .int _, .int _ _ => true
 | .bool, .bool _ => true
 | .string, .string _ => true
 | _, _ => false
def eqF (ty : Tab) (cs ds : List Value) : List Field → Option Bool
 | [] => some true
 | f :: r => match lk ty f.type, cs[f.offset]?, ds[f.offset]? with
   | some ti, some x, some y => bif zES ti.d x && zES ti.d y then
     (match eqV x y, eqF ty cs ds r with
     | some b, some b' => some (b && b')
     | _, _ => none)
     else none
   | _, _, _ => none
theorem zIG {d : TypeDesc} {x : Value} (h : zES d x = true) : zBF d = false := by
 cases d <;> cases x <;> first | rfl | cases h
section
variable {P : Program} (S : Sig P)
theorem zND {t : TypeId} {ti : TI} (ht : lk S.tab t = some ti) {x y : Value} {b : Bool} (hx : zES ti.d x = true) (hy : zES ti.d y = true) (h : eqV x y = some b) (d : Nat) (w : World) : (Op.equalIn (d + 1) t x y).run P w = .ok b w := by
 have hu := S.und ht
 cases hd : ti.d <;> rw [hd] at hx hy hu <;> cases x <;> simp only [zES] at hx <;> try (cases hx; done)
 all_goals cases y <;> simp only [zES] at hy <;> try (cases hy; done)
 all_goals simp only [eqV] at h
 ·cases h
  exact run_equalIn_bool w d t _ _ hu
 ·rename_i k' k a k2 b2
  cases hk : kEq k k2 with
  | false => rw [hk] at h; cases h
  | true =>
    rw [hk] at h
    cases h
    obtain rfl : k = k2 := of_decide_eq_true hk
    exact run_equalIn_int w d t _ _ _ _ hu
 ·cases h
  exact run_equalIn_string w d t _ _ hu
theorem zNE (cs ds : List Value) (d : Nat) (w : World) : ∀ (fs : List Field) (r : Bool), fs.all (fun f => f.name != "_") = true → eqF S.tab cs ds fs = some r → (Op.eqFields (d + 1) cs.toArray ds.toArray fs).run P w = .ok r w
 | [], r, _, h => by cases h; rfl
 | f :: fs, r, hn, h => by
   simp only [List.all_cons, Bool.and_eq_true, bne_iff_ne, ne_eq] at hn
   unfold eqF at h
   split at h
   ·rename_i ti x y ht hx hy
    cases hf : (zES ti.d x && zES ti.d y) with
    | false => rw [hf] at h; cases h
    | true =>
      rw [hf] at h
      simp only [Bool.and_eq_true] at hf
      simp only [cond_true] at h
      split at h
      ·rename_i b b' hb hb'
       cases h
       have p1 := zC2 S ht cs.toArray f.offset (v := x) (by rw [zIG hf.1]; simpa using hx) w
       have p2 := zC2 S ht ds.toArray f.offset (v := y) (by rw [zIG hf.1]; simpa using hy) w
       have e := zND S ht hf.1 hf.2 hb d w
       have ih := zNE cs ds d w fs b' (by simpa using hn.2) hb'
       simp only [Op.eqFields, hn.1, ne_eq, not_false_eq_true, if_true, Sem.run_bind, p1, p2, e, Result.andThen_ok]
       cases b
       ·rfl
       ·simpa using ih
      ·cases h
   ·cases h
theorem zKr {t : TypeId} {ti : TI} {fs : Array Field} (ht : lk S.tab t = some ti) (htd : ti.d = .struct fs) (st : P.stoodInHeld t = false) (hn : fs.toList.all (fun f => f.name != "_") = true) {cs ds : List Value} {r : Bool} (h : eqF S.tab cs ds fs.toList = some r) (w : World) :
  (Op.equalIn 10000 t (.agg cs.toArray) (.agg ds.toArray)).run P w = .ok r w := by
 have hu := S.und ht
 rw [htd] at hu
 have hf : P.fieldsOf t = fs := by unfold Program.fieldsOf; rw [hu]
 have h2 := run_equalIn_struct (P := P) w 9999 t cs.toArray ds.toArray (by rw [hf]; exact hu) st
 rw [hf] at h2
 exact h2.trans (zNE S cs ds 9998 w fs.toList r hn h)
theorem zAx {o : Oper} {e : Env} {w : World} {t : TypeId} {x y : Operand} {yT : TypeId} {ti : TI} {fs : Array Field} {cs ds : List Value} {r : Bool} (st : P.stoodInHeld t = false) (eg : P.eqGuardType P.depth t = false)
  (ho : o.op = .binOp .neq t x y yT) (hx : nf (ev e x) = some (.agg cs.toArray)) (hy : nf (ev e y) = some (.agg ds.toArray)) (ht : lk S.tab t = some ti) (htd : ti.d = .struct fs) (hn : fs.toList.all (fun f => f.name != "_") = true) (h : eqF S.tab cs ds fs.toList = some r) : Yq P o e w (.bool (!r)) := by
 have hx := zB3 hx
 have hy := zB3 hy
 refine Yq.of fun w' => ?_
 simp only [execOp, ho, hx, hy, Sem.run_bind, run_eqGuard_agg w' _ _ _ _ _ _ eg, Result.andThen_ok, run_neq_struct, zKr S ht htd st hn h, Sem.run_pure]
end
end Go.Sk
namespace Go.Sk
open Go Go.RowKit
def zAI (s : ByteArray) (j : Nat) : Nat := (s.data.getD j 0).toNat
theorem zBA (s : ByteArray) (j : Nat) : zAI s j < 256 := (s.data.getD j 0).toNat_lt
section
attribute [local semireducible] Yq
variable {P : Program} (S : Sig P) {o : Oper} {e : Env} {w : World}
theorem zNF {t : TypeId} {x y : Operand} {yT : TypeId} {a b : ByteArray} (ho : o.op = .binOp .add t x y yT) (hx : ev e x = .string a) (hy : ev e y = .string b) (hs : a.size + b.size ≤ 9223372036854775807) : Yq P o e w (.string (a ++ b)) := by
 refine Yq.of fun w' => ?_
 have hg : (eqGuard .add t x y (.string a) (.string b)).run P w' = .ok () w' := rfl
 have hb : (binOp .add t (.string a) (.string b)).run P w' = .ok (.string (a ++ b)) w' := by
  have h1 : ¬ (((a.size + b.size : Nat) : Int) > IntKind.i64.max) := by
   have : IntKind.i64.max = 9223372036854775807 := by decide
   rw [this]; omega
  simp only [binOp, Op.stringOp, h1, if_false, Sem.run_pure]
 simp only [execOp, ho, hx, hy, Sem.run_bind, hg, Result.andThen_ok, hb, Sem.run_pure]
theorem Yq.strIx {t : TypeId} {x i : Operand} {s : ByteArray} {j : Nat} {k : IntKind} {q : Int} {ti : TI} (ho : o.op = .index t x i) (hx : ev e x = .string s) (hi : ev e i = .int k q) (ht : lk S.tab t = some ti) (htd : ti.d = .string) (hj : q.toNat = j) (h0 : 0 ≤ q) (h1 : q < s.size) :
  Yq P o e w (.int .u8 (zAI s j : Nat)) := by
 intro w' _
 have hu := S.run_und ht w'
 rw [htd] at hu
 have hlt : q.toNat < s.size := by omega
 have hlt2 : q.toNat < s.data.size := hlt
 have hg : s[q.toNat]? = some s[q.toNat] := getElem?_pos s q.toNat hlt
 have hb : zAI s j = (s[q.toNat]).toNat := by
  subst hj
  unfold zAI
  rw [Array.getD_eq_getD_getElem?, Array.getElem?_eq_getElem hlt2]
  rfl
 simp only [execOp, ho, Instr.index, hx, hi, asIntOf, hu, Sem.run_bind, Sem.run_pure, Result.andThen_ok, h0, if_true, hg, hb]
theorem Yq.strCut {t : TypeId} {x l h : Operand} {s : ByteArray} {k k' : IntKind} {p q : Int} {i j : Nat} {ti : TI} (ho : o.op = .slice t x (some l) (some h) none) (hx : ev e x = .string s) (hl : ev e l = .int k p) (hh : ev e h = .int k' q) (ht : lk S.tab t = some ti) (htd : ti.d = .string)
  (hp : p.toNat = i) (hq : q.toNat = j) (h0 : 0 ≤ p) (h1 : p ≤ q) (h2 : q ≤ s.size) : Yq P o e w (.string (s.extract i j)) := by
 intro w' _
 have hu := S.run_und ht w'
 rw [htd] at hu
 subst hp
 subst hq
 have b1 := run_sliceBound (P := P) w' k' q s.size .sliceAlen (by omega) (by omega)
 have b2 := run_sliceBound (P := P) w' k p q.toNat .sliceB h0 (by omega)
 simp [execOp, ho, Instr.sliceAt, Instr.slice, Instr.sliceBounds, hx, hl, hh, hu, b1, b2]
theorem Yq.strLo {t : TypeId} {x l : Operand} {s : ByteArray} {k : IntKind} {p : Int} {i : Nat} {ti : TI} (ho : o.op = .slice t x (some l) none none) (hx : ev e x = .string s) (hl : ev e l = .int k p) (ht : lk S.tab t = some ti) (htd : ti.d = .string)
  (hp : p.toNat = i) (h0 : 0 ≤ p) (h2 : p ≤ s.size) : Yq P o e w (.string (s.extract i s.size)) := by
 intro w' _
 have hu := S.run_und ht w'
 rw [htd] at hu
 subst hp
 have b2 := run_sliceBound (P := P) w' k p s.size .sliceB h0 (by omega)
 simp [execOp, ho, Instr.sliceAt, Instr.slice, Instr.sliceBounds, hx, hl, hu, b2]
theorem Yq.strHi {t : TypeId} {x h : Operand} {s : ByteArray} {k : IntKind} {q : Int} {j : Nat} {ti : TI} (ho : o.op = .slice t x none (some h) none) (hx : ev e x = .string s) (hh : ev e h = .int k q) (ht : lk S.tab t = some ti) (htd : ti.d = .string)
  (hq : q.toNat = j) (h0 : 0 ≤ q) (h2 : q ≤ s.size) : Yq P o e w (.string (s.extract 0 j)) := by
 intro w' _
 have hu := S.run_und ht w'
 rw [htd] at hu
 subst hq
 have b1 := run_sliceBound (P := P) w' k q s.size .sliceAlen h0 h2
 simp [execOp, ho, Instr.sliceAt, Instr.slice, Instr.sliceBounds, hx, hh, hu, b1]
def bytesOf (l : List Nat) : ByteArray := ⟨(l.map fun n => UInt8.ofNat n).toArray⟩
theorem zJU (l : List Nat) (n : Nat) : (bytesOf l).push (UInt8.ofNat n) = bytesOf (l ++ [n]) := by
 simp [bytesOf, ByteArray.push]
theorem zDt {P : Program} (w : World) : ∀ (l : List Nat) (acc : List Nat),
  (forIn (m := Sem) (l.map fun n => Value.int .u8 (n : Nat)) (bytesOf acc) fun c s => match c with
   | .int .u8 n => pure (ForInStep.yield (s.push (UInt8.ofNat n.toNat)))
   | _ => do
     (stuck "bytesToString: byte expected" : Sem PUnit)
     pure (ForInStep.yield s)).run P w = .ok (bytesOf (acc ++ l)) w
 | [], acc => by simp
 | n :: r, acc => by
   have ih := zDt (P := P) w r (acc ++ [n])
   simp only [List.map_cons, List.forIn_cons, Sem.run_bind, Sem.run_pure, Result.andThen_ok, Int.toNat_natCast, zJU]
   rw [List.append_assoc] at ih
   exact ih
def u8c (l : List Nat) (j : Nat) : List Value := [.int .u8 (l.getD j 0 : Nat)]
theorem zET {F : zI} {a : Option Addr} {n b off cap : Nat} {cs : List Value} {T : TypeId} {fr : Nat × Nat} {l : List Nat} {src dst E : TypeId} {x : Operand} {ti te td : TI} (hs : SlB F 1 a n b off cs T fr (u8c l)) (hn : l.length = n) (hM : Mem w F)
  (ho : o.op = .convert src dst x) (hx : ev e x = .slice a n cap) (ht : lk S.tab src = some ti) (htd : ti.d = .slice E) (he : lk S.tab E = some te) (hed : te.d = .int .u8) (hd : lk S.tab dst = some td) (hdd : td.d = .string) : Yq P o e w (.string (bytesOf l)) := by
 intro w' hw'
 have hu := S.run_und ht w'
 have hue := S.run_und he w'
 have hud := S.run_und hd w'
 rw [htd] at hu
 rw [hed] at hue
 rw [hdd] at hud
 have hr : (Conv.bytesToString (.slice a n cap)).run P w' = .ok (.string (bytesOf l)) w' := by
  cases a with
  | none =>
    have : n = 0 := by
     rcases Nat.eq_zero_or_pos n with h | h
     ·exact h
     ·cases (hs h).1
    subst this
    have : l = [] := List.eq_nil_of_length_eq_zero hn
    subst this
    rfl
  | some a =>
    have hl : (loadCells a n).run P w' = .ok ((l.map fun n => Value.int .u8 (n : Nat)).toArray) w' := by
     subst hn
     rcases Nat.eq_zero_or_pos l.length with h | h
     ·have : l = [] := List.eq_nil_of_length_eq_zero h
      subst this
      rfl
     ·obtain ⟨e1, hm, hel⟩ := hs h
      cases e1
      have := run_loadCells_list (P := P) w' (⟨b, off, none⟩ : Addr) (l.map fun n => Value.int .u8 (n : Nat)) (fun j v hv => by
       rw [List.getElem?_map] at hv
       obtain ⟨u, hu1, hu2⟩ := Option.map_eq_some_iff.1 hv
       have hj : j < l.length := by
        rcases Nat.lt_or_ge j l.length with g | g
        ·exact g
        ·rw [List.getElem?_eq_none g] at hu1; cases hu1
       obtain ⟨g1, g2⟩ := hel j hj
       rw [zBl, zC3 (hM.ext hw') hm]
       have := congrArg (fun q : List Value => q[0]?) g2
       simp only [List.getElem?_take, List.getElem?_drop, u8c, Nat.zero_lt_one, if_true, Nat.add_zero, Nat.mul_one] at this
       rw [this, ← hu2, List.getD_eq_getElem?_getD, hu1]
       rfl)
      simpa using this
    have h2 := zDt (P := P) w' l []
    have e0 : bytesOf [] = ByteArray.empty := rfl
    rw [e0, List.nil_append] at h2
    simp only [Conv.bytesToString, Sem.run_bind, hl, Result.andThen_ok]
    rw [← Array.forIn_toList]
    refine (congrArg (fun q : Result ByteArray => q.andThen fun a w' => (pure (Value.string a) : Sem Value).run P w') h2).trans ?_
    rfl
 have hc : (convert src dst (.slice a n cap)).run P w' = .ok (.string (bytesOf l)) w' := by
  unfold convert
  simp only [Sem.run_bind, hu, hud, Result.andThen_ok, hue, hr]
 simp only [execOp, ho, hx, Sem.run_bind, hc, Result.andThen_ok, Sem.run_pure]
end
end Go.Sk
set_option linter.unusedSectionVars false
set_option linter.unusedSimpArgs false
namespace Go.Sk
open Go Go.RowKit
def wrB (l : List Nat) : List Value := l.map fun (n : Nat) => Value.int .u8 (n : Int)
theorem zEU (a b : List Nat) : wrB a ++ wrB b = wrB (a ++ b) := by simp [wrB]
theorem zEV (l : List Nat) : (wrB l).length = l.length := by simp [wrB]
def zN (s : ByteArray) : List Nat := s.data.toList.map UInt8.toNat
theorem zP (s : ByteArray) : (zN s).length = s.size := by simp [zN]
theorem zPB (s : ByteArray) : s.data.map (fun b => Value.int .u8 (b.toNat : Int)) = (wrB (zN s)).toArray := by
 apply Array.ext'; simp [wrB, zN]
theorem fc_str {P : Program} (w : World) (k : Nat) (s : ByteArray) : (Builtin.firstCells k s.size (.string s)).run P w = .ok (wrB (zN s)).toArray w := by
 simp [Builtin.firstCells]
 rw [← zPB]
theorem zNG {P : Program} {w0 w : World} {M G : zI} {E t t2 ty : TypeId} {n cap bytes : Nat} {a0 : Option Addr} {s : ByteArray} {xs : List Value} {i : TypeInfo} {z : Value} (H : St w0 (M ++ G) w)
  (ht : P.underlying t = some (.slice E)) (hu : P.underlying t2 = some .string) (hi : P.info? E = some i) (hz : i.zero = some z) (hby : i.bytes = bytes) (hzs : z.cells.size = i.size) (h1z : i.size = 1)
  (h : Own M E i.size a0 n cap xs) (h63 : n + s.size ≤ maxLen) (hbytes : (n + s.size) * bytes ≤ 140737488355328) :
  ∃ a' cap' M' w', (Builtin.append_ #[t, t2] ty #[.slice a0 n cap, .string s]).run P w = .ok (.slice a' (n + s.size) cap') w' ∧ Own M' E i.size a' (n + s.size) cap' (xs ++ wrB (zN s)) ∧ St w0 (M' ++ G) w' := by
 subst hby
 obtain ⟨m, hm⟩ : ∃ m, s.size = m := ⟨_, rfl⟩
 obtain ⟨news, hnews⟩ : ∃ news, wrB (zN s) = news := ⟨_, rfl⟩
 have hl : news.length = m * i.size := by rw [← hnews, zEV, zP, hm, h1z, Nat.mul_one]
 have h1 : ∀ u ∈ news, u.oneCell' = true := by
  intro u hu; rw [← hnews] at hu; obtain ⟨j, _, rfl⟩ := List.mem_map.1 hu; rfl
 have hfc : ∀ w', (Builtin.firstCells i.size m (.string s)).run P w' = .ok news.toArray w' := fun w' => by rw [← hm, ← hnews]; exact fc_str w' _ s
 have hlo : ∀ w', (Builtin.lenOf (.string s)).run P w' = .ok m w' := fun w' => by simp [Builtin.lenOf, hm]
 rw [hm] at h63 hbytes ⊢
 rw [hnews]
 have hsmall : n + m ≤ 9223372036854775807 := by simp only [maxLen] at h63; omega
 have hxl : xs.length = n * i.size := h.1
 have hlen : (xs ++ news).length = (n + m) * i.size := by rw [List.length_append, hxl, hl, Nat.add_mul]
 have grown : ∀ (old : Nat), ∃ M', Own M' E i.size (some ⟨w.heap.size, 0, none⟩) (n + m) (grownCap w (n + m) old E) (xs ++ news) ∧
   St w0 (M' ++ G) (w.drew.alloc (.cells (xs.toArray ++ news.toArray ++ Builtin.zeroCells z.cells (grownCap w (n + m) old E - (n + m))) E)) := by
  intro old
  have hge := grownCap_ge w (n + m) old E
  have hcm : grownCap w (n + m) old E ≤ maxLen := grownCap_le_maxLen w (n + m) old E h63
  refine ⟨[cb w.heap.size (xs ++ news ++ (Builtin.zeroCells z.cells (grownCap w (n + m) old E - (n + m))).toList) E], ⟨hlen, .inr ⟨_, _, rfl, rfl, hge, hcm, ?_, ?_⟩⟩, ?_⟩
  ·simp only [List.length_append, Array.length_toList, size_zeroCells, hzs, hxl, hl, ← Nat.add_mul]
   congr 1
   omega
  ·rw [← hlen]; exact List.take_left
  ·have := (H.tail).drewAlloc (.cells (xs.toArray ++ news.toArray ++ Builtin.zeroCells z.cells (grownCap w (n + m) old E - (n + m))) E)
   have he : (xs.toArray ++ news.toArray ++ Builtin.zeroCells z.cells (grownCap w (n + m) old E - (n + m))) = (xs ++ news ++ (Builtin.zeroCells z.cells (grownCap w (n + m) old E - (n + m))).toList).toArray := by
    apply Array.ext'; simp
   rw [he] at this ⊢
   exact this
 have hle : n + m ≤ cap ∨ ¬ n + m ≤ cap := Decidable.em _
 rcases hle with hroom | hroom
 ·rcases h.2 with ⟨hn0, hc0, hM⟩ | ⟨g, cs, rfl, hM, hnc, hcm, hcs, htake⟩
  ·have hm0 : m = 0 := by omega
   have hn1 : news = [] := List.eq_nil_of_length_eq_zero (by rw [hl, hm0, Nat.zero_mul])
   refine ⟨a0, cap, M, w, ?_, by rw [hn1, hm0, List.append_nil, Nat.add_zero]; exact h, H⟩
   have hf0 := hfc w
   rw [hm0] at hf0
   cases a0 <;> simp [Builtin.append_, run_underlying ht, run_underlying hu, sizeOf, typeInfo, hi, hlo, hf0, hn1, storeCells, hc0, hn0, hm0]
  ·subst hM
   have hg := H.mem (cb g cs E) (by simp)
   have hfit : n * i.size + news.length ≤ cs.toArray.size := by rw [hl, List.size_toArray, hcs, ← Nat.add_mul]; exact Nat.mul_le_mul_right _ hroom
   have hst := run_storeCells_at P g (n * i.size) E news 0 cs.toArray w hg (by simpa using hfit) h1
   simp only [Nat.add_zero] at hst
   have hr : (Builtin.append_ #[t, t2] ty #[.slice (some ⟨g, 0, none⟩) n cap, .string s]).run P w =
     .ok (.slice (some ⟨g, 0, none⟩) (n + m) cap) (w.setRow g (cs.toArray.toList.take (n * i.size) ++ news ++ cs.toArray.toList.drop (n * i.size + news.length)).toArray) := by
    simp [Builtin.append_, run_underlying ht, run_underlying hu, sizeOf, typeInfo, hi, hlo, hroom, hfc, Addr.add_lit, hst]
   refine ⟨_, _, [cb g (cs.take (n * i.size) ++ news ++ cs.drop (n * i.size + news.length)) E], _, hr, ⟨hlen, .inr ⟨g, _, rfl, rfl, hroom, hcm, ?_, ?_⟩⟩, ?_⟩
   ·simp only [List.length_append, List.length_take, List.length_drop, List.size_toArray] at hfit ⊢
    omega
   ·rw [htake, ← hlen]
    exact List.take_left
   ·exact H.row (Up.here)
 ·have h63' : ¬ (9223372036854775807 < ((n : Int) + (m : Int))) := by omega
  have hfit : ¬ (281474976710656 < Builtin.nextslicecap (n + m) cap * i.bytes) := by have := growslice_fits (old := cap) (need := n + m) (bytes := i.bytes) (by omega) hbytes; omega
  have holds : (Builtin.firstCells i.size n (.slice a0 n cap)).run P w.drew = .ok xs.toArray w.drew := by
   rcases h.2 with ⟨hn0, hc0, hM⟩ | ⟨g, cs, rfl, hM, hnc, hcm, hcs, htake⟩
   ·have hx : xs = [] := List.eq_nil_of_length_eq_zero (by rw [hxl, hn0, Nat.zero_mul])
    subst hx; subst hn0
    cases a0 <;> simp [Builtin.firstCells, loadCells, loadCellsFrom]
   ·refine run_firstCells_some (P := P) w.drew i.size n _ n cap xs hxl ?_
    intro j u hj
    subst hM
    rw [World.cell?_drew, zBl, Nat.zero_add, zC3 (M := [cb g cs E] ++ G) H.mem (b := g) (cs := cs) (T := E) (fr := (0, 0)) (by simp)]
    rw [← htake, List.getElem?_take] at hj
    split at hj
    ·exact hj
    ·cases hj
  obtain ⟨M', ho, hs⟩ := grown cap
  refine ⟨_, _, M', _, ?_, ho, hs⟩
  simp [Builtin.append_, run_underlying ht, run_underlying hu, sizeOf, typeInfo, zeroValue, hi, hz, hlo, hroom, h63', hfit, Question.forced, hfc, holds, newRow, grownCap]
  try (congr 2; apply Array.ext'; simp [List.append_assoc])
section
variable {P : Program} {n : Nw} {ops : Array Oper} {Q : zAX} {o : Oper} {rest : List Oper} {L : List (Nat × Value)} {b0 : Env} {w : World} (S : Sig P)
attribute [local semireducible] OX OW
theorem OX.appendS {w0 : World} {M G : zI} {x y : Operand} {t t2 E : TypeId} {d k : Nat} {a0 : Option Addr} {cap : Nat} {s : ByteArray} {xs : List Value} {ti ti2 te : TI} (H : St w0 (M ++ G) w)
  (ho : o.op = .call { callee := .builtin .append, args := #[x, y], argTypes := #[t, t2] }) (hd : o.dst = some d) (hlt : Nat.blt d n.n = true)
  (hx : ev (ovl L b0) x = .slice a0 k cap) (hy : ev (ovl L b0) y = .string s) (ht : lk S.tab t = some ti) (htd : ti.d = .slice E) (ht2 : lk S.tab t2 = some ti2) (ht2d : ti2.d = .string) (he : lk S.tab E = some te) (hz : Nat.beq te.zero.length te.size = true)
  (hsz : Nat.beq te.size 1 = true) (hby : Nat.ble te.bytes 1 = true)
  (h : Own M E 1 a0 k cap xs) (h63 : k + s.size ≤ 140737488355328)
  (kk : ∀ a' cap' M' w', Own M' E 1 a' (k + s.size) cap' (xs ++ wrB (zN s)) → St w0 (M' ++ G) w' → OW P n ops Q rest (ovl ((d, .slice a' (k + s.size) cap') :: L) b0) w') : OX P n ops Q o rest (ovl L b0) w := by
 intro a ha
 unfold Oper.wp
 rw [ha.eval]
 have hu := S.und ht
 rw [htd] at hu
 have hu2 := S.und ht2
 rw [ht2d] at hu2
 obtain ⟨f, hf1, hf2, hf3⟩ := S.inf he
 obtain ⟨zv, hz1, hz2⟩ := Option.map_eq_some_iff.1 hf3
 obtain ⟨i2, hi2, hb2⟩ := S.byt he
 rw [hf1] at hi2
 cases hi2
 have h1 := Nat.eq_of_beq_eq_true hsz
 have hby' := Nat.le_of_ble_eq_true hby
 have hf2' : f.size = 1 := hf2.trans h1
 rw [← hf2'] at h
 obtain ⟨a', cap', M', w', hr, ho', hs⟩ := zNG (P := P) (t := t) (t2 := t2) (ty := o.type) (s := s) H hu hu2 hf1 hz1 hb2 (by rw [hz2, hf2]; simpa using Nat.eq_of_beq_eq_true hz) hf2' h (by unfold maxLen; omega) (Nat.le_trans (Nat.mul_le_mul_left _ hby') (by omega))
 simp only [execOp, ho, resolve, invoke, builtin, Sem.run_bind, Sem.run_pure, Result.andThen_ok, List.map_toArray, List.map_cons, List.map_nil, hx, hy, hr, Oper.upon_value, hd]
 rw [hf2'] at ho'
 exact kk _ _ _ _ ho' hs _ (ha.put hlt _)
end
theorem zAh {l : List Value} (h : l.all Value.oneCell' = true) : ∀ u ∈ l, u.oneCell' = true := List.all_eq_true.1 h
theorem zt {x y : Nat × Obj} (M G : zI) : (x :: y :: (M ++ G)).Perm (M ++ (x :: y :: G)) := by
 have := List.perm_append_comm_assoc [x, y] M G
 simpa using this
theorem zAJ {x : Nat × Obj} (M G : zI) : (x :: (M ++ G)).Perm (M ++ (x :: G)) := by
 have := List.perm_append_comm_assoc [x] M G
 simpa using this
end Go.Sk
namespace Go.Sk
open Go Go.RowKit
def Byt (l : List Nat) : Prop := ∀ b ∈ l, b < 256
theorem Byt.app {a b : List Nat} (h : Byt a) (k : Byt b) : Byt (a ++ b) := fun x hx => (List.mem_append.1 hx).elim (h x) (k x)
theorem Byt.take {l : List Nat} (h : Byt l) (n : Nat) : Byt (l.take n) := fun x hx => h x (List.mem_of_mem_take hx)
theorem Byt.drop {l : List Nat} (h : Byt l) (n : Nat) : Byt (l.drop n) := fun x hx => h x (List.mem_of_mem_drop hx)
theorem zAy (s : ByteArray) : Byt (zN s) := by
 intro b hb
 obtain ⟨x, _, rfl⟩ := List.mem_map.1 hb
 exact x.toNat_lt
theorem zBm (s : ByteArray) : bytesOf (zN s) = s := by
 cases s with
 | mk d =>
   unfold bytesOf zN
   congr 1
   apply Array.ext'
   simp [List.map_map, Function.comp_def]
theorem zx {l : List Nat} (h : Byt l) : zN (bytesOf l) = l := by
 unfold bytesOf zN
 simp only [List.map_map]
 conv => rhs; rw [← List.map_id l]
 refine List.map_congr_left fun x hx => ?_
 show (UInt8.ofNat x).toNat = x
 rw [UInt8.toNat_ofNat']
 exact Nat.mod_eq_of_lt (h x hx)
theorem zIH (a b : List Nat) : bytesOf a ++ bytesOf b = bytesOf (a ++ b) := by
 apply ByteArray.ext
 rw [ByteArray.data_append]
 unfold bytesOf
 apply Array.ext'
 simp
theorem zII (a b : ByteArray) : zN (a ++ b) = zN a ++ zN b := by
 unfold zN
 rw [ByteArray.data_append]
 simp
theorem zc (s : ByteArray) (i j : Nat) : zN (s.extract i j) = ((zN s).drop i).take (j - i) := by
 unfold zN
 rw [ByteArray.data_extract, Array.toList_extract, List.extract_eq_take_drop, List.map_take, List.map_drop]
theorem zCt {a b : ByteArray} (h : zN a = zN b) : a = b := by rw [← zBm a, ← zBm b, h]
theorem zD8 (a b : ByteArray) : (a.toList == b.toList) = decide (zN a = zN b) := by
 rw [ByteArray.toList_eq, ByteArray.toList_eq, Bool.eq_iff_iff, beq_iff_eq, decide_eq_true_eq]
 constructor
 ·intro h; unfold zN; rw [h]
 ·intro h; rw [zCt h]
theorem zAc (l : List Nat) : (bytesOf l).size = l.length := by simp [bytesOf, ByteArray.size]
end Go.Sk
set_option linter.unusedSimpArgs false
set_option linter.unusedVariables false
namespace Go.Proofs.YtggolnppckpdlaaGreat
open Go Go.Sk Go.RowKit
attribute [local irreducible] Go.Calls
def Wr (M : zI) (pw : Nat) (l : List Nat) : Prop := ∃ a cap M2, M = cb pw [.slice a l.length cap] 90 :: M2 ∧ Own M2 5 1 a l.length cap (wrB l)
def WrR (G : zI) (pw : Nat) (l : List Nat) : zI → Value → Prop := fun N v => v = .tuple #[] ∧ ∃ M', N = M' ++ G ∧ Wr M' pw l
abbrev ptr (b : Nat) : Value := .pointer (some ⟨b, 0, none⟩)
theorem Wr.mk {pw : Nat} {a : Option Addr} {cap n : Nat} {M2 : zI} {l : List Nat} {xs : List Value} (hO : Own M2 5 1 a n cap xs) (hx : xs = wrB l) (hn : n = l.length) : Wr (cb pw [.slice a n cap] 90 :: M2) pw l := by
 subst hn; subst hx; exact ⟨a, cap, M2, rfl, hO⟩
theorem w8 (n : Nat) : IntKind.u8.wrap ((n : Nat) : Int) = ((n % 256 : Nat) : Int) := by
 simp [IntKind.wrap, IntKind.bits, IntKind.signed]
theorem zNH {w0 w : World} {M G : zI} {pw : Nat} {l : List Nat} {q : Int} (n : Nat) (hq : q = (n : Int)) (H : St w0 (M ++ G) w) (hM : Wr M pw l) (hl : l.length ≤ 70368744177664) :
  Calls Tryz.prog 113 [ptr pw, .int .u64 q, .int .i64 1].toArray w (zf (WrR G pw (l ++ [n % 256])) w0) := by
 subst hq
 obtain ⟨a, cap, M2, rfl, hO⟩ := hM
 replace H : St w0 (cb pw [.slice a l.length cap] 90 :: (M2 ++ G)) w := H
 refine enter [] Tryz.func113 rfl Tryz.ntmps113 rfl rfl ?_
 repeat' (first | refine y1 sg ?_ | refine y3 ?_ | refine y7 sg H ?_ | (refine y11 sg H ?_; intro w H) | (refine z14 sg H ?_; intro b w H) | (have hp := H.perm (zt M2 G); refine zi sg 1 1 (M := M2) hp rfl rfl rfl rfl rfl rfl rfl rfl rfl rfl rfl hO (zk hp.mem (List.mem_append_right _ (List.Mem.head _))) rfl (zAh rfl) (by unfold maxLen; omega) (by omega) ?_; clear hp hO; intro a cap M2 w hO H; replace H := (H.perm (zt M2 G).symm).sub (List.sublist_cons_self _ _)) | (with_reducible first | apply zB | apply zD | apply zC | apply zE | apply zL | apply zG | apply zS) | refine zA ?_ | refine y24 ?_ | refine y25 ?_ | refine y22 ?_ | fail)
 exact zu (vs := []) trivial H ⟨rfl, _, rfl, Wr.mk hO (by rw [← zEU]; simp [wrB, w8]) (by simp)⟩
theorem zFv (n m : Nat) : (n : Int).fdiv (2 ^ m) = ((n / 2 ^ m : Nat) : Int) := by
 rw [Int.fdiv_eq_ediv_of_nonneg _ (by exact Int.pow_nonneg (by decide))]
 push_cast
 rfl
theorem zIJ (n m : Nat) : IntKind.u8.wrap ((n : Int).fdiv (2 ^ m)) = ((n / 2 ^ m % 256 : Nat) : Int) := by
 rw [← w8]
 congr 1
 rw [Int.fdiv_eq_ediv_of_nonneg _ (by exact Int.pow_nonneg (by decide))]
 push_cast
 rfl
def be4 (n : Nat) : List Nat := [n / 2 ^ 24 % 256, n / 2 ^ 16 % 256, n / 2 ^ 8 % 256, n % 256]
def be8 (n : Nat) : List Nat := [n / 2 ^ 56 % 256, n / 2 ^ 48 % 256, n / 2 ^ 40 % 256, n / 2 ^ 32 % 256, n / 2 ^ 24 % 256, n / 2 ^ 16 % 256, n / 2 ^ 8 % 256, n % 256]
theorem zNI {w0 w : World} {M G : zI} {pw : Nat} {l : List Nat} {q : Int} (n : Nat) (hq : q = (n : Int)) (H : St w0 (M ++ G) w) (hM : Wr M pw l) (hl : l.length ≤ 70368744177664) :
  Calls Tryz.prog 113 [ptr pw, .int .u64 q, .int .i64 4].toArray w (zf (WrR G pw (l ++ be4 n)) w0) := by
 subst hq
 obtain ⟨a, cap, M2, rfl, hO⟩ := hM
 replace H : St w0 (cb pw [.slice a l.length cap] 90 :: (M2 ++ G)) w := H
 refine enter [] Tryz.func113 rfl Tryz.ntmps113 rfl rfl ?_
 repeat' (first | refine y1 sg ?_ | refine y3 ?_ | refine y7 sg H ?_ | (refine y11 sg H ?_; intro w H) | (refine z14 sg H ?_; intro b w H) | (have hp := H.perm (zt M2 G); refine zi sg 1 1 (M := M2) hp rfl rfl rfl rfl rfl rfl rfl rfl rfl rfl rfl hO (zk hp.mem (List.mem_append_right _ (List.Mem.head _))) rfl (zAh rfl) (by unfold maxLen; omega) (by omega) ?_; clear hp hO; intro a cap M2 w hO H; replace H := (H.perm (zt M2 G).symm).sub (List.sublist_cons_self _ _)) | (with_reducible first | apply zB | apply zD | apply zC | apply zE | apply zL | apply zG | apply zDL) | refine zA ?_ | refine y24 ?_ | refine y21 ?_ | refine y22 ?_ | fail)
 exact zu (vs := []) trivial H ⟨rfl, _, rfl, Wr.mk hO (by rw [← zEU]; simp [wrB, w8, zIJ, be4]; repeat (first | exact rfl | refine ⟨rfl, ?_⟩)) (by simp [be4])⟩
theorem zNJ {w0 w : World} {M G : zI} {pw : Nat} {l : List Nat} {q : Int} (n : Nat) (hq : q = (n : Int)) (H : St w0 (M ++ G) w) (hM : Wr M pw l) (hl : l.length ≤ 70368744177664) :
  Calls Tryz.prog 113 [ptr pw, .int .u64 q, .int .i64 8].toArray w (zf (WrR G pw (l ++ be8 n)) w0) := by
 subst hq
 obtain ⟨a, cap, M2, rfl, hO⟩ := hM
 replace H : St w0 (cb pw [.slice a l.length cap] 90 :: (M2 ++ G)) w := H
 refine enter [] Tryz.func113 rfl Tryz.ntmps113 rfl rfl ?_
 repeat' (first | refine y1 sg ?_ | refine y3 ?_ | refine y7 sg H ?_ | (refine y11 sg H ?_; intro w H) | (refine z14 sg H ?_; intro b w H) | (have hp := H.perm (zt M2 G); refine zi sg 1 1 (M := M2) hp rfl rfl rfl rfl rfl rfl rfl rfl rfl rfl rfl hO (zk hp.mem (List.mem_append_right _ (List.Mem.head _))) rfl (zAh rfl) (by unfold maxLen; omega) (by omega) ?_; clear hp hO; intro a cap M2 w hO H; replace H := (H.perm (zt M2 G).symm).sub (List.sublist_cons_self _ _)) | (with_reducible first | apply zB | apply zD | apply zC | apply zE | apply zL | apply zG | apply zDL) | refine zA ?_ | refine y24 ?_ | refine y21 ?_ | refine y22 ?_ | fail)
 exact zu (vs := []) trivial H ⟨rfl, _, rfl, Wr.mk hO (by rw [← zEU]; simp [wrB, w8, zIJ, be8]; repeat (first | exact rfl | refine ⟨rfl, ?_⟩)) (by simp [be8])⟩
theorem zBI {n : Nat} (h : n < 18446744073709551616) : IntKind.u64.wrap (n : Int) = (n : Int) := zMk (by omega) (by omega)
theorem zJV {w0 w : World} {M G : zI} {pw : Nat} {l : List Nat} {q : Int} (n : Nat) (hn : n < 256) (hq : q = (n : Int)) (H : St w0 (M ++ G) w) (hM : Wr M pw l) (hl : l.length ≤ 70368744177664) :
  Calls Tryz.prog 99 [ptr pw, .int .u8 q].toArray w (zf (WrR G pw (l ++ [n])) w0) := by
 subst hq
 refine enter [] Tryz.func99 rfl Tryz.ntmps99 rfl rfl ?_
 repeat' (first | refine y1 sg ?_ | refine y3 ?_ | (refine' y33 zJL ?_ ?_; rotate_left 2; exact zNH n (zBI (by omega)) H hM hl; rintro v N w ⟨rfl, M, rfl, hM⟩ H) | with_reducible apply zB | refine zA ?_ | fail)
 exact zu (vs := []) trivial H ⟨rfl, _, rfl, by rw [Nat.mod_eq_of_lt hn] at hM; exact hM⟩
theorem c_U32 {w0 w : World} {M G : zI} {pw : Nat} {l : List Nat} {q : Int} (n : Nat) (hn : n < 4294967296) (hq : q = (n : Int)) (H : St w0 (M ++ G) w) (hM : Wr M pw l) (hl : l.length ≤ 70368744177664) :
  Calls Tryz.prog 41 [ptr pw, .int .u32 q].toArray w (zf (WrR G pw (l ++ be4 n)) w0) := by
 subst hq
 refine enter [] Tryz.func41 rfl Tryz.ntmps41 rfl rfl ?_
 repeat' (first | refine y1 sg ?_ | refine y3 ?_ | (refine' y33 zJL ?_ ?_; rotate_left 2; exact zNI n (zBI (by omega)) H hM hl; rintro v N w ⟨rfl, M, rfl, hM⟩ H) | with_reducible apply zB | refine zA ?_ | fail)
 exact zu (vs := []) trivial H ⟨rfl, _, rfl, hM⟩
theorem c_U64 {w0 w : World} {M G : zI} {pw : Nat} {l : List Nat} {q : Int} (n : Nat) (hq : q = (n : Int)) (H : St w0 (M ++ G) w) (hM : Wr M pw l) (hl : l.length ≤ 70368744177664) :
  Calls Tryz.prog 40 [ptr pw, .int .u64 q].toArray w (zf (WrR G pw (l ++ be8 n)) w0) := by
 subst hq
 refine enter [] Tryz.func40 rfl Tryz.ntmps40 rfl rfl ?_
 repeat' (first | refine y1 sg ?_ | refine y3 ?_ | (refine' y33 zJL ?_ ?_; rotate_left 2; exact zNJ n rfl H hM hl; rintro v N w ⟨rfl, M, rfl, hM⟩ H) | with_reducible apply zB | refine zA ?_ | fail)
 exact zu (vs := []) trivial H ⟨rfl, _, rfl, hM⟩
def short (n : Nat) : List Nat := if h : n < 128 then [n] else (n % 128 + 128) :: short (n / 128)
termination_by n
decreasing_by omega
theorem zAP {n : Nat} (h : n < 128) : short n = [n] := by rw [short, dif_pos h]
theorem zA0 {n : Nat} (h : ¬ n < 128) : short n = (n % 128 + 128) :: short (n / 128) := by rw [short, dif_neg h]
theorem or128 (n : Nat) : IntKind.u8.wrap ((BitVec.ofInt IntKind.u8.bits (IntKind.u8.wrap (n : Int)) ||| BitVec.ofInt IntKind.u8.bits 128).toNat : Int) = ((n % 128 + 128 : Nat) : Int) := by
 rw [w8, w8]
 congr 1
 have h1 : (BitVec.ofInt IntKind.u8.bits ((n % 256 : Nat) : Int)) = BitVec.ofNat 8 (n % 256) := by
  apply BitVec.eq_of_toNat_eq
  simp [IntKind.bits]
  omega
 have h2 : (BitVec.ofInt IntKind.u8.bits 128) = BitVec.ofNat 8 128 := rfl
 rw [h1, h2]
 have : ∀ x : Fin 256, (BitVec.ofNat 8 x.1 ||| BitVec.ofNat 8 128).toNat % 256 = x.1 % 128 + 128 := by decide +kernel
 have h3 := this ⟨n % 256, by omega⟩
 refine Eq.trans h3 ?_
 simp only
 omega
theorem zGq : ∀ (k n : Nat), n < 128 ^ (k + 1) → (short n).length ≤ k + 1
 | 0, n, h => by rw [zAP (by simpa using h)]; simp
 | k + 1, n, h => by
   by_cases g : n < 128
   ·rw [zAP g]; simp
   ·rw [zA0 g, List.length_cons]
    have := zGq k (n / 128) (by rw [Nat.div_lt_iff_lt_mul (by decide)]; rw [Nat.pow_succ] at h; exact h)
    omega
theorem zl {n : Nat} (h : n < 18446744073709551616) : (short n).length ≤ 10 := zGq 9 n (by rw [show 128 ^ (9 + 1) = 1180591620717411303424 from by decide]; omega)
theorem zBc {w0 w : World} {M G : zI} {pw : Nat} {l : List Nat} {q : Int} (n : Nat) (hn : n < 18446744073709551616) (hq : q = (n : Int)) (H : St w0 (M ++ G) w) (hM : Wr M pw l) (hl : l.length ≤ 35184372088832) :
  Calls Tryz.prog 186 [ptr pw, .int .u64 q].toArray w (zf (WrR G pw (l ++ short n)) w0) := by
 subst hq
 have h10 := zl hn
 refine enter [] Tryz.func186 rfl Tryz.ntmps186 rfl rfl ?_
 repeat' (first | (with_reducible first | apply zC | apply zE) | fail)
 refine zK [(1, 1), (4, 12)] (fun x : Nat × List Nat × zI => [(1, .int .u64 (x.1 : Int))]) (fun x w => St w0 (x.2.2 ++ G) w ∧ Wr x.2.2 pw x.2.1 ∧ x.1 ≤ n ∧ x.2.1 ++ short x.1 = l ++ short n) (fun x => x.1) (n, l, M) ⟨rfl, trivial⟩ ⟨H, hM, Nat.le_refl _, rfl⟩ ?_
 clear H hM
 rintro ⟨k, lk, M⟩ gh w ⟨H, hM, hkn, he⟩
 simp only at H hM hkn he ⊢
 have hb : lk.length + (short k).length = l.length + (short n).length := by rw [← List.length_append, he, List.length_append]
 repeat' (first | refine y1 sg ?_ | (with_reducible first | apply zB | apply zD | apply zC) | refine zA ?_ | fail)
 refine zM rfl (fun h => ?_) (fun h => ?_)
 ·have hge : ¬ k < 128 := by have := of_decide_eq_true h; omega
  clear h
  repeat' (first | refine y1 sg ?_ | refine y3 ?_ | (refine' y33 zFs ?_ ?_; rotate_left 2; exact zJV (k % 128 + 128) (by omega) (or128 k) H hM (by omega); rintro v N w ⟨rfl, M, rfl, hM⟩ H) | (with_reducible first | apply zB | apply zD | apply zC | apply zE | apply zG) | refine zA ?_ | fail)
  rw [zA0 hge] at he
  exact zJ (k / 128, lk ++ [k % 128 + 128], M) rfl ⟨congrArg (Value.int .u64) (zFv k 7), trivial⟩ ⟨H, hM, by simp only; omega, by rw [← he]; simp⟩ (by simp only; omega)
 ·have hlt : k < 128 := by have := of_decide_eq_false h; omega
  clear h
  rw [zAP hlt] at he
  repeat' (first | refine y1 sg ?_ | refine y3 ?_ | (refine' y33 zFs ?_ ?_; rotate_left 2; exact zJV k (by omega) (by rw [w8, Nat.mod_eq_of_lt (by omega)]) H hM (by omega); rintro v N w ⟨rfl, M, rfl, hM⟩ H) | (with_reducible first | apply zB | apply zL) | refine zA ?_ | fail)
  exact zu (vs := []) trivial H ⟨rfl, _, rfl, by rw [he] at hM; exact hM⟩
theorem zJW {w0 w : World} {M G : zI} {pw : Nat} {l : List Nat} (s : ByteArray) (hs : s.size ≤ 35184372088832) (H : St w0 (M ++ G) w) (hM : Wr M pw l) (hl : l.length ≤ 35184372088832) :
  Calls Tryz.prog 39 [ptr pw, .string s].toArray w (zf (WrR G pw (l ++ zN s)) w0) := by
 obtain ⟨a, cap, M2, rfl, hO⟩ := hM
 replace H : St w0 (cb pw [.slice a l.length cap] 90 :: (M2 ++ G)) w := H
 refine enter [] Tryz.func39 rfl Tryz.ntmps39 rfl rfl ?_
 repeat' (first | refine y1 sg ?_ | refine y3 ?_ | refine y7 sg H ?_ | (refine y11 sg H ?_; intro w H) | (have hp := H.perm (zAJ M2 G); refine OX.appendS sg (M := M2) hp rfl rfl rfl rfl rfl rfl rfl rfl rfl rfl rfl rfl rfl hO (by omega) ?_; clear hp hO; intro a cap M2 w hO H; replace H := H.perm (zAJ M2 G).symm) | (with_reducible first | apply zB | apply zD | apply zC) | refine zA ?_ | refine y21 ?_ | fail)
 exact zu (vs := []) trivial H ⟨rfl, _, rfl, Wr.mk hO (zEU _ _) (by rw [List.length_append, zP])⟩
theorem zKs {w0 w : World} {M G : zI} {pw : Nat} {l : List Nat} (s : ByteArray) (hs : s.size ≤ 35184372088832) (H : St w0 (M ++ G) w) (hM : Wr M pw l) (hl : l.length ≤ 17592186044416) :
  Calls Tryz.prog 90 [ptr pw, .string s].toArray w (zf (WrR G pw (l ++ (short s.size ++ zN s))) w0) := by
 have h10 := zl (n := s.size) (by omega)
 refine enter [] Tryz.func90 rfl Tryz.ntmps90 rfl rfl ?_
 repeat' (first | refine y1 sg ?_ | refine y3 ?_ | (refine' y33 zB8 ?_ ?_; rotate_left 2; exact zBc s.size (by omega) (zBI (by omega)) H hM (by omega); rintro v N w ⟨rfl, M, rfl, hM⟩ H) | (refine' y33 zMp ?_ ?_; rotate_left 2; exact zJW s hs H hM (by rw [List.length_append]; omega); rintro v N w ⟨rfl, M, rfl, hM⟩ H) | (with_reducible first | apply zB | apply zD | apply zC) | refine zA ?_ | fail)
 exact zu (vs := []) trivial H ⟨rfl, _, rfl, by rw [← List.append_assoc]; exact hM⟩
theorem zNK (l : List Nat) : (List.range l.length).flatMap (u8c l) = wrB l := by
 have : ∀ k, k ≤ l.length → (List.range k).flatMap (u8c l) = wrB (l.take k) := by
  intro k
  induction k with
  | zero => intro _; rfl
  | succ k ih =>
    intro hk
    rw [List.range_succ, List.flatMap_append, ih (by omega), List.flatMap_singleton, List.take_succ_eq_append_getElem (by omega), ← zEU]
    congr 1
    simp [u8c, wrB, List.getElem?_eq_getElem (show k < l.length by omega)]
 rw [this _ (Nat.le_refl _), List.take_length]
theorem zFw {F : zI} {pw : Nat} {l : List Nat} {M : zI} (w0 : World) (hF : Mem w0 F) (hs : M ⊆ F) (hM : Wr M pw l) (hl : l.length ≤ 140737488355328) :
  Calls Tryz.prog 38 [ptr pw].toArray w0 (Ret (.string (bytesOf l)) w0) := by
 obtain ⟨a, cap, M2, rfl, hO⟩ := hM
 rw [← zNK] at hO
 obtain ⟨_, _, b, off, cs, T, fr, hB⟩ := Own.sl hO (F := F) (fun x hx => hs (List.Mem.tail _ hx)) (fun j _ => rfl) hl
 refine enter [.tmp 2] Tryz.func38 rfl Tryz.ntmps38 rfl rfl ?_
 have H := zH w0
 repeat' (first | refine y1 sg ?_ | refine y3 ?_ | refine z13 (zb sg rfl rfl (H.memF hF) (hs (List.Mem.head _)) rfl rfl) ?_ | (refine zY rfl rfl (zET sg hB rfl (H.memF hF) rfl rfl rfl rfl rfl rfl rfl rfl) ?_) | (with_reducible first | apply zB | apply zD | apply zC | apply zF | apply zG) | refine zA ?_ | refine y22 ?_ | fail)
 exact zQ rfl H.cl rfl
theorem zHY (l : List Nat) : (bytesOf l).size = l.length := by simp [bytesOf, ByteArray.size]
theorem zNL {F : zI} {pw : Nat} {l : List Nat} {M : zI} (w0 : World) (hF : Mem w0 F) (hs : M ⊆ F) (hM : Wr M pw l) (hl : l.length ≤ 140737488355328) :
  Calls Tryz.prog 37 [ptr pw].toArray w0 (Ret (.int .i64 l.length) w0) := by
 refine enter [.tmp 2] Tryz.func37 rfl Tryz.ntmps37 rfl rfl ?_
 have H := zH w0
 repeat' (first | refine y1 sg ?_ | refine y3 ?_ | (refine' y30 zMo ?_ ?_; rotate_left; exact zFw _ (H.memF hF) hs hM hl; intro w hcl; replace H := H.ext hcl; clear hcl) | (with_reducible first | apply zB | apply zD | apply zC | apply zF) | refine zA ?_ | fail)
 exact zQ rfl H.cl (congrArg (Value.int .i64) (by rw [zHY]))
end Go.Proofs.YtggolnppckpdlaaGreat
