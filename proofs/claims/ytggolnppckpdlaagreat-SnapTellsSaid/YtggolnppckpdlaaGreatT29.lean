/- Texts of ours, joined: the steps of the proof, or the claim's theorem. -/
import Derived.Test.YtggolnppckpdlaaGreatT04
import Derived.Test.YtggolnppckpdlaaGreatT05
import Derived.Test.YtggolnppckpdlaaGreatT06
import Derived.Test.YtggolnppckpdlaaGreatT09
import Derived.Test.YtggolnppckpdlaaGreatT13
import Derived.Test.YtggolnppckpdlaaGreatT14
import Derived.Test.YtggolnppckpdlaaGreatT18
import Derived.Test.YtggolnppckpdlaaGreatT26
import Derived.Test.YtggolnppckpdlaaGreatT28
set_option linter.unusedSectionVars false
set_option linter.unusedSimpArgs false
namespace Go.Sk
open Go Go.RowKit
theorem zPx (k : IntKind) (f : Nat → Int) (n : Nat) : nfL (zAQ k n f) = some (zAQ k n f) := by
 unfold zAQ
 induction (List.range n) with
 | nil => rfl
 | cons x t ih => rw [List.map_cons, nfL, ih]; rfl
theorem nf_arr (k : IntKind) (f : Nat → Int) (n : Nat) : nf (.agg (zAQ k n f).toArray) = some (.agg (zAQ k n f).toArray) := rfl
theorem zPy (k : IntKind) (f : Nat → Int) (n : Nat) : ∀ u ∈ zAQ k n f, u.oneCell' = true := by
 intro u hu
 obtain ⟨j, _, rfl⟩ := List.mem_map.1 hu
 rfl
section
variable {P : Program} {n : Nw} {ops : Array Oper} {Q : zAW} {o : Oper} {rest : List Oper} {L : List (Nat × Value)} {b0 : Env} {w : World} (S : Sig P)
theorem OX.boxA {w0 : World} {G : zI} {t : TypeId} {x : Operand} {d m : Nat} {q : IntKind} {f : Nat → Int} (H : St w0 G w) (hx : ev (ovl L b0) x = .agg (zAQ q m f).toArray) (k : ∀ b w', St w0 (cb b (zAQ q m f) t :: G) w' → OW P n ops Q rest (ovl ((d, .pointer (some ⟨b, 0, none⟩)) :: L) b0) w')
  (ho : o.op = .box t x := by exact rfl) (hd : o.dst = some d := by exact rfl) (hlt : Nat.blt d n.n = true := by exact rfl) : OX P n ops Q o rest (ovl L b0) w :=
 OX.box H ho hd hlt (by rw [hx]; exact nf_arr q f m) (show nfL _ = some (zAQ q m f) by show nfL (zAQ q m f).toArray.toList = _; rw [List.toList_toArray]; exact zPx _ _ _) fun b w' H' _ => k b w' H'
theorem OX.storeAW {w0 : World} {G G' : zI} {t : TypeId} {x y : Operand} {b m : Nat} {T : TypeId} {q : IntKind} {f g : Nat → Int} {ti : TI} (H : St w0 G w) (hu : Up b (.cells (zAQ q m f).toArray T (0, 0)) (.cells (zAQ q m g).toArray T (0, 0)) G G')
  (kk : ∀ w', St w0 G' w' → OW P n ops Q rest (ovl L b0) w') (hsz : ti.size = m) (ho : o.op = .store t x y := by exact rfl) (hd : o.dst = none := by exact rfl)
  (hx : ev (ovl L b0) x = .pointer (some ⟨b, 0, none⟩) := by exact rfl) (hy : ev (ovl L b0) y = .agg (zAQ q m g).toArray := by exact rfl) (ht : lk S.tab t = some ti := by exact rfl) : OX P n ops Q o rest (ovl L b0) w := by
 refine OX.storeX S H ho hd hx hy (vs := zAQ q m g) (cs := zAQ q m f) (T := T) rfl ht (by rw [zAm, hsz]) ?_ (by rw [zAm, zAm]; omega) (zPy _ _ _) kk
 have : wr (zAQ q m f) 0 (zAQ q m g) = zAQ q m g := by
  apply List.ext_getElem?
  intro i
  rw [zDh (by rw [zAm, zAm]; omega), zAm]
  rcases Nat.lt_or_ge i m with h | h
  ·rw [if_pos ⟨Nat.zero_le _, by omega⟩, Nat.sub_zero]
  ·rw [if_neg (by omega), List.getElem?_eq_none (by rw [zAm]; exact h), List.getElem?_eq_none (by rw [zAm]; exact h)]
 rw [this]; exact hu
end
end Go.Sk
set_option linter.unusedSimpArgs false
set_option linter.unusedVariables false
namespace Go.Proofs.YtggolnppckpdlaaGreat
open Go Go.Sk Go.RowKit
attribute [local irreducible] Go.Calls
def zBj (c : Nat) : Nat := if c % 2 = 1 then (c / 2) ^^^ 3988292384 else c / 2
def zAJ : Nat → Nat → Nat
 | 0, c => c
 | k + 1, c => zBj (zAJ k c)
def zFo (i : Nat) : Nat := zAJ 8 i
def zEW (c : Nat) (l : List Nat) : Nat := l.foldl (fun c b => zFo ((c % 256) ^^^ b) ^^^ (c / 256)) c
theorem lt32 {a b : Nat} (h1 : a < 4294967296) (h2 : b < 4294967296) : a ^^^ b < 4294967296 := Nat.xor_lt_two_pow (n := 32) h1 h2
theorem zIs {c : Nat} (h : c < 4294967296) : zBj c < 4294967296 := by
 unfold zBj
 split
 ·exact lt32 (by omega) (by decide)
 ·omega
theorem zFQ {c : Nat} (h : c < 4294967296) : ∀ k, zAJ k c < 4294967296
 | 0 => h
 | k + 1 => zIs (zFQ h k)
theorem zK8 {i : Nat} (h : i < 256) : zFo i < 4294967296 := zFQ (by omega) 8
theorem w32 (n : Nat) : IntKind.u32.wrap ((n : Nat) : Int) = ((n % 4294967296 : Nat) : Int) := by
 simp [IntKind.wrap, IntKind.bits, IntKind.signed]
theorem bvN (m n : Nat) (h : n < 2 ^ m) : (BitVec.ofInt m (n : Int)).toNat = n := by
 rw [BitVec.toNat_ofInt]
 have : ((n : Int) % ((2 ^ m : Nat) : Int)) = n := Int.emod_eq_of_lt (by omega) (by exact_mod_cast h)
 rw [this]; rfl
theorem zN5 (a b : Nat) (ha : a < 4294967296) (hb : b < 4294967296) : IntKind.u32.wrap ((BitVec.ofInt IntKind.u32.bits (a : Int) ^^^ BitVec.ofInt IntKind.u32.bits (b : Int)).toNat : Int) = ((a ^^^ b : Nat) : Int) := by
 have h : (BitVec.ofInt IntKind.u32.bits (a : Int) ^^^ BitVec.ofInt IntKind.u32.bits (b : Int)).toNat = a ^^^ b := by
  rw [BitVec.toNat_xor, bvN _ _ (by simpa [IntKind.bits] using ha), bvN _ _ (by simpa [IntKind.bits] using hb)]
 rw [h, w32, Nat.mod_eq_of_lt (lt32 ha hb)]
theorem xor8 (a b : Nat) (ha : a < 256) (hb : b < 256) : IntKind.u8.wrap ((BitVec.ofInt IntKind.u8.bits (a : Int) ^^^ BitVec.ofInt IntKind.u8.bits (b : Int)).toNat : Int) = ((a ^^^ b : Nat) : Int) := by
 have h : (BitVec.ofInt IntKind.u8.bits (a : Int) ^^^ BitVec.ofInt IntKind.u8.bits (b : Int)).toNat = a ^^^ b := by
  rw [BitVec.toNat_xor, bvN _ _ (by simpa [IntKind.bits] using ha), bvN _ _ (by simpa [IntKind.bits] using hb)]
 rw [h, w8, Nat.mod_eq_of_lt (Nat.xor_lt_two_pow (n := 8) ha hb)]
theorem zN6 (a : Nat) (ha : a < 4294967296) : IntKind.u32.wrap ((BitVec.ofInt IntKind.u32.bits (a : Int) &&& BitVec.ofInt IntKind.u32.bits (1 : Int)).toNat : Int) = ((a % 2 : Nat) : Int) := by
 have h : (BitVec.ofInt IntKind.u32.bits (a : Int) &&& BitVec.ofInt IntKind.u32.bits ((1 : Nat) : Int)).toNat = a % 2 := by
  rw [BitVec.toNat_and, bvN _ _ (by simpa [IntKind.bits] using ha), bvN _ _ (by decide), Nat.and_one_is_mod]
 exact (congrArg (fun z : Nat => IntKind.u32.wrap (z : Int)) h).trans (by rw [w32, Nat.mod_eq_of_lt (by omega)])
theorem c_step (c : Nat) (hc : c < 4294967296) (w : World) : Calls Tryz.prog 264 [.int .u32 (c : Int)].toArray w (Ret (.int .u32 (zBj c : Nat)) w) := by
 refine enter [.tmp 2] Tryz.func264 rfl Tryz.ntmps264 rfl rfl ?_
 have H := zE w
 repeat' (first | refine y1 sg ?_ | (with_reducible first | apply zB | apply zD | apply zC | apply zG | apply zH | apply zP) | refine zA ?_ | (refine y23 ?_ ?_; all_goals intro h) | fail)
 all_goals rw [zN6 c hc] at h
 ·have h1 : c % 2 = 1 := by have := eqI h; omega
  refine zO rfl H.cl (congrArg (Value.int .u32) ?_)
  have := zGG c 1
  rw [show min 1 IntKind.u32.bits = 1 from rfl, this, show (3988292384 : Int) = ((3988292384 : Nat) : Int) from rfl, zN5 _ _ (by omega) (by decide)]
  unfold zBj; rw [if_pos h1]
 ·have h1 : ¬ c % 2 = 1 := by have := neI h; omega
  refine zO rfl H.cl (congrArg (Value.int .u32) ?_)
  rw [show min 1 IntKind.u32.bits = 1 from rfl, zGG c 1]
  unfold zBj; rw [if_neg h1]
theorem zGd {k : IntKind} {n : Nat} {f g : Nat → Int} (h : ∀ j, j < n → f j = g j) : zAQ k n f = zAQ k n g := List.map_congr_left fun j hj => by rw [h j (List.mem_range.1 hj)]
theorem loadAv {P : Program} (S : Sig P) {o : Oper} {e : Env} {w : World} {M : zI} {t : TypeId} {x : Operand} {b n j : Nat} {T : TypeId} {k : IntKind} {f : Nat → Int} {v : Int} {ti : TI} (hv : f j = v) (hM : Mem w M) (hm : cb b (zAQ k n f) T ∈ M) (hj : j < n) (ho : o.op = .load t x)
  (hx : ev e x = .pointer (some ⟨b, 0 + j * 1, none⟩)) (ht : lk S.tab t = some ti) (hag : zBK ti.d = false) : Yq P o e w (.int k v) := hv ▸ Yq.loadA S hM hm hj ho hx ht hag
theorem loadWA {P : Program} (S : Sig P) {o : Oper} {e : Env} {w : World} {M : zI} {t : TypeId} {x : Operand} {b n : Nat} {T : TypeId} {k : IntKind} {f : Nat → Int} {A : List Value} {ti : TI} (hA : zAQ k n f = A) (hM : Mem w M) (hm : cb b A T ∈ M) (ho : o.op = .load t x)
  (hx : ev e x = .pointer (some ⟨b, 0, none⟩)) (ht : lk S.tab t = some ti) (hag : zBK ti.d = true) (hsz : ti.size = n) : Yq P o e w (.agg A.toArray) := by subst hA; exact Yq.loadW S hM hm ho hx ht hag hsz
theorem zPz {P : Program} {n : Nw} {ops : Array Oper} {Q : zAW} {o : Oper} {rest : List Oper} {L : List (Nat × Value)} {b0 : Env} {w : World} (S : Sig P) {w0 : World} {G G' : zI} {t : TypeId} {x y : Operand} {b m : Nat} {T : TypeId} {q : IntKind} {f g : Nat → Int} {A Z : List Value} {ti : TI} (hA : zAQ q m g = A) (hZ : zAQ q m f = Z) (H : St w0 G w) (hu : Up b (.cells Z.toArray T (0, 0)) (.cells A.toArray T (0, 0)) G G')
  (kk : ∀ w', St w0 G' w' → OW P n ops Q rest (ovl L b0) w') (hsz : ti.size = m) (ho : o.op = .store t x y) (hd : o.dst = none)
  (hx : ev (ovl L b0) x = .pointer (some ⟨b, 0, none⟩)) (hy : ev (ovl L b0) y = .agg A.toArray) (ht : lk S.tab t = some ti) : OX P n ops Q o rest (ovl L b0) w := by
 subst hA; subst hZ; exact OX.storeAW S H hu kk hsz ho hd hx hy ht
theorem rdvA {P : Program} (S : Sig P) {e : Env} {w : World} {M : zI} {t a : Tmp} {b n : Nat} {T : TypeId} {k : IntKind} {f : Nat → Int} {A : List Value} {ti : TI} (hA : zAQ k n f = A) (hx : e a = .pointer (some ⟨b, 0, none⟩)) (hM : Mem w M) (hm : cb b A T ∈ M) (ht : lk S.tab t = some ti) (hag : zBK ti.d = true) (hsz : ti.size = n) : rdv P e w (.cell a t) (.agg A.toArray) := by
 subst hA
 refine ⟨_, hx, zCW S hM hm ht ?_⟩
 unfold ldv
 rw [hag, hsz]
 have : Nat.ble (0 + n) (zAQ k n f).length = true := by rw [zAm]; simp
 rw [this]
 simp only [cond_true, List.drop_zero]
 rw [List.take_of_length_le (by rw [zAm]; exact Nat.le_refl _)]
def zC9 (k : Nat) (j : Nat) : Int := if j < k then ((zFo j : Nat) : Int) else 0
set_option maxHeartbeats 4000000 in
set_option maxRecDepth 20000 in
theorem zP0 (w0 : World) : Calls Tryz.prog 224 ([] : List Value).toArray w0 (Ret (.agg (zAQ .u32 256 fun j => ((zFo j : Nat) : Int)).toArray) w0) := by
 refine enter [.cell 0 248] Tryz.func224 rfl Tryz.ntmps224 rfl rfl ?_
 have H := zE w0
 repeat' (first | refine y1 sg ?_ | refine y3 ?_ | (refine y10 sg H ?_; intro b w H) | (with_reducible first | apply zB | apply zD | apply zC | apply zF) | refine zA ?_ | fail)
 rename_i b0 w1 H1
 clear H1
 have H2 : St w0 [cb b (zAQ .u32 256 (zC9 0)) 248, cb b0 (zAQ .u32 256 fun _ => 0) 248] w := by
  rw [zGd (f := zC9 0) (g := fun _ => 0) fun j hj => if_neg (Nat.not_lt_zero _)]
  exact H
 clear H
 refine zK [(2, 19)] (fun k : Nat => [(3, .int .i64 (k : Int))]) (fun k w => k ≤ 256 ∧ St w0 [cb b (zAQ .u32 256 (zC9 k)) 248, cb _ (zAQ .u32 256 fun _ => 0) 248] w) (fun k => 256 - k) 0 ⟨rfl, trivial⟩ ⟨Nat.zero_le _, H2⟩ ?_
 clear H2
 rintro k gh w ⟨hk, H⟩
 repeat' (first | refine y1 sg ?_ | (with_reducible first | apply zB | apply zD | apply zC) | refine zA ?_ | fail)
 refine zL rfl (fun h => ?_) (fun h => ?_)
 ·have hlt : k < 256 := by have := of_decide_eq_true h; omega
  clear h
  have hw : IntKind.u32.wrap (k : Int) = ((zAJ 0 k : Nat) : Int) := by rw [w32, Nat.mod_eq_of_lt (by omega)]; rfl
  repeat' (first | refine y1 sg ?_ | refine y3 ?_ | (refine zf rfl rfl (Yq.ixP sg (n := 256) (j := k) (Int.toNat_natCast _) (by omega) (by omega) rfl rfl rfl rfl rfl rfl) ?_) | (refine OX.storeA sg (m := 256) (j := k) (k := .u32) (f := zC9 k) (v := IntKind.u32.wrap (k : Int)) H hlt Up.here ?_; intro w H; rw [hw] at H) | (with_reducible first | apply zB | apply zD | apply zC | apply zF | apply zH) | refine zA ?_ | fail)
  refine zK [(10, 18)] (fun m : Nat => [(10, .int .i64 (m : Int))]) (fun m w => m ≤ 8 ∧ St w0 [cb b (zAQ .u32 256 (zER (zC9 k) k (zAJ m k : Nat))) 248, cb _ (zAQ .u32 256 fun _ => 0) 248] w) (fun m => 8 - m) 0 ⟨rfl, trivial⟩ ⟨Nat.zero_le _, H⟩ ?_
  clear H
  rintro m gh2 w ⟨hm, H⟩
  repeat' (first | refine y1 sg ?_ | (with_reducible first | apply zB | apply zD | apply zC) | refine zA ?_ | fail)
  refine zL rfl (fun h => ?_) (fun h => ?_)
  ·have hlm : m < 8 := by have := of_decide_eq_true h; omega
   clear h
   have hup : zER (zER (zC9 k) k (zAJ m k : Nat)) k ((zBj (zAJ m k) : Nat) : Int) = zER (zC9 k) k ((zAJ (m + 1) k : Nat) : Int) := by
    funext j; unfold zER; split <;> rfl
   repeat' (first | refine y1 sg ?_ | refine y3 ?_ | (refine zf rfl rfl (Yq.ixP sg (n := 256) (j := k) (Int.toNat_natCast _) (by omega) (by omega) rfl rfl rfl rfl rfl rfl) ?_) | (refine zf rfl rfl (loadAv sg (f := zER (zC9 k) k (zAJ m k : Nat)) (v := (zAJ m k : Nat)) (by simp [zER]) H.mem (List.Mem.head _) hlt rfl rfl rfl rfl) ?_) | (refine' y30 ent264 ?_ ?_; rotate_left; exact c_step (zAJ m k) (zFQ (by omega) m) _; intro w hcl; replace H := H.ext hcl; clear hcl) | (refine OX.storeA sg (m := 256) (j := k) (k := .u32) (f := zER (zC9 k) k (zAJ m k : Nat)) (v := (zBj (zAJ m k) : Nat)) H hlt Up.here ?_; intro w H; rw [hup] at H) | (with_reducible first | apply zB | apply zD | apply zC | apply zF | apply zH) | refine zA ?_ | fail)
   exact zM (m + 1) rfl ⟨zV (by omega), trivial⟩ ⟨hlm, H⟩ (by omega)
  ·obtain rfl : m = 8 := by have := of_decide_eq_false h; omega
   clear h
   repeat' (first | refine y1 sg ?_ | (with_reducible first | apply zB | apply zD | apply zN) | refine zA ?_ | fail)
   refine zAS (k + 1) rfl ⟨zV (by omega), trivial⟩ ⟨hlt, ?_⟩ (by omega)
   have he : zAQ .u32 256 (zER (zC9 k) k ((zAJ 8 k : Nat) : Int)) = zAQ .u32 256 (zC9 (k + 1)) := zGd fun j hj => by
    unfold zER zC9 zFo
    by_cases h1 : j = k
    ·subst h1; rw [if_pos rfl, if_pos (by omega)]
    ·rw [if_neg h1]
     by_cases h2 : j < k
     ·rw [if_pos h2, if_pos (by omega)]
     ·rw [if_neg h2, if_neg (by omega)]
   rw [he] at H
   exact H
 ·obtain rfl : k = 256 := by have := of_decide_eq_false h; omega
  clear h
  obtain ⟨A, hA⟩ : ∃ A, zAQ .u32 256 (zC9 256) = A := ⟨_, rfl⟩
  obtain ⟨Z, hZ⟩ : ∃ Z, zAQ .u32 256 (fun _ => 0) = Z := ⟨_, rfl⟩
  rw [hA, hZ] at H
  have hA2 : zAQ .u32 256 (fun j => ((zFo j : Nat) : Int)) = A := by
   rw [← hA]; exact zGd fun j hj => (if_pos hj).symm
  rw [hA2]
  repeat' (first | refine y3 ?_ | (refine zf rfl rfl (loadWA sg hA H.mem (List.Mem.head _) rfl rfl rfl rfl rfl) ?_) | (refine zPz sg hA hZ H (Up.there Up.here) ?_ rfl rfl rfl rfl rfl rfl; intro w H) | (with_reducible first | apply zB | apply zD | apply zC | apply zG | apply zN | apply zW) | refine zA ?_ | refine y24 ?_ | fail)
  exact zCj (vs := [_]) ⟨rdvA sg hA rfl H.mem (List.Mem.tail _ (List.Mem.head _)) rfl rfl rfl, trivial⟩ H.cl rfl
theorem boxWA {P : Program} {n : Nw} {ops : Array Oper} {Q : zAW} {o : Oper} {rest : List Oper} {L : List (Nat × Value)} {b0 : Env} {w : World} {w0 : World} {G : zI} {t : TypeId} {x : Operand} {d m : Nat} {q : IntKind} {f : Nat → Int} {A : List Value} (hA : zAQ q m f = A) (H : St w0 G w)
  (k : ∀ b w', St w0 (cb b A t :: G) w' → OW P n ops Q rest (ovl ((d, .pointer (some ⟨b, 0, none⟩)) :: L) b0) w') (hx : ev (ovl L b0) x = .agg A.toArray) (ho : o.op = .box t x) (hd : o.dst = some d) (hlt : Nat.blt d n.n = true) : OX P n ops Q o rest (ovl L b0) w := by
 subst hA; exact OX.boxA H hx k ho hd hlt
theorem loadEA {P : Program} (S : Sig P) {o : Oper} {e : Env} {w : World} {M : zI} {t : TypeId} {x : Operand} {b n j : Nat} {T : TypeId} {k : IntKind} {f : Nat → Int} {A : List Value} {ti : TI} (hA : zAQ k n f = A) (hM : Mem w M) (hm : cb b A T ∈ M) (hj : j < n) (ho : o.op = .load t x)
  (hx : ev e x = .pointer (some ⟨b, 0 + j * 1, none⟩)) (ht : lk S.tab t = some ti) (hag : zBK ti.d = false) : Yq P o e w (.int k (f j)) := by subst hA; exact Yq.loadA S hM hm hj ho hx ht hag
def tabA : List Value := zAQ .u32 256 fun j => ((zFo j : Nat) : Int)
theorem zH6 : ∀ (l : List Nat) (c : Nat), c < 4294967296 → (∀ b ∈ l, b < 256) → zEW c l < 4294967296
 | [], c, hc, _ => hc
 | b :: t, c, hc, hb => by
   show zEW (zFo ((c % 256) ^^^ b) ^^^ (c / 256)) t < _
   exact zH6 t _ (lt32 (zK8 (Nat.xor_lt_two_pow (n := 8) (by omega) (hb b (List.Mem.head _)))) (by omega)) fun x hx => hb x (List.Mem.tail _ hx)
theorem zL9 (c : Nat) (l : List Nat) (b : Nat) : zEW c (l ++ [b]) = zFo ((zEW c l % 256) ^^^ b) ^^^ (zEW c l / 256) := by simp [zEW]
theorem zK9 (s : ByteArray) : ∀ b ∈ zT s, b < 256 := by
 intro b hb
 obtain ⟨x, _, rfl⟩ := List.mem_map.1 hb
 exact x.toNat_lt
theorem zP1 (s : ByteArray) {k : Nat} (hk : k < s.size) : (zT s).getD k 0 = zAc s k := by
 have h : k < s.data.size := hk
 unfold zT zAc
 rw [List.getD_eq_getElem?_getD, List.getElem?_map, Array.getElem?_toList, Array.getElem?_eq_getElem h, Array.getD, dif_pos h]
 rfl
theorem zHR (s : ByteArray) {k : Nat} (hk : k < s.size) : (zT s).take (k + 1) = (zT s).take k ++ [zAc s k] := by
 have hl : k < (zT s).length := by rw [zU]; exact hk
 rw [List.take_succ_eq_append_getElem hl, ← zP1 s hk]
 simp [List.getElem?_eq_getElem hl]
set_option maxHeartbeats 2000000 in
theorem c_run (c : Nat) (s : ByteArray) (hc : c < 4294967296) (hs : s.size ≤ 140737488355328) (w0 : World) : Calls Tryz.prog 223 [.agg tabA.toArray, .int .u32 (c : Int), .string s].toArray w0 (Ret (.int .u32 (zEW c (zT s) : Nat)) w0) := by
 obtain ⟨A, hA⟩ : ∃ A, tabA = A := ⟨_, rfl⟩
 rw [hA]
 have hA2 : zAQ .u32 256 (fun j => ((zFo j : Nat) : Int)) = A := hA
 refine enter [.tmp 6] Tryz.func223 rfl Tryz.ntmps223 rfl rfl ?_
 have H := zE w0
 repeat' (first | refine y1 sg ?_ | refine y3 ?_ | (refine boxWA hA2 H ?_ rfl rfl rfl rfl; intro b w H) | (with_reducible first | apply zB | apply zD | apply zC | apply zF) | refine zA ?_ | fail)
 refine zK [(1, 1), (7, 7), (10, 24)] (fun k : Nat => [(10, .int .i64 (k : Int)), (1, .int .u32 (zEW c ((zT s).take k) : Nat))]) (fun k w => k ≤ s.size ∧ St w0 [cb b A 248] w) (fun k => s.size - k) 0 ⟨rfl, rfl, trivial⟩ ⟨Nat.zero_le _, H⟩ ?_
 clear H
 rintro k gh w ⟨hk, H⟩
 repeat' (first | refine y1 sg ?_ | (with_reducible first | apply zB | apply zD | apply zC) | refine zA ?_ | fail)
 refine zL rfl (fun h => ?_) (fun h => ?_)
 ·have hlt : k < s.size := by have := of_decide_eq_true h; omega
  clear h
  obtain ⟨d, hd⟩ : ∃ d, zEW c ((zT s).take k) = d := ⟨_, rfl⟩
  have hdl : d < 4294967296 := by rw [← hd]; exact zH6 _ _ hc fun x hx => zK9 s x (List.mem_of_mem_take hx)
  obtain ⟨x, hx⟩ : ∃ x, zAc s k = x := ⟨_, rfl⟩
  have hxl : x < 256 := by rw [← hx]; exact zCT s k
  have hj : (d % 256) ^^^ x < 256 := Nat.xor_lt_two_pow (n := 8) (by omega) hxl
  have h8 : IntKind.u8.wrap ((BitVec.ofInt IntKind.u8.bits (IntKind.u8.wrap (d : Int)) ^^^ BitVec.ofInt IntKind.u8.bits (zAc s k : Int)).toNat : Int) = (((d % 256) ^^^ x : Nat) : Int) := by rw [w8, hx]; exact xor8 (d % 256) x (Nat.mod_lt _ (by decide)) hxl
  rw [hd]
  repeat' (first | refine y1 sg ?_ | refine y3 ?_ | (refine zf rfl rfl (Yq.strIx sg rfl rfl rfl rfl rfl (Int.toNat_natCast _) (by omega) (by omega)) ?_) | (refine zf rfl rfl (Yq.ixP sg (n := 256) (j := (d % 256) ^^^ x) (by rw [h8]; exact Int.toNat_natCast _) (by rw [h8]; omega) (by rw [h8]; omega) rfl rfl rfl rfl rfl rfl) ?_) | (refine zf rfl rfl (loadEA sg hA2 H.mem (List.Mem.head _) hj rfl rfl rfl rfl) ?_) | (with_reducible first | apply zB | apply zD | apply zC | apply zF | apply zH) | refine zA ?_ | fail)
  have h32 : IntKind.u32.wrap ((BitVec.ofInt IntKind.u32.bits ((zFo ((d % 256) ^^^ x) : Nat) : Int) ^^^ BitVec.ofInt IntKind.u32.bits ((d : Int).fdiv (2 ^ min 8 IntKind.u32.bits))).toNat : Int) = ((zEW c ((zT s).take (k + 1)) : Nat) : Int) := by
   rw [show min 8 IntKind.u32.bits = 8 from rfl, zGG d 8, zN5 _ _ (zK8 hj) (by omega), zHR s hlt, zL9, hd, hx]
  exact zM (k + 1) rfl ⟨zV (by omega), congrArg (Value.int .u32) h32, trivial⟩ ⟨hlt, H⟩ (by omega)
 ·obtain rfl : k = s.size := by have := of_decide_eq_false h; omega
  repeat' (first | refine y1 sg ?_ | (with_reducible first | apply zB | apply zD | apply zC | apply zG | apply zN | apply zW) | refine zA ?_ | refine y24 ?_ | fail)
  exact zO rfl H.cl (congrArg (fun l => Value.int .u32 ((zEW c l : Nat) : Int)) (by rw [List.take_of_length_le (by rw [zU]; exact Nat.le_refl _)]))
attribute [local semireducible] Yq in
theorem Yq.not32 {P : Program} {o : Oper} {e : Env} {w : World} {t : TypeId} {x : Operand} {c : Nat} (hc : c < 4294967296) (ho : o.op = .unOp .xor t x) (hx : ev e x = .int .u32 (c : Int)) : Yq P o e w (.int .u32 ((4294967295 - c : Nat) : Int)) := by
 intro w' _
 have hb : (BitVec.ofInt IntKind.u32.bits (4294967295 : Int) ^^^ BitVec.ofInt IntKind.u32.bits (c : Int)).toNat = 4294967295 - c := by
  have h1 : (BitVec.ofInt IntKind.u32.bits (4294967295 : Int)) = BitVec.allOnes IntKind.u32.bits := by decide
  rw [h1, BitVec.allOnes_xor, BitVec.toNat_not, bvN _ _ (by simpa [IntKind.bits] using hc)]
  rfl
 have h2 : (Op.unary .xor (.int .u32 (c : Int))).run P w' = .ok (.int .u32 ((4294967295 - c : Nat) : Int)) w' := by
  show (Op.intBits .xor .u32 4294967295 (c : Int)).run P w' = _
  unfold Op.intBits
  simp only [hb, Sem.run_pure]
  rw [w32, Nat.mod_eq_of_lt (by omega)]
 simp only [execOp, ho, hx, Sem.run_bind, h2, Result.andThen_ok, Sem.run_pure]
def zJw (c : Nat) (l : List Nat) : Nat := 4294967295 - zEW (4294967295 - c) l
theorem c_cAdd (c : Nat) (s : ByteArray) (hc : c < 4294967296) (hs : s.size ≤ 140737488355328) (w0 : World) : Calls Tryz.prog 187 [.int .u32 (c : Int), .string s].toArray w0 (Ret (.int .u32 (zJw c (zT s) : Nat)) w0) := by
 have hr := fun w => c_run (4294967295 - c) s (by omega) hs w
 refine enter [.tmp 4] Tryz.func187 rfl Tryz.ntmps187 rfl rfl ?_
 have H := zE w0
 have hl : zEW (4294967295 - c) (zT s) < 4294967296 := zH6 _ _ (by omega) (zK9 s)
 repeat' (first | refine y1 sg ?_ | refine y3 ?_ | (refine' y30 ent224 ?_ ?_; rotate_left; exact zP0 _; intro w hcl; replace H := H.ext hcl; clear hcl) | (refine zf rfl rfl (Yq.not32 hc rfl rfl) ?_) | (refine' y30 ent223 ?_ ?_; rotate_left; exact hr _; intro w hcl; replace H := H.ext hcl; clear hcl) | (refine zf rfl rfl (Yq.not32 hl rfl rfl) ?_) | (with_reducible first | apply zB | apply zD | apply zC | apply zG) | refine zA ?_ | fail)
 exact zO rfl H.cl rfl
def zEJ (l : List Nat) : Nat := zJw 0 l
theorem c_cOf (s : ByteArray) (hs : s.size ≤ 140737488355328) (w0 : World) : Calls Tryz.prog 115 [.string s].toArray w0 (Ret (.int .u32 (zEJ (zT s) : Nat)) w0) := by
 refine enter [.tmp 2] Tryz.func115 rfl Tryz.ntmps115 rfl rfl ?_
 have H := zE w0
 repeat' (first | refine y1 sg ?_ | refine y3 ?_ | (refine' y30 ent187 ?_ ?_; rotate_left; exact c_cAdd 0 s (by decide) hs _; intro w hcl; replace H := H.ext hcl; clear hcl) | (with_reducible first | apply zB | apply zD | apply zC | apply zG) | refine zA ?_ | fail)
 exact zO rfl H.cl rfl
def le4 (n : Nat) : List Nat := [n % 256, n / 2 ^ 8 % 256, n / 2 ^ 16 % 256, n / 2 ^ 24 % 256]
theorem zN7 (n : Nat) (w0 : World) : Calls Tryz.prog 114 [.int .u32 (n : Int)].toArray w0 (zy (fun M v => ∃ b, M = [cb b (wrB (le4 n)) 5] ∧ v = .slice (some ⟨b, 0, none⟩) 4 4) w0) := by
 refine enter [.tmp 2] Tryz.func114 rfl Tryz.ntmps114 rfl rfl ?_
 have H := zE w0
 repeat' (first | refine y1 sg ?_ | refine y3 ?_ | (refine z14 sg H ?_; intro b w H) | (with_reducible first | apply zB | apply zD | apply zC | apply zG) | refine zA ?_ | fail)
 have e : [Value.int .u8 (IntKind.u8.wrap (n : Int)), Value.int .u8 (IntKind.u8.wrap ((n : Int).fdiv (2 ^ min 8 IntKind.u32.bits))), Value.int .u8 (IntKind.u8.wrap ((n : Int).fdiv (2 ^ min 16 IntKind.u32.bits))), Value.int .u8 (IntKind.u8.wrap ((n : Int).fdiv (2 ^ min 24 IntKind.u32.bits)))] = wrB (le4 n) := by
  rw [show min 8 IntKind.u32.bits = 8 from rfl, show min 16 IntKind.u32.bits = 16 from rfl, show min 24 IntKind.u32.bits = 24 from rfl, zIY, zIY, zIY, w8]
  rfl
 rw [e] at H
 exact zEA rfl H ⟨_, rfl, rfl⟩
end Go.Proofs.YtggolnppckpdlaaGreat
set_option linter.unusedSimpArgs false
set_option linter.unusedVariables false
namespace Go.Proofs.YtggolnppckpdlaaGreat
open Go Go.Sk Go.RowKit
attribute [local irreducible] Go.Calls
def zA1 (l : List Nat) : List Nat := l ++ le4 (zEJ l)
theorem zP2 (n : Nat) : Byt (le4 n) := by
 intro b hb
 simp only [le4, List.mem_cons, List.not_mem_nil, or_false] at hb
 omega
theorem zE7 (n : Nat) : (le4 n).length = 4 := rfl
theorem zN8 (s : ByteArray) (hs : s.size ≤ 140737488355000) (w0 : World) : Calls Tryz.prog 42 [.string s].toArray w0 (Ret (.string (bytesOf (zA1 (zT s)))) w0) := by
 refine enter [.tmp 2] Tryz.func42 rfl Tryz.ntmps42 rfl rfl ?_
 have H := zE w0
 repeat' (first | refine y1 sg ?_ | refine y3 ?_ | (refine' y30 ent115 ?_ ?_; rotate_left; exact c_cOf s (by omega) _; intro w hcl; replace H := H.ext hcl; clear hcl) | (refine' y32 ent114 ?_ ?_; rotate_left; exact zN7 (zEJ (zT s)) _; intro v M w hR hS; replace H := H.addR hS; clear hS; (try simp only [List.cons_append, List.nil_append] at H); obtain ⟨b, rfl, rfl⟩ := hR) | (with_reducible first | apply zB | apply zD | apply zC) | refine zA ?_ | fail)
 have hB : SlB [cb b (wrB (le4 (zEJ (zT s)))) 5] 1 (some ⟨b, 0, none⟩) 4 b 0 (wrB (le4 (zEJ (zT s)))) 5 (0, 0) (u8c (le4 (zEJ (zT s)))) := fun _ => ⟨rfl, List.Mem.head _, fun j hj => by
  match j, hj with
  | 0, _ => exact ⟨by rw [zEi, zE7]; omega, rfl⟩
  | 1, _ => exact ⟨by rw [zEi, zE7]; omega, rfl⟩
  | 2, _ => exact ⟨by rw [zEi, zE7]; omega, rfl⟩
  | 3, _ => exact ⟨by rw [zEi, zE7]; omega, rfl⟩⟩
 repeat' (first | refine y1 sg ?_ | refine y3 ?_ | (refine zf rfl rfl (zBP sg hB rfl H.mem rfl rfl rfl rfl rfl rfl rfl rfl) ?_) | (refine zf rfl rfl (zAA rfl rfl rfl (by rw [zj, zE7]; omega)) ?_) | (with_reducible first | apply zB | apply zD | apply zG) | fail)
 exact zO rfl H.cl (congrArg Value.string (by unfold zA1; rw [← zIW, zCR]))
def zBb (l : List Nat) : List Nat × Int := if l.length < 4 then ([], 8) else if zA1 (l.take (l.length - 4)) = l then (l.take (l.length - 4), 0) else ([], 42)
theorem zHS {l : List Nat} (h : Byt l) : Byt (zA1 l) := h.app (zP2 _)
theorem zP3 (s : ByteArray) (hs : s.size ≤ 140737488355000) (w0 : World) : Calls Tryz.prog 44 [.string s].toArray w0 (Ret (.tuple #[.string (bytesOf (zBb (zT s)).1), .int .i64 (zBb (zT s)).2]) w0) := by
 have hl := zU s
 by_cases h4 : s.size < 4
 ·have hlt : decide ((s.size : Int) < 4) = true := decide_eq_true (by omega)
  refine enter [.tmp 2, .tmp 3] Tryz.func44 rfl Tryz.ntmps44 rfl rfl ?_
  have H := zE w0
  repeat' (first | refine y1 sg ?_ | (with_reducible first | apply zB | apply zD | apply zC | apply zG | apply zP) | refine zA ?_ | (refine y23 ?_ ?_; all_goals (intro h; try (exfalso; first | ((rw [hlt] at h; cases h); done)))) | fail)
  exact zCC rfl rfl H.cl (by unfold zBb; rw [if_pos (by omega)]; rfl)
 ·have hlt : decide ((s.size : Int) < 4) = false := decide_eq_false (by omega)
  have hsz : (s.extract 0 (s.size - 4)).size = s.size - 4 := by rw [← zU, zAG]; simp; omega
  have hw : IntKind.i64.wrap ((s.size : Int) - 4) = ((s.size - 4 : Nat) : Int) := by rw [w64 (by omega) (by omega)]; omega
  have hS := fun w => zN8 (s.extract 0 (s.size - 4)) (by omega) w
  have hex : zT (s.extract 0 (s.size - 4)) = (zT s).take ((zT s).length - 4) := by rw [zAG, hl]; simp
  rw [hex] at hS
  have hb : Byt (zA1 ((zT s).take ((zT s).length - 4))) := zHS ((zBM s).take _)
  refine enter [.tmp 2, .tmp 3] Tryz.func44 rfl Tryz.ntmps44 rfl rfl ?_
  have H := zE w0
  repeat' (first | refine y1 sg ?_ | refine y3 ?_ | (refine zf rfl rfl (Yq.strHi sg (j := s.size - 4) rfl rfl rfl rfl rfl (by rw [hw]; exact Int.toNat_natCast _) (by rw [hw]; omega) (by rw [hw]; omega)) ?_) | (refine' y30 ent42 ?_ ?_; rotate_left; exact hS _; intro w hcl; replace H := H.ext hcl; clear hcl) | (with_reducible first | apply zB | apply zD | apply zC | apply zG | apply zH | apply zP) | refine zA ?_ | (refine y23 ?_ ?_; all_goals (intro h; try (exfalso; first | ((rw [hlt] at h; cases h); done)))) | fail)
  all_goals rw [zGF, zu hb] at h
  ·have hne : ¬ zA1 ((zT s).take ((zT s).length - 4)) = zT s := by simpa using h
   exact zCC rfl rfl H.cl (by unfold zBb; rw [if_neg (by omega), if_neg hne]; rfl)
  ·have heq : zA1 ((zT s).take ((zT s).length - 4)) = zT s := by simpa using h
   exact zCC rfl rfl H.cl (by unfold zBb; rw [if_neg (by omega), if_pos heq, ← hex, zCR])
end Go.Proofs.YtggolnppckpdlaaGreat
set_option linter.unusedSimpArgs false
set_option linter.unusedVariables false
namespace Go.Proofs.YtggolnppckpdlaaGreat
open Go Go.Sk Go.RowKit
attribute [local irreducible] Go.Calls
structure SnW (s : Sta) (v : Vws) : Prop where
 sw : StaW s
 sb : zC8 s = true → StaB s
 vb : VwB v
 lw : ∀ k, k < v.lins.length → (ln_ v.lins k).wf
def zBs (s : Sta) (v : Vws) : List Nat := zAz s ++ zBA v
def zAj (s : Sta) (v : Vws) : List Nat × Int := if zC8 s && zBU v then (if (zBs s v).length > 1048556 then ([], 40) else (zBs s v, 0)) else ([], 4)
theorem zGe {s : Sta} (hb : StaB s) : (zAz s).length ≤ 2100000000 := by
 obtain ⟨b1, b1n, b2, b2n, b3, b4, b4n, b5, b5n⟩ := hb
 have n0 := nb [s.clock, s.fee, s.nextO, s.nextA]
 simp only [List.length_cons, List.length_nil] at n0
 have n1 := zAa b1 fun k hk => zEs (b1n k hk)
 have n2 := zAa b2 fun k hk => zEt (b2n k hk)
 have n3 := zAa b3 fun k _ => zDp (rw_ s.rows k)
 have n4 := zAa b4 fun k _ => zEu (od_ s.orders k)
 have n5 := zAa b5 fun k hk => zGP (b5n k hk)
 unfold zAz
 simp only [List.length_append]
 omega
theorem zGf {v : Vws} (hb : VwB v) : (zBA v).length ≤ 10000000 := by
 obtain ⟨b1, b1n, b2, b3, b4, b4n⟩ := hb
 have n1 := zAa b1 fun k _ => zEv (op_ v.opn k)
 have n2 := zAa b2 fun k _ => zEw (lt_ v.lots k)
 have n3 := zAa b3 fun k _ => zEx (ps_ v.poss k)
 have n4 := zAa b4 fun k _ => zGQ (ln_ v.lins k)
 unfold zBA
 simp only [List.length_append]
 omega
theorem Wr.first (pw : Nat) : Wr [cb pw [.slice none 0 0] 90] pw [] := ⟨none, 0, [], rfl, zAL _ _ _⟩
theorem zFR {a b : Nat × Obj} (M : zI) : (a :: b :: M).Perm (M ++ [a, b]) := List.perm_append_comm (l₁ := [a, b]) (l₂ := M)
set_option maxHeartbeats 2000000 in
theorem zH7 {F : zI} (s : Sta) (p : SPt) (v : Vws) (q : VPt) (hW : SnW s v) (w0 : World) (hF : Mem w0 F) (hs : StaM F s p) (hv : VwM F v q) :
  Calls Tryz.prog 10 [.agg (s.cells p).toArray, .agg (v.cells q).toArray].toArray w0 (Ret (.tuple #[.string (bytesOf (zAj s v).1), .int .i64 (zAj s v).2]) w0) := by
 have hl2 := zGf hW.vb
 have hl : (zBs s v).length = (zAz s).length + (zBA v).length := List.length_append
 have hmay := fun w hM => zK7 s p hW.sw w hM hs
 have hvm := fun w hM => zN4 v q hW.lw w hM hv
 by_cases h1 : (zC8 s && zBU v) = true
 ·obtain ⟨ha, hb⟩ : zC8 s = true ∧ zBU v = true := by simpa using h1
  have hsb := hW.sb ha
  have hl1 := zGe hsb
  rw [ha] at hmay
  rw [hb] at hvm
  by_cases h2 : (zBs s v).length > 1048556
  ·have hd : decide (((([] ++ zAz s) ++ zBA v).length : Int) > 1048556) = true := decide_eq_true (by rw [List.nil_append, ← zBs]; omega)
   refine enter [.tmp 4, .tmp 5] Tryz.func10 rfl Tryz.ntmps10 rfl rfl ?_
   have H := zE w0
   repeat' (first | refine y1 sg ?_ | refine y3 ?_ | refine y5 sg ?_ | refine y7 sg H ?_ | (refine y9 H ?_; intro b w H) | (refine' y30 zKl ?_ ?_; rotate_left; exact hmay _ (H.memF hF); intro w hcl; replace H := H.ext hcl; clear hcl) | (refine' y30 zKm ?_ ?_; rotate_left; exact hvm _ (H.memF hF); intro w hcl; replace H := H.ext hcl; clear hcl) | (refine' y33 ent35 ?_ ?_; rotate_left 2; exact c_put (M := [_]) (l := []) s p hF hs hsb H (Wr.first _) (by decide); rintro v N w ⟨rfl, M, rfl, hM⟩ H; replace H := H.perm (zFR M).symm) | (refine' y33 ent36 ?_ ?_; rotate_left 2; exact zHJ v q hF hv hW.vb (H.perm (zFR M)) hM (by rw [List.nil_append]; omega); rintro v N w ⟨rfl, M, rfl, hM⟩ H; replace H := H.perm (zFR M).symm) | (refine' y30 ent37 ?_ ?_; rotate_left; exact zNL _ H.mem (List.subset_append_right [_, _] _) hM (by rw [List.nil_append, List.length_append]; omega); intro w hcl; replace H := H.ext hcl; clear hcl) | refine y13 ?_ | (with_reducible first | apply zB | apply zD | apply zC | apply zG | apply zH | apply zP) | refine zA ?_ | refine y22 ?_ | (refine y23 ?_ ?_; all_goals (intro h; try (exfalso; first | ((rw [hd] at h; cases h); done)))) | fail)
   exact zCC rfl rfl H.cl (by unfold zAj; rw [if_pos h1, if_pos h2]; rfl)
  ·have hd : decide (((([] ++ zAz s) ++ zBA v).length : Int) > 1048556) = false := decide_eq_false (by rw [List.nil_append, ← zBs]; omega)
   refine enter [.tmp 4, .tmp 5] Tryz.func10 rfl Tryz.ntmps10 rfl rfl ?_
   have H := zE w0
   repeat' (first | refine y1 sg ?_ | refine y3 ?_ | refine y5 sg ?_ | refine y7 sg H ?_ | (refine y9 H ?_; intro b w H) | (refine' y30 zKl ?_ ?_; rotate_left; exact hmay _ (H.memF hF); intro w hcl; replace H := H.ext hcl; clear hcl) | (refine' y30 zKm ?_ ?_; rotate_left; exact hvm _ (H.memF hF); intro w hcl; replace H := H.ext hcl; clear hcl) | (refine' y33 ent35 ?_ ?_; rotate_left 2; exact c_put (M := [_]) (l := []) s p hF hs hsb H (Wr.first _) (by decide); rintro v N w ⟨rfl, M, rfl, hM⟩ H; replace H := H.perm (zFR M).symm) | (refine' y33 ent36 ?_ ?_; rotate_left 2; exact zHJ v q hF hv hW.vb (H.perm (zFR M)) hM (by rw [List.nil_append]; omega); rintro v N w ⟨rfl, M, rfl, hM⟩ H; replace H := H.perm (zFR M).symm) | (refine' y30 ent37 ?_ ?_; rotate_left; exact zNL _ H.mem (List.subset_append_right [_, _] _) hM (by rw [List.nil_append, List.length_append]; omega); intro w hcl; replace H := H.ext hcl; clear hcl) | (refine' y30 zMn ?_ ?_; rotate_left; exact zGH _ H.mem (List.subset_append_right [_, _] _) hM (by rw [List.nil_append, List.length_append]; omega); intro w hcl; replace H := H.ext hcl; clear hcl) | refine y13 ?_ | (with_reducible first | apply zB | apply zD | apply zC | apply zG | apply zH) | refine zA ?_ | refine y22 ?_ | (refine y23 ?_ ?_; all_goals (intro h; try (exfalso; first | ((rw [hd] at h; cases h); done)))) | fail)
   exact zCC rfl rfl H.cl (by unfold zAj; rw [if_pos h1, if_neg h2]; rfl)
 ·have e : zAj s v = ([], 4) := by unfold zAj; rw [if_neg h1]
  obtain ⟨ma, hma⟩ : ∃ b, zC8 s = b := ⟨_, rfl⟩
  obtain ⟨mb, hmb⟩ : ∃ b, zBU v = b := ⟨_, rfl⟩
  rw [hma] at hmay h1
  rw [hmb] at hvm h1
  refine enter [.tmp 4, .tmp 5] Tryz.func10 rfl Tryz.ntmps10 rfl rfl ?_
  have H := zE w0
  repeat' (first | refine y1 sg ?_ | refine y3 ?_ | refine y5 sg ?_ | refine y7 sg H ?_ | (refine y9 H ?_; intro b w H) | (refine' y30 zKl ?_ ?_; rotate_left; exact hmay _ (H.memF hF); intro w hcl; replace H := H.ext hcl; clear hcl) | (refine' y30 zKm ?_ ?_; rotate_left; exact hvm _ (H.memF hF); intro w hcl; replace H := H.ext hcl; clear hcl) | refine y13 ?_ | refine y14 ?_ | (refine y17 ?_ ?_; all_goals (intro h; try (exfalso; first | ((subst_vars; simp_all; done); done)))) | (with_reducible first | apply zB | apply zD | apply zC | apply zG | apply zP) | refine zA ?_ | refine y21 ?_ | (refine y23 ?_ ?_; all_goals (intro h; try (exfalso; first | ((subst_vars; simp_all; done); done)))) | fail)
  all_goals first
   | exact zCC rfl rfl H.cl (by rw [e]; rfl)
   | (exfalso; simp_all)
def zBV (seq : Nat) (b : List Nat) : List Nat := [115, 110, 112, 49] ++ (be8 seq ++ (be4 b.length ++ b))
def zCh (seq : Int) (s : Sta) (v : Vws) : List Nat × Int := if seq < 0 ∨ seq > 1048576 then ([], 1) else if (zAj s v).2 = 0 then (zA1 (zBV seq.toNat (zAj s v).1), 0) else ([], (zAj s v).2)
theorem zHT (s : Sta) (v : Vws) : (zAj s v).1.length ≤ 1048556 := by
 unfold zAj; repeat' split
 all_goals first | (simp only [List.length_nil]; omega) | (simp only; omega)
theorem zD5 : ∀ n, Byt (short n) := by
 intro n
 induction n using Nat.strongRecOn with
 | ind n ih =>
   by_cases h : n < 128
   ·rw [zAO h]; intro b hb; simp at hb; omega
   ·rw [zAw h]
    intro b hb
    rcases List.mem_cons.1 hb with rfl | hb
    ·omega
    ·exact ih _ (by omega) b hb
theorem zAk (xs : List Int) : Byt (zX xs) := by
 intro b hb
 obtain ⟨n, _, h⟩ := List.mem_flatMap.1 hb
 exact zD5 _ b h
theorem zFS (b : Bool) : Byt (zk b) := by intro x hx; cases b <;> simp [zk] at hx <;> omega
theorem zBF {n : Nat} {ob : Nat → List Nat} (h : ∀ k, k < n → Byt (ob k)) : Byt (zAV n ob) := by
 refine (zD5 _).app ?_
 intro b hb
 obtain ⟨k, hk, h1⟩ := List.mem_flatMap.1 hb
 exact h k (List.mem_range.1 hk) b h1
theorem zGg {x : Int} (h : 0 ≤ x ∧ x < 256) : Byt [x.toNat] := by intro b hb; simp at hb; omega
theorem zJx {s : Sta} (hb : StaB s) : Byt (zAz s) := by
 obtain ⟨b1, b1n, b2, b2n, b3, b4, b4n, b5, b5n⟩ := hb
 refine (zAk _).app ((zBF fun k hk => ?_).app ((zBF fun k hk => ?_).app ((zBF fun k hk => ?_).app ((zBF fun k hk => ?_).app (zBF fun k hk => ?_)))))
 ·exact ((zD5 _).app (zBM _)).app (zFS _)
 ·exact ((zD5 _).app (zBM _)).app ((zAk _).app (zFS _))
 ·exact zAk _
 ·exact (zAk _).app ((zGg (b4n k hk)).app (zAk _))
 ·exact (zAk _).app ((zFS _).app ((zAk _).app (zBF fun k hk => zAk _)))
theorem zJy {v : Vws} (hb : VwB v) : Byt (zBA v) := by
 obtain ⟨b1, b1n, b2, b3, b4, b4n⟩ := hb
 refine (zBF fun k hk => ?_).app ((zBF fun k hk => ?_).app ((zBF fun k hk => ?_).app (zBF fun k hk => ?_)))
 ·exact (zAk _).app ((zGg (b1n k hk)).app (zAk _))
 ·exact zAk _
 ·exact zAk _
 ·exact (zAk _).app ((zGg (b4n k hk)).app (zAk _))
theorem zMA {s : Sta} {v : Vws} (hb : StaB s) (hv : VwB v) : Byt (zBs s v) := (zJx hb).app (zJy hv)
theorem zHU {s : Sta} {v : Vws} (hb : zC8 s = true → StaB s) (hv : VwB v) : Byt (zAj s v).1 := by
 have h0 : Byt [] := fun b hb => by cases hb
 unfold zAj
 by_cases h : (zC8 s && zBU v) = true
 ·rw [if_pos h]
  split
  ·exact h0
  ·exact zMA (hb (by simp at h; exact h.1)) hv
 ·rw [if_neg h]; exact h0
theorem zP4 (n : Nat) : Byt (be4 n) := by
 intro b hb
 simp only [be4, List.mem_cons, List.not_mem_nil, or_false] at hb; omega
theorem zP5 (n : Nat) : Byt (be8 n) := by
 intro b hb
 simp only [be8, List.mem_cons, List.not_mem_nil, or_false] at hb; omega
theorem zFT {n : Nat} {b : List Nat} (h : Byt b) : Byt (zBV n b) := by
 refine Byt.app (fun b hb => ?_) ((zP5 _).app ((zP4 _).app h))
 simp only [List.mem_cons, List.not_mem_nil, or_false] at hb; omega
theorem zFU (n : Nat) (b : List Nat) : (zBV n b).length = 16 + b.length := by
 unfold zBV
 simp only [List.length_append, List.length_cons, List.length_nil, show (be8 n).length = 8 from rfl, show (be4 b.length).length = 4 from rfl]
 omega
set_option maxHeartbeats 2000000 in
theorem zN9 {F : zI} (seq : Int) (s : Sta) (p : SPt) (v : Vws) (q : VPt) (hW : SnW s v) (w0 : World) (hF : Mem w0 F) (hs : StaM F s p) (hv : VwM F v q) :
  Calls Tryz.prog 11 [.int .i64 seq, .agg (s.cells p).toArray, .agg (v.cells q).toArray].toArray w0 (Ret (.tuple #[.string (bytesOf (zCh seq s v).1), .int .i64 (zCh seq s v).2]) w0) := by
 have hB := fun w hM => zH7 s p v q hW w hM hs hv
 by_cases h1 : seq < 0 ∨ seq > 1048576
 ·refine enter [.tmp 6, .tmp 7] Tryz.func11 rfl Tryz.ntmps11 rfl rfl ?_
  have H := zE w0
  repeat' (first | refine y1 sg ?_ | refine y3 ?_ | refine y5 sg ?_ | (refine y9 H ?_; intro b w H) | refine y13 ?_ | refine y14 ?_ | (refine y17 ?_ ?_; all_goals (intro h; try (exfalso; first | ((simp only [decide_eq_true_eq, decide_eq_false_iff_not, gt_iff_lt] at *; omega); done)))) | (with_reducible first | apply zB | apply zD | apply zC | apply zG | apply zP) | refine zA ?_ | refine y21 ?_ | (refine y23 ?_ ?_; all_goals (intro h; try (exfalso; first | ((simp only [decide_eq_true_eq, decide_eq_false_iff_not, gt_iff_lt] at *; omega); done)))) | fail)
  all_goals exact zCC rfl rfl H.cl (by unfold zCh; rw [if_pos h1]; rfl)
 ·obtain ⟨n, rfl⟩ : ∃ n : Nat, seq = (n : Int) := ⟨seq.toNat, by omega⟩
  have hlen := zHT s v
  have hbt := zHU hW.sb hW.vb
  have hF1 : zCh (n : Int) s v = if (zAj s v).2 = 0 then (zA1 (zBV n (zAj s v).1), 0) else ([], (zAj s v).2) := by unfold zCh; rw [if_neg h1, Int.toNat_natCast]
  rw [hF1]
  obtain ⟨⟨B, e⟩, hx⟩ : ∃ x, zAj s v = x := ⟨_, rfl⟩
  rw [hx] at hB hlen hbt ⊢
  simp only at hB hlen hbt ⊢
  have hsz : (bytesOf B).size = B.length := zj B
  have hst : zT (bytesOf B) = B := zu hbt
  by_cases he : e = 0
  ·subst he
   have hw64 : IntKind.u64.wrap (n : Int) = (n : Int) := zCH (by omega)
   have hw32 : IntKind.u32.wrap ((bytesOf B).size : Int) = (B.length : Int) := by
    have : IntKind.u32.wrap ((B.length : Nat) : Int) = ((B.length % 4294967296 : Nat) : Int) := by simp [IntKind.wrap, IntKind.bits, IntKind.signed]
    rw [hsz, this, Nat.mod_eq_of_lt (by omega)]
   have hm : zT ⟨#[115, 110, 112, 49]⟩ = [115, 110, 112, 49] := by decide
   have htot : ((([] ++ zT ⟨#[115, 110, 112, 49]⟩) ++ be8 n) ++ be4 B.length) ++ zT (bytesOf B) = zBV n B := by
    rw [hm, hst]; simp [zBV]
   have hhl := zFU n B
   have hhb := zFT (n := n) hbt
   refine enter [.tmp 6, .tmp 7] Tryz.func11 rfl Tryz.ntmps11 rfl rfl ?_
   have H := zE w0
   repeat' (first | refine y1 sg ?_ | refine y3 ?_ | refine y5 sg ?_ | refine y7 sg H ?_ | (refine y9 H ?_; intro b w H) | (refine' y30 zIU ?_ ?_; rotate_left; exact hB _ (H.memF hF); intro w hcl; replace H := H.ext hcl; clear hcl) | (refine' y33 zMo ?_ ?_; rotate_left 2; exact zJV (M := [_]) (l := []) ⟨#[115, 110, 112, 49]⟩ (by decide) H (Wr.first _) (by decide); rintro v N w ⟨rfl, M, rfl, hM⟩ H) | (refine' y33 ent40 ?_ ?_; rotate_left 2; exact c_U64 n hw64 H hM (by rw [hm]; simp); rintro v N w ⟨rfl, M, rfl, hM⟩ H) | (refine' y33 ent41 ?_ ?_; rotate_left 2; exact c_U32 B.length (by omega) hw32 H hM (by rw [hm]; simp [be8]); rintro v N w ⟨rfl, M, rfl, hM⟩ H) | (refine' y33 zMo ?_ ?_; rotate_left 2; exact zJV (bytesOf B) (by omega) H hM (by rw [hm]; simp [be8, be4]); rintro v N w ⟨rfl, M, rfl, hM⟩ H; rw [htot] at hM) | (refine' y30 zMn ?_ ?_; rotate_left; exact zGH _ H.mem (List.subset_append_left _ _) hM (by omega); intro w hcl; replace H := H.ext hcl; clear hcl) | (refine' y30 ent42 ?_ ?_; rotate_left; exact zN8 (bytesOf (zBV n B)) (by rw [zj]; omega) _; intro w hcl; replace H := H.ext hcl; clear hcl) | refine y13 ?_ | (with_reducible first | apply zB | apply zD | apply zC | apply zG | apply zH) | refine zA ?_ | refine y22 ?_ | (refine y23 ?_ ?_; all_goals (intro h; try (exfalso; first | ((simp only [decide_eq_true_eq, decide_eq_false_iff_not, gt_iff_lt] at *; omega); done)))) | fail)
   all_goals exact zCC rfl rfl H.cl (by rw [if_pos rfl, zu hhb])
  ·have hd : (e != 0) = true := by simp [he]
   refine enter [.tmp 6, .tmp 7] Tryz.func11 rfl Tryz.ntmps11 rfl rfl ?_
   have H := zE w0
   repeat' (first | refine y1 sg ?_ | refine y3 ?_ | refine y5 sg ?_ | refine y7 sg H ?_ | (refine y9 H ?_; intro b w H) | (refine' y30 zIU ?_ ?_; rotate_left; exact hB _ (H.memF hF); intro w hcl; replace H := H.ext hcl; clear hcl) | refine y13 ?_ | (with_reducible first | apply zB | apply zD | apply zC | apply zG | apply zH | apply zP) | refine zA ?_ | (refine y23 ?_ ?_; all_goals (intro h; try (exfalso; first | ((rw [hd] at h; cases h); done) | ((simp only [decide_eq_true_eq, decide_eq_false_iff_not, gt_iff_lt] at *; omega); done)))) | fail)
   all_goals exact zCC rfl rfl H.cl (by rw [if_neg he]; rfl)
end Go.Proofs.YtggolnppckpdlaaGreat
set_option linter.unusedSimpArgs false
set_option linter.unusedVariables false
namespace Go.Proofs.YtggolnppckpdlaaGreat
open Go Go.Sk Go.RowKit
theorem uq_acc : zCK zJg := by
 refine zCM (P := sqP (sqP (zEy) (zKr 24)) zHH) (fun z => (⟨z.1.2, z.2⟩ : Ac)) (fun x => (((), x.name), x.opn)) (zg (zg (zCL) zK1) zHv) ?_
 rintro x l ⟨a0, rfl⟩
 exact ⟨by cases x; simp_all, ⟨_, _, ⟨_, _, rfl, ⟨a0, rfl⟩, rfl⟩, rfl, by simp [List.append_assoc]⟩⟩
theorem uq_ins : zCK zJh := by
 refine zCM (P := sqP (sqP (sqP (zEy) (zKr 24)) (zAn 4611686018427387904)) zHH) (fun z => (⟨z.1.1.2, z.1.2, z.2⟩ : Ins)) (fun x => ((((), x.name), x.tick), x.halted)) (zg (zg (zg (zCL) zK1) (zt (by decide))) zHv) ?_
 rintro x l ⟨a0, ⟨a1, b1⟩, rfl⟩
 exact ⟨by cases x; simp_all, ⟨_, _, ⟨_, _, ⟨_, _, rfl, ⟨a0, rfl⟩, rfl⟩, ⟨a1, b1, rfl⟩, rfl⟩, rfl, by simp [List.append_assoc]⟩⟩
theorem uq_ord : zCK zJi := by
 refine zCM (P := sqP (sqP (sqP (sqP (sqP (sqP (zEy) (zAn 4611686018427387904)) (zAn 64)) (zAn 16)) (zGv 1)) (zAn 4611686018427387904)) (zAn 4611686018427387904)) (fun z => (⟨z.1.1.1.1.1.2, z.1.1.1.1.2, z.1.1.1.2, ((z.1.1.2 : Nat) : Int), z.1.2, z.2⟩ : Odr)) (fun x => (((((((), x.id), x.acct), x.inst), x.side.toNat), x.price), x.left)) (zg (zg (zg (zg (zg (zg (zCL) (zt (by decide))) (zt (by decide))) (zt (by decide))) zHw) (zt (by decide))) (zt (by decide))) ?_
 rintro x l ⟨⟨a0, b0⟩, ⟨a1, b1⟩, ⟨a2, b2⟩, ⟨a3, b3⟩, ⟨a4, b4⟩, ⟨a5, b5⟩, rfl⟩
 exact ⟨by have := Int.toNat_of_nonneg a3; cases x; simp_all, ⟨_, _, ⟨_, _, ⟨_, _, ⟨_, _, ⟨_, _, ⟨_, _, rfl, ⟨a0, b0, rfl⟩, rfl⟩, ⟨a1, b1, rfl⟩, rfl⟩, ⟨a2, b2, rfl⟩, rfl⟩, ⟨by show Int.toNat _ < 256; omega, rfl⟩, rfl⟩, ⟨a4, b4, rfl⟩, rfl⟩, ⟨a5, b5, rfl⟩, by simp [List.append_assoc]⟩⟩
theorem uq_bid : zCK zJj := by
 refine zCM (P := sqP (sqP (zEy) (zAn 64)) (zAn 4611686018427387904)) (fun z => (⟨z.1.2, z.2⟩ : Bid)) (fun x => (((), x.acct), x.amount)) (zg (zg (zCL) (zt (by decide))) (zt (by decide))) ?_
 rintro x l ⟨⟨a0, b0⟩, ⟨a1, b1⟩, rfl⟩
 exact ⟨by cases x; simp_all, ⟨_, _, ⟨_, _, rfl, ⟨a0, b0, rfl⟩, rfl⟩, ⟨a1, b1, rfl⟩, by simp [List.append_assoc]⟩⟩
theorem uq_opn : zCK zJk := by
 refine zCM (P := sqP (sqP (sqP (sqP (sqP (sqP (zEy) (zAn 64)) (zAn 4611686018427387904)) (zAn 16)) (zGv 1)) (zAn 4611686018427387904)) (zAn 4611686018427387904)) (fun z => (⟨z.1.1.1.1.1.2, z.1.1.1.1.2, z.1.1.1.2, ((z.1.1.2 : Nat) : Int), z.1.2, z.2⟩ : Opn)) (fun x => (((((((), x.acct), x.id), x.inst), x.side.toNat), x.price), x.left)) (zg (zg (zg (zg (zg (zg (zCL) (zt (by decide))) (zt (by decide))) (zt (by decide))) zHw) (zt (by decide))) (zt (by decide))) ?_
 rintro x l ⟨⟨a0, b0⟩, ⟨a1, b1⟩, ⟨a2, b2⟩, ⟨a3, b3⟩, ⟨a4, b4⟩, ⟨a5, b5⟩, rfl⟩
 exact ⟨by have := Int.toNat_of_nonneg a3; cases x; simp_all, ⟨_, _, ⟨_, _, ⟨_, _, ⟨_, _, ⟨_, _, ⟨_, _, rfl, ⟨a0, b0, rfl⟩, rfl⟩, ⟨a1, b1, rfl⟩, rfl⟩, ⟨a2, b2, rfl⟩, rfl⟩, ⟨by show Int.toNat _ < 256; omega, rfl⟩, rfl⟩, ⟨a4, b4, rfl⟩, rfl⟩, ⟨a5, b5, rfl⟩, by simp [List.append_assoc]⟩⟩
theorem uq_lot : zCK zJl := by
 refine zCM (P := sqP (sqP (sqP (sqP (zEy) (zAn 4611686018427387904)) (zAn 64)) (zAn 16)) (zAn 4611686018427387904)) (fun z => (⟨z.1.1.1.2, z.1.1.2, z.1.2, z.2⟩ : Lt)) (fun x => (((((), x.id), x.seller), x.inst), x.qty)) (zg (zg (zg (zg (zCL) (zt (by decide))) (zt (by decide))) (zt (by decide))) (zt (by decide))) ?_
 rintro x l ⟨⟨a0, b0⟩, ⟨a1, b1⟩, ⟨a2, b2⟩, ⟨a3, b3⟩, rfl⟩
 exact ⟨by cases x; simp_all, ⟨_, _, ⟨_, _, ⟨_, _, ⟨_, _, rfl, ⟨a0, b0, rfl⟩, rfl⟩, ⟨a1, b1, rfl⟩, rfl⟩, ⟨a2, b2, rfl⟩, rfl⟩, ⟨a3, b3, rfl⟩, by simp [List.append_assoc]⟩⟩
theorem uq_pos : zCK zJm := by
 refine zCM (P := sqP (sqP (sqP (sqP (sqP (sqP (zEy) (zAn 64)) (zAn 16)) (zAn 4611686018427387904)) (zAn 4611686018427387904)) (zAn 4611686018427387904)) (zAn 4611686018427387904)) (fun z => (⟨z.1.1.1.1.1.2, z.1.1.1.1.2, z.1.1.1.2, z.1.1.2, z.1.2, z.2⟩ : Psn)) (fun x => (((((((), x.acct), x.inst), x.bought), x.sold), x.spent), x.got)) (zg (zg (zg (zg (zg (zg (zCL) (zt (by decide))) (zt (by decide))) (zt (by decide))) (zt (by decide))) (zt (by decide))) (zt (by decide))) ?_
 rintro x l ⟨⟨a0, b0⟩, ⟨a1, b1⟩, ⟨a2, b2⟩, ⟨a3, b3⟩, ⟨a4, b4⟩, ⟨a5, b5⟩, rfl⟩
 exact ⟨by cases x; simp_all, ⟨_, _, ⟨_, _, ⟨_, _, ⟨_, _, ⟨_, _, ⟨_, _, rfl, ⟨a0, b0, rfl⟩, rfl⟩, ⟨a1, b1, rfl⟩, rfl⟩, ⟨a2, b2, rfl⟩, rfl⟩, ⟨a3, b3, rfl⟩, rfl⟩, ⟨a4, b4, rfl⟩, rfl⟩, ⟨a5, b5, rfl⟩, by simp [List.append_assoc]⟩⟩
theorem uq_lin : zCK zJn := by
 refine zCM (P := sqP (sqP (sqP (sqP (sqP (zEy) (zAn 64)) (zAn 4611686018427387904)) (zGv 1)) (zAn 4611686018427387904)) (zAn 4611686018427387904)) (fun z => (⟨z.1.1.1.1.2, z.1.1.1.2, ((z.1.1.2 : Nat) : Int), zBC (z.1.2), z.2⟩ : Ln)) (fun x => ((((((), x.acct), x.seq), x.kind.toNat), (zB3 x.delta)), x.bal)) (zg (zg (zg (zg (zg (zCL) (zt (by decide))) (zt (by decide))) zHw) (zt (by decide))) (zt (by decide))) ?_
 rintro x l ⟨⟨a0, b0⟩, ⟨a1, b1⟩, ⟨a2, b2⟩, ⟨a3, b3⟩, ⟨a4, b4⟩, edelta, rfl⟩
 exact ⟨by have := Int.toNat_of_nonneg a2; cases x; simp_all, ⟨_, _, ⟨_, _, ⟨_, _, ⟨_, _, ⟨_, _, rfl, ⟨a0, b0, rfl⟩, rfl⟩, ⟨a1, b1, rfl⟩, rfl⟩, ⟨by show Int.toNat _ < 256; omega, rfl⟩, rfl⟩, ⟨a3, b3, rfl⟩, rfl⟩, ⟨a4, b4, rfl⟩, by simp [List.append_assoc]⟩⟩
theorem uq_row : zCK zHs := by
 refine zCM (P := rowS) (fun z => zx ⟨z.1.1.1.2, z.1.1.2, z.1.2, z.2⟩) (fun x => (((((), x.acct), x.asset), (zx x).free), x.held)) ?_ zNl
 exact zg (zg (zg (zg zCL (zt (by decide))) (zt (by decide))) (zt (by decide))) (zt (by decide))
theorem uq_auc : zCK zHu := by
 refine zCM (P := aucS) aucOf zDN ?_ (fun z l h => ⟨rfl, h⟩)
 exact zg (zg (zg (zg (zg (zg (zg (zg (zg zCL (zt (by decide))) (zt (by decide))) (zt (by decide))) zHv) (zt (by decide))) (zt (by decide))) (zt (by decide))) (zt (by decide))) (zCA uq_bid)
theorem zP6 {d : Int} (h0 : d ≠ 0) (h1 : -4611686018427387904 ≤ d) (h2 : d ≤ 4611686018427387903) : zBE d = zB3 d := by
 unfold zBE zB3
 by_cases h : d > 0
 ·rw [if_pos h, if_pos h, w64 (by omega) (by omega)]
 ·rw [if_neg h, if_neg h, if_neg h0]
  by_cases h3 : d = -4611686018427387904
  ·subst h3; decide
  ·rw [w64 (x := -2 * d) (by omega) (by omega), w64 (by omega) (by omega)]
theorem B_many {α : Type} {P : α → List Nat → Prop} {B : α → List Nat} {xs : List α} (h : ∀ x ∈ xs, P x (B x)) : zC7 P xs (xs.flatMap B) := by
 induction xs with
 | nil => rfl
 | cons x xs ih => exact ⟨B x, xs.flatMap B, h x (List.mem_cons_self), ih (fun y hy => h y (List.mem_cons_of_mem _ hy)), by rw [List.flatMap_cons]⟩
theorem zJz {α : Type} [Inhabited α] (B : α → List Nat) (xs : List α) : (List.range xs.length).flatMap (fun k => B (xs.getD k default)) = xs.flatMap B := by
 have h : (List.range xs.length).map (fun k => xs.getD k default) = xs := by
  apply List.ext_getElem
  ·simp
  ·intro i h1 h2
   simp [List.getD_eq_getElem?_getD, List.getElem?_eq_getElem h2]
 conv => rhs; rw [← h, List.flatMap_map]
theorem zC0 {α : Type} [Inhabited α] {P : α → List Nat → Prop} {B : α → List Nat} {xs : List α} (h : ∀ x ∈ xs, P x (B x)) : zA0 P xs (zAV xs.length (fun k => B (xs.getD k default))) := by
 refine ⟨_, B_many h, ?_⟩
 unfold zAV
 rw [zJz]
end Go.Proofs.YtggolnppckpdlaaGreat
set_option linter.unusedSimpArgs false
set_option linter.unusedVariables false
namespace Go.Proofs.YtggolnppckpdlaaGreat
open Go Go.Sk Go.RowKit
def OwnB (M : zI) (a : Option Addr) (cap : Nat) (l : List Bid) : Prop := Go.Sk.Own M 78 2 a l.length cap ((List.range l.length).flatMap (bel l))
theorem zH8 (l : List Bid) (j : Nat) : (bel l j).length = 2 := rfl
theorem OwnB.bids {M F : zI} {a : Option Addr} {cap : Nat} {l : List Bid} (h : OwnB M a cap l) (hM : M ⊆ F) (hn : l.length ≤ 140737488355328) : Bids F a cap l := Go.Sk.Own.sl h hM (fun j _ => zH8 l j) hn
def Auc.zero : Auc := ⟨0, 0, 0, false, 0, 0, 0, 0, []⟩
def Bid.zero : Bid := ⟨0, 0⟩
end Go.Proofs.YtggolnppckpdlaaGreat
set_option linter.unusedSimpArgs false
set_option linter.unusedVariables false
namespace Go.Proofs.YtggolnppckpdlaaGreat
open Go Go.Sk Go.RowKit
theorem zMB {n m : Int} (h : zr n m = true) : 1 ≤ n ∧ n ≤ m := by
 simp only [zr, Bool.and_eq_true, decide_eq_true_eq] at h; omega
theorem zP7 {x : Auc} (h : zCJ x = true) (j : Nat) (hj : j < x.bids.length) : zA8 x j = false := by
 unfold zCJ at h
 rcases zAC (zA8 x) x.bids.length with ⟨k, h1, _, _, h2⟩ | ⟨h1, _⟩
 ·rw [h2] at h; simp at h; omega
 ·exact h1 j hj
def zP8 (x : Auc) : Int := if (x.bids.length : Int) == 0 then x.reserve else (zG0 (x.bids.getD 0 default).amount x.step).1
end Go.Proofs.YtggolnppckpdlaaGreat
set_option linter.unusedSimpArgs false
set_option linter.unusedVariables false
namespace Go.Proofs.YtggolnppckpdlaaGreat
open Go Go.Sk Go.RowKit
def stakeF (x : Auc) (b : Bid) : List Bid × Int :=
 if idx (fun i => (x.bids.getD i default).acct == b.acct) x.bids.length ≥ 0 then ([], 6) else if (x.bids.length : Int) ≥ 16 then ([], 40) else (x.bids ++ [b], 0)
def etakeF (x : Auc) (y : Bid) : List Bid × Int := if y.amount < zP8 x then ([], 51) else ([y], 0)
def Auc.put (x : Auc) (l : List Bid) : Auc := ⟨x.id, x.seller, x.inst, x.sealed, x.qty, x.reserve, x.step, x.fin, l⟩
def manF (x : Auc) (y : Bid) : List Bid × Int := if x.sealed then stakeF x y else etakeF x y
def zOA (x : Auc) (y : Bid) : Auc × Int :=
 if zBg x = false then (Auc.zero, 4) else if (zr y.acct 64 && zr y.amount 1125899906842624) = false then (Auc.zero, 1) else if y.acct == x.seller then (Auc.zero, 49)
 else if (manF x y).2 != 0 then (Auc.zero, (manF x y).2) else (x.put (manF x y).1, 0)
end Go.Proofs.YtggolnppckpdlaaGreat
set_option linter.unusedSimpArgs false
set_option linter.unusedVariables false
namespace Go.Proofs.YtggolnppckpdlaaGreat
open Go Go.Sk Go.RowKit
theorem zAt {el : Nat → List Value} {size n : Nat} (hel : ∀ j, j < n → (el j).length = size) : ((List.range n).flatMap el).length = n * size := by
 induction n with
 | zero => simp
 | succ n ih => rw [List.range_succ, List.flatMap_append, List.length_append, ih (fun j hj => hel j (by omega)), List.flatMap_singleton, hel n (by omega), Nat.succ_mul]
theorem zMC {size n b off : Nat} {a : Option Addr} {cs : List Value} {T : TypeId} {fr : Nat × Nat} {F : zI} {el : Nat → List Value} (hs : SlB F size a n b off cs T fr el) (hel : ∀ j, j < n → (el j).length = size) :
  ∀ m, m ≤ n → ∀ j u, ((List.range m).flatMap el)[j]? = some u → cs[off + j]? = some u := by
 intro m
 induction m with
 | zero => intro _ j u hj; cases hj
 | succ m ih =>
   intro hm j u hj
   have hlen : ((List.range m).flatMap el).length = m * size := zAt fun j hj => hel j (by omega)
   rw [List.range_succ, List.flatMap_append, List.flatMap_singleton] at hj
   by_cases hjm : j < m * size
   ·rw [List.getElem?_append_left (by rw [hlen]; exact hjm)] at hj
    exact ih (by omega) j u hj
   ·rw [List.getElem?_append_right (by rw [hlen]; omega), hlen] at hj
    have h2 := ((hs (by omega)).2.2 m (by omega)).2
    rw [← h2, List.getElem?_take] at hj
    split at hj
    ·rw [List.getElem?_drop] at hj
     rw [show off + j = off + m * size + (j - m * size) by omega]; exact hj
    ·cases hj
theorem zC1 {size n cap b off : Nat} {a : Option Addr} {cs : List Value} {T : TypeId} {fr : Nat × Nat} {F : zI} {el : Nat → List Value} (hs : SlB F size a n b off cs T fr el) (hel : ∀ j, j < n → (el j).length = size) {w : World} (hM : Mem w F) :
  Src w (.slice a n cap) n ((List.range n).flatMap el) := by
 rcases Nat.eq_zero_or_pos n with h0 | h0
 ·subst h0
  cases a with
  | none => exact .inr ⟨cap, rfl, rfl⟩
  | some a => exact .inl ⟨a, cap, rfl, fun j u hj => by cases hj⟩
 ·obtain ⟨rfl, hm, _⟩ := hs h0
  refine .inl ⟨_, _, rfl, fun j u hj => ?_⟩
  rw [zBh, zCn hM hm]
  exact zMC hs hel n (Nat.le_refl _) j u hj
theorem zBk {el : Nat → List Value} {n : Nat} (h1 : ∀ j, j < n → ∀ u ∈ el j, u.oneCell' = true) : ∀ u ∈ (List.range n).flatMap el, u.oneCell' = true := by
 intro u hu; obtain ⟨j, hj, hu⟩ := List.mem_flatMap.1 hu; exact h1 j (List.mem_range.1 hj) u hu
end Go.Proofs.YtggolnppckpdlaaGreat
set_option linter.unusedSimpArgs false
set_option linter.unusedVariables false
namespace Go.Proofs.YtggolnppckpdlaaGreat
open Go Go.Sk Go.RowKit
abbrev AE := Auc × Option Addr × Nat
def AE.c (p : AE) : List Value := p.1.cells p.2.1 p.2.2
theorem AE.c_len (p : AE) : p.c.length = 9 := rfl
def sw (d : Nat → AE) (i j : Nat) : Nat → AE := fun k => if k = i then d j else if k = j then d i else d k
structure Arr (w0 : World) (g : Nat) (len n : Nat) (G : zI) (d : Nat → AE) (cs : List Value) (w : World) : Prop where
 st : St w0 (cb g cs 81 :: G) w
 len : cs.length = len
 els : Els cs 9 n (fun j => (d j).c)
theorem Arr.slb {w0 w : World} {g len n : Nat} {G : zI} {d : Nat → AE} {cs : List Value} (h : Arr w0 g len n G d cs w) : SlB (cb g cs 81 :: G) 9 (some ⟨g, 0, none⟩) n g 0 cs 81 (0, 0) (fun j => (d j).c) := zBw h.els (List.Mem.head _)
theorem Arr.ext {w0 w w' : World} {g len n : Nat} {G : zI} {d : Nat → AE} {cs : List Value} (h : Arr w0 g len n G d cs w) (k : Cl w w') : Arr w0 g len n G d cs w' := ⟨h.st.ext k, h.len, h.els⟩
def upd (d : Nat → AE) (k : Nat) (v : AE) : Nat → AE := fun t => if t = k then v else d t
theorem Arr.fit {w0 w : World} {g len n k : Nat} {G : zI} {d : Nat → AE} {cs : List Value} (h : Arr w0 g len n G d cs w) (hk : k < n) (v : AE) : 0 + k * 9 + v.c.length ≤ cs.length := by
 have := (h.els k hk).1
 rw [AE.c_len]; omega
theorem Arr.put {w0 w w' : World} {g len n k : Nat} {G : zI} {d : Nat → AE} {cs : List Value} {v : AE} (h : Arr w0 g len n G d cs w) (hk : k < n) (hs : St w0 (cb g (wr cs (0 + k * 9) v.c) 81 :: G) w') :
  Arr w0 g len n G (upd d k v) (wr cs (0 + k * 9) v.c) w' :=
 ⟨hs, by rw [zGB (h.fit hk v)]; exact h.len, by rw [Nat.zero_add]; exact (h.els.wr hk (AE.c_len v)).congr (fun j _ => by unfold upd; split <;> rfl)⟩
end Go.Proofs.YtggolnppckpdlaaGreat
set_option linter.unusedSimpArgs false
set_option linter.unusedVariables false
namespace Go.Proofs.YtggolnppckpdlaaGreat
open Go Go.Sk Go.RowKit
attribute [local irreducible] Go.Calls
theorem Bids.none (F : zI) : Bids F none 0 [] := ⟨Nat.le_refl _, by decide, 0, 0, [], 0, (0, 0), fun h => absurd h (by decide)⟩
theorem Bids.blk {F : zI} {b cap : Nat} {T : TypeId} (l : List Bid) (hm : cb b ((List.range l.length).flatMap (bel l)) T ∈ F) (hc : l.length ≤ cap) (hn : l.length ≤ 140737488355328) : Bids F (some ⟨b, 0, Option.none⟩) cap l := by
 refine ⟨hc, hn, b, 0, _, T, (0, 0), fun _ => ⟨rfl, hm, fun j hj => ?_⟩⟩
 have hl := zEe (el := bel l) (size := 2) l.length (fun j _ => zH8 l j)
 refine ⟨by rw [hl]; omega, ?_⟩
 rw [Nat.zero_add]
 exact zEf l.length (fun j _ => zH8 l j) j hj
theorem Aucs.blk {F : zI} {b cap : Nat} {T : TypeId} (l : List Auc) (ad : Nat → Option Addr × Nat) (hm : cb b ((List.range l.length).flatMap (ael l ad)) T ∈ F) (hc : l.length ≤ cap) (hn : l.length ≤ 140737488355328) (hb : ∀ j, j < l.length → Bids F (ad j).1 (ad j).2 (l.getD j default).bids) : Aucs F (some ⟨b, 0, Option.none⟩) cap l ad := by
 refine ⟨⟨hc, hn, b, 0, _, T, (0, 0), fun _ => ⟨rfl, hm, fun j hj => ?_⟩⟩, hb⟩
 have hl := zEe (el := ael l ad) (size := 9) l.length (fun j _ => rfl)
 refine ⟨by rw [hl]; omega, ?_⟩
 rw [Nat.zero_add]
 exact zEf (el := ael l ad) (size := 9) l.length (fun j _ => rfl) j hj
theorem Bids.b1 {F : zI} {b : Nat} {T : TypeId} {x y : Int} (hm : cb b [.int .i64 x, .int .i64 y] T ∈ F) : Bids F (some ⟨b, 0, Option.none⟩) 1 [⟨x, y⟩] := Bids.blk (cap := 1) [⟨x, y⟩] hm (Nat.le_refl _) (Nat.le_trans (Nat.le_refl 1) (by decide))
theorem Bids.b2 {F : zI} {b : Nat} {T : TypeId} {x y x' y' : Int} (hm : cb b [.int .i64 x, .int .i64 y, .int .i64 x', .int .i64 y'] T ∈ F) : Bids F (some ⟨b, 0, Option.none⟩) 2 [⟨x, y⟩, ⟨x', y'⟩] := Bids.blk (cap := 2) [⟨x, y⟩, ⟨x', y'⟩] hm (Nat.le_refl _) (Nat.le_trans (Nat.le_refl 2) (by decide))
theorem Bids.b3 {F : zI} {b : Nat} {T : TypeId} {x y x' y' x'' y'' : Int} (hm : cb b [.int .i64 x, .int .i64 y, .int .i64 x', .int .i64 y', .int .i64 x'', .int .i64 y''] T ∈ F) : Bids F (some ⟨b, 0, Option.none⟩) 3 [⟨x, y⟩, ⟨x', y'⟩, ⟨x'', y''⟩] := Bids.blk (cap := 3) [⟨x, y⟩, ⟨x', y'⟩, ⟨x'', y''⟩] hm (Nat.le_refl _) (Nat.le_trans (Nat.le_refl 3) (by decide))
end Go.Proofs.YtggolnppckpdlaaGreat
set_option linter.unusedSimpArgs false
set_option linter.unusedVariables false
namespace Go.Proofs.YtggolnppckpdlaaGreat
open Go Go.Sk Go.RowKit
theorem zLA {x : Auc} (h : zBg x = true) (he : x.sealed = false) : x.bids.length ≤ 1 ∧ (x.bids.length = 0 ∨ (x.bids.getD 0 default).amount ≥ x.reserve) := by
 simp only [zBg, Bool.and_eq_true, zAr, he, zEE, Bool.false_eq_true, if_false, Bool.or_eq_true, decide_eq_true_eq, beq_iff_eq] at h
 obtain ⟨h1, h2⟩ := h.1.2.2
 refine ⟨by omega, ?_⟩
 rcases h2 with h2 | h2
 ·exact .inl (by omega)
 ·exact .inr h2
end Go.Proofs.YtggolnppckpdlaaGreat
