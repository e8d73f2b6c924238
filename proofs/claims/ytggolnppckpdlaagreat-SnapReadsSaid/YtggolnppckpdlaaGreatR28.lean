/- Texts of ours, joined: the steps of the proof, or the claim's theorem. -/
import Derived.Test.YtggolnppckpdlaaGreatR04
import Derived.Test.YtggolnppckpdlaaGreatR06
import Derived.Test.YtggolnppckpdlaaGreatR07
import Derived.Test.YtggolnppckpdlaaGreatR08
import Derived.Test.YtggolnppckpdlaaGreatR12
import Derived.Test.YtggolnppckpdlaaGreatR13
import Derived.Test.YtggolnppckpdlaaGreatR17
import Derived.Test.YtggolnppckpdlaaGreatR25
import Derived.Test.YtggolnppckpdlaaGreatR27
set_option linter.unusedSectionVars false
set_option linter.unusedSimpArgs false
namespace Go.Sk
open Go Go.RowKit
theorem zQD (k : IntKind) (f : Nat → Int) (n : Nat) : nfL (zAN k n f) = some (zAN k n f) := by
 unfold zAN
 induction (List.range n) with
 | nil => rfl
 | cons x t ih => rw [List.map_cons, nfL, ih]; rfl
theorem nf_arr (k : IntKind) (f : Nat → Int) (n : Nat) : nf (.agg (zAN k n f).toArray) = some (.agg (zAN k n f).toArray) := rfl
theorem zQE (k : IntKind) (f : Nat → Int) (n : Nat) : ∀ u ∈ zAN k n f, u.oneCell' = true := by
 intro u hu
 obtain ⟨j, _, rfl⟩ := List.mem_map.1 hu
 rfl
section
variable {P : Program} {n : Nw} {ops : Array Oper} {Q : zAX} {o : Oper} {rest : List Oper} {L : List (Nat × Value)} {b0 : Env} {w : World} (S : Sig P)
theorem OX.boxA {w0 : World} {G : zI} {t : TypeId} {x : Operand} {d m : Nat} {q : IntKind} {f : Nat → Int} (H : St w0 G w) (hx : ev (ovl L b0) x = .agg (zAN q m f).toArray) (k : ∀ b w', St w0 (cb b (zAN q m f) t :: G) w' → OW P n ops Q rest (ovl ((d, .pointer (some ⟨b, 0, none⟩)) :: L) b0) w')
  (ho : o.op = .box t x := by exact rfl) (hd : o.dst = some d := by exact rfl) (hlt : Nat.blt d n.n = true := by exact rfl) : OX P n ops Q o rest (ovl L b0) w :=
 OX.box H ho hd hlt (by rw [hx]; exact nf_arr q f m) (show nfL _ = some (zAN q m f) by show nfL (zAN q m f).toArray.toList = _; rw [List.toList_toArray]; exact zQD _ _ _) fun b w' H' _ => k b w' H'
theorem OX.storeAW {w0 : World} {G G' : zI} {t : TypeId} {x y : Operand} {b m : Nat} {T : TypeId} {q : IntKind} {f g : Nat → Int} {ti : TI} (H : St w0 G w) (hu : Up b (.cells (zAN q m f).toArray T (0, 0)) (.cells (zAN q m g).toArray T (0, 0)) G G')
  (kk : ∀ w', St w0 G' w' → OW P n ops Q rest (ovl L b0) w') (hsz : ti.size = m) (ho : o.op = .store t x y := by exact rfl) (hd : o.dst = none := by exact rfl)
  (hx : ev (ovl L b0) x = .pointer (some ⟨b, 0, none⟩) := by exact rfl) (hy : ev (ovl L b0) y = .agg (zAN q m g).toArray := by exact rfl) (ht : lk S.tab t = some ti := by exact rfl) : OX P n ops Q o rest (ovl L b0) w := by
 refine OX.storeX S H ho hd hx hy (vs := zAN q m g) (cs := zAN q m f) (T := T) rfl ht (by rw [zAi, hsz]) ?_ (by rw [zAi, zAi]; omega) (zQE _ _ _) kk
 have : wr (zAN q m f) 0 (zAN q m g) = zAN q m g := by
  apply List.ext_getElem?
  intro i
  rw [zD6 (by rw [zAi, zAi]; omega), zAi]
  rcases Nat.lt_or_ge i m with h | h
  ·rw [if_pos ⟨Nat.zero_le _, by omega⟩, Nat.sub_zero]
  ·rw [if_neg (by omega), List.getElem?_eq_none (by rw [zAi]; exact h), List.getElem?_eq_none (by rw [zAi]; exact h)]
 rw [this]; exact hu
end
end Go.Sk
set_option linter.unusedSimpArgs false
set_option linter.unusedVariables false
namespace Go.Proofs.YtggolnppckpdlaaGreat
open Go Go.Sk Go.RowKit
attribute [local irreducible] Go.Calls
def zBa (c : Nat) : Nat := if c % 2 = 1 then (c / 2) ^^^ 3988292384 else c / 2
def zAE : Nat → Nat → Nat
 | 0, c => c
 | k + 1, c => zBa (zAE k c)
def zFW (i : Nat) : Nat := zAE 8 i
def zEG (c : Nat) (l : List Nat) : Nat := l.foldl (fun c b => zFW ((c % 256) ^^^ b) ^^^ (c / 256)) c
theorem lt32 {a b : Nat} (h1 : a < 4294967296) (h2 : b < 4294967296) : a ^^^ b < 4294967296 := Nat.xor_lt_two_pow (n := 32) h1 h2
theorem zIp {c : Nat} (h : c < 4294967296) : zBa c < 4294967296 := by
 unfold zBa
 split
 ·exact lt32 (by omega) (by decide)
 ·omega
theorem zE4 {c : Nat} (h : c < 4294967296) : ∀ k, zAE k c < 4294967296
 | 0 => h
 | k + 1 => zIp (zE4 h k)
theorem zLB {i : Nat} (h : i < 256) : zFW i < 4294967296 := zE4 (by omega) 8
theorem w32 (n : Nat) : IntKind.u32.wrap ((n : Nat) : Int) = ((n % 4294967296 : Nat) : Int) := by
 simp [IntKind.wrap, IntKind.bits, IntKind.signed]
theorem bvN (m n : Nat) (h : n < 2 ^ m) : (BitVec.ofInt m (n : Int)).toNat = n := by
 rw [BitVec.toNat_ofInt]
 have : ((n : Int) % ((2 ^ m : Nat) : Int)) = n := Int.emod_eq_of_lt (by omega) (by exact_mod_cast h)
 rw [this]; rfl
theorem zOC (a b : Nat) (ha : a < 4294967296) (hb : b < 4294967296) : IntKind.u32.wrap ((BitVec.ofInt IntKind.u32.bits (a : Int) ^^^ BitVec.ofInt IntKind.u32.bits (b : Int)).toNat : Int) = ((a ^^^ b : Nat) : Int) := by
 have h : (BitVec.ofInt IntKind.u32.bits (a : Int) ^^^ BitVec.ofInt IntKind.u32.bits (b : Int)).toNat = a ^^^ b := by
  rw [BitVec.toNat_xor, bvN _ _ (by simpa [IntKind.bits] using ha), bvN _ _ (by simpa [IntKind.bits] using hb)]
 rw [h, w32, Nat.mod_eq_of_lt (lt32 ha hb)]
theorem xor8 (a b : Nat) (ha : a < 256) (hb : b < 256) : IntKind.u8.wrap ((BitVec.ofInt IntKind.u8.bits (a : Int) ^^^ BitVec.ofInt IntKind.u8.bits (b : Int)).toNat : Int) = ((a ^^^ b : Nat) : Int) := by
 have h : (BitVec.ofInt IntKind.u8.bits (a : Int) ^^^ BitVec.ofInt IntKind.u8.bits (b : Int)).toNat = a ^^^ b := by
  rw [BitVec.toNat_xor, bvN _ _ (by simpa [IntKind.bits] using ha), bvN _ _ (by simpa [IntKind.bits] using hb)]
 rw [h, w8, Nat.mod_eq_of_lt (Nat.xor_lt_two_pow (n := 8) ha hb)]
theorem zOD (a : Nat) (ha : a < 4294967296) : IntKind.u32.wrap ((BitVec.ofInt IntKind.u32.bits (a : Int) &&& BitVec.ofInt IntKind.u32.bits (1 : Int)).toNat : Int) = ((a % 2 : Nat) : Int) := by
 have h : (BitVec.ofInt IntKind.u32.bits (a : Int) &&& BitVec.ofInt IntKind.u32.bits ((1 : Nat) : Int)).toNat = a % 2 := by
  rw [BitVec.toNat_and, bvN _ _ (by simpa [IntKind.bits] using ha), bvN _ _ (by decide), Nat.and_one_is_mod]
 exact (congrArg (fun z : Nat => IntKind.u32.wrap (z : Int)) h).trans (by rw [w32, Nat.mod_eq_of_lt (by omega)])
theorem c_step (c : Nat) (hc : c < 4294967296) (w : World) : Calls Tryz.prog 264 [.int .u32 (c : Int)].toArray w (Ret (.int .u32 (zBa c : Nat)) w) := by
 refine enter [.tmp 2] Tryz.func264 rfl Tryz.ntmps264 rfl rfl ?_
 have H := zH w
 repeat' (first | refine y1 sg ?_ | (with_reducible first | apply zB | apply zD | apply zC | apply zF | apply zG | apply zO) | refine zA ?_ | (refine y23 ?_ ?_; all_goals intro h) | fail)
 all_goals rw [zOD c hc] at h
 ·have h1 : c % 2 = 1 := by have := eqI h; omega
  refine zQ rfl H.cl (congrArg (Value.int .u32) ?_)
  have := zFv c 1
  rw [show min 1 IntKind.u32.bits = 1 from rfl, this, show (3988292384 : Int) = ((3988292384 : Nat) : Int) from rfl, zOC _ _ (by omega) (by decide)]
  unfold zBa; rw [if_pos h1]
 ·have h1 : ¬ c % 2 = 1 := by have := neI h; omega
  refine zQ rfl H.cl (congrArg (Value.int .u32) ?_)
  rw [show min 1 IntKind.u32.bits = 1 from rfl, zFv c 1]
  unfold zBa; rw [if_neg h1]
theorem zGQ {k : IntKind} {n : Nat} {f g : Nat → Int} (h : ∀ j, j < n → f j = g j) : zAN k n f = zAN k n g := List.map_congr_left fun j hj => by rw [h j (List.mem_range.1 hj)]
theorem loadAv {P : Program} (S : Sig P) {o : Oper} {e : Env} {w : World} {M : zI} {t : TypeId} {x : Operand} {b n j : Nat} {T : TypeId} {k : IntKind} {f : Nat → Int} {v : Int} {ti : TI} (hv : f j = v) (hM : Mem w M) (hm : cb b (zAN k n f) T ∈ M) (hj : j < n) (ho : o.op = .load t x)
  (hx : ev e x = .pointer (some ⟨b, 0 + j * 1, none⟩)) (ht : lk S.tab t = some ti) (hag : zBF ti.d = false) : Yq P o e w (.int k v) := hv ▸ Yq.loadA S hM hm hj ho hx ht hag
theorem loadWA {P : Program} (S : Sig P) {o : Oper} {e : Env} {w : World} {M : zI} {t : TypeId} {x : Operand} {b n : Nat} {T : TypeId} {k : IntKind} {f : Nat → Int} {A : List Value} {ti : TI} (hA : zAN k n f = A) (hM : Mem w M) (hm : cb b A T ∈ M) (ho : o.op = .load t x)
  (hx : ev e x = .pointer (some ⟨b, 0, none⟩)) (ht : lk S.tab t = some ti) (hag : zBF ti.d = true) (hsz : ti.size = n) : Yq P o e w (.agg A.toArray) := by subst hA; exact Yq.loadW S hM hm ho hx ht hag hsz
theorem zQF {P : Program} {n : Nw} {ops : Array Oper} {Q : zAX} {o : Oper} {rest : List Oper} {L : List (Nat × Value)} {b0 : Env} {w : World} (S : Sig P) {w0 : World} {G G' : zI} {t : TypeId} {x y : Operand} {b m : Nat} {T : TypeId} {q : IntKind} {f g : Nat → Int} {A Z : List Value} {ti : TI} (hA : zAN q m g = A) (hZ : zAN q m f = Z) (H : St w0 G w) (hu : Up b (.cells Z.toArray T (0, 0)) (.cells A.toArray T (0, 0)) G G')
  (kk : ∀ w', St w0 G' w' → OW P n ops Q rest (ovl L b0) w') (hsz : ti.size = m) (ho : o.op = .store t x y) (hd : o.dst = none)
  (hx : ev (ovl L b0) x = .pointer (some ⟨b, 0, none⟩)) (hy : ev (ovl L b0) y = .agg A.toArray) (ht : lk S.tab t = some ti) : OX P n ops Q o rest (ovl L b0) w := by
 subst hA; subst hZ; exact OX.storeAW S H hu kk hsz ho hd hx hy ht
theorem rdvA {P : Program} (S : Sig P) {e : Env} {w : World} {M : zI} {t a : Tmp} {b n : Nat} {T : TypeId} {k : IntKind} {f : Nat → Int} {A : List Value} {ti : TI} (hA : zAN k n f = A) (hx : e a = .pointer (some ⟨b, 0, none⟩)) (hM : Mem w M) (hm : cb b A T ∈ M) (ht : lk S.tab t = some ti) (hag : zBF ti.d = true) (hsz : ti.size = n) : rdv P e w (.cell a t) (.agg A.toArray) := by
 subst hA
 refine ⟨_, hx, zCN S hM hm ht ?_⟩
 unfold ldv
 rw [hag, hsz]
 have : Nat.ble (0 + n) (zAN k n f).length = true := by rw [zAi]; simp
 rw [this]
 simp only [cond_true, List.drop_zero]
 rw [List.take_of_length_le (by rw [zAi]; exact Nat.le_refl _)]
def zCw (k : Nat) (j : Nat) : Int := if j < k then ((zFW j : Nat) : Int) else 0
set_option maxHeartbeats 4000000 in
set_option maxRecDepth 20000 in
theorem zQG (w0 : World) : Calls Tryz.prog 224 ([] : List Value).toArray w0 (Ret (.agg (zAN .u32 256 fun j => ((zFW j : Nat) : Int)).toArray) w0) := by
 refine enter [.cell 0 248] Tryz.func224 rfl Tryz.ntmps224 rfl rfl ?_
 have H := zH w0
 repeat' (first | refine y1 sg ?_ | refine y3 ?_ | (refine y10 sg H ?_; intro b w H) | (with_reducible first | apply zB | apply zD | apply zC | apply zE) | refine zA ?_ | fail)
 rename_i b0 w1 H1
 clear H1
 have H2 : St w0 [cb b (zAN .u32 256 (zCw 0)) 248, cb b0 (zAN .u32 256 fun _ => 0) 248] w := by
  rw [zGQ (f := zCw 0) (g := fun _ => 0) fun j hj => if_neg (Nat.not_lt_zero _)]
  exact H
 clear H
 refine zK [(2, 19)] (fun k : Nat => [(3, .int .i64 (k : Int))]) (fun k w => k ≤ 256 ∧ St w0 [cb b (zAN .u32 256 (zCw k)) 248, cb _ (zAN .u32 256 fun _ => 0) 248] w) (fun k => 256 - k) 0 ⟨rfl, trivial⟩ ⟨Nat.zero_le _, H2⟩ ?_
 clear H2
 rintro k gh w ⟨hk, H⟩
 repeat' (first | refine y1 sg ?_ | (with_reducible first | apply zB | apply zD | apply zC) | refine zA ?_ | fail)
 refine zM rfl (fun h => ?_) (fun h => ?_)
 ·have hlt : k < 256 := by have := of_decide_eq_true h; omega
  clear h
  have hw : IntKind.u32.wrap (k : Int) = ((zAE 0 k : Nat) : Int) := by rw [w32, Nat.mod_eq_of_lt (by omega)]; rfl
  repeat' (first | refine y1 sg ?_ | refine y3 ?_ | (refine zY rfl rfl (Yq.ixP sg (n := 256) (j := k) (Int.toNat_natCast _) (by omega) (by omega) rfl rfl rfl rfl rfl rfl) ?_) | (refine OX.storeA sg (m := 256) (j := k) (k := .u32) (f := zCw k) (v := IntKind.u32.wrap (k : Int)) H hlt Up.here ?_; intro w H; rw [hw] at H) | (with_reducible first | apply zB | apply zD | apply zC | apply zE | apply zG) | refine zA ?_ | fail)
  refine zK [(10, 18)] (fun m : Nat => [(10, .int .i64 (m : Int))]) (fun m w => m ≤ 8 ∧ St w0 [cb b (zAN .u32 256 (zEB (zCw k) k (zAE m k : Nat))) 248, cb _ (zAN .u32 256 fun _ => 0) 248] w) (fun m => 8 - m) 0 ⟨rfl, trivial⟩ ⟨Nat.zero_le _, H⟩ ?_
  clear H
  rintro m gh2 w ⟨hm, H⟩
  repeat' (first | refine y1 sg ?_ | (with_reducible first | apply zB | apply zD | apply zC) | refine zA ?_ | fail)
  refine zM rfl (fun h => ?_) (fun h => ?_)
  ·have hlm : m < 8 := by have := of_decide_eq_true h; omega
   clear h
   have hup : zEB (zEB (zCw k) k (zAE m k : Nat)) k ((zBa (zAE m k) : Nat) : Int) = zEB (zCw k) k ((zAE (m + 1) k : Nat) : Int) := by
    funext j; unfold zEB; split <;> rfl
   repeat' (first | refine y1 sg ?_ | refine y3 ?_ | (refine zY rfl rfl (Yq.ixP sg (n := 256) (j := k) (Int.toNat_natCast _) (by omega) (by omega) rfl rfl rfl rfl rfl rfl) ?_) | (refine zY rfl rfl (loadAv sg (f := zEB (zCw k) k (zAE m k : Nat)) (v := (zAE m k : Nat)) (by simp [zEB]) H.mem (List.Mem.head _) hlt rfl rfl rfl rfl) ?_) | (refine' y30 ent264 ?_ ?_; rotate_left; exact c_step (zAE m k) (zE4 (by omega) m) _; intro w hcl; replace H := H.ext hcl; clear hcl) | (refine OX.storeA sg (m := 256) (j := k) (k := .u32) (f := zEB (zCw k) k (zAE m k : Nat)) (v := (zBa (zAE m k) : Nat)) H hlt Up.here ?_; intro w H; rw [hup] at H) | (with_reducible first | apply zB | apply zD | apply zC | apply zE | apply zG) | refine zA ?_ | fail)
   exact zJ (m + 1) rfl ⟨zT (by omega), trivial⟩ ⟨hlm, H⟩ (by omega)
  ·obtain rfl : m = 8 := by have := of_decide_eq_false h; omega
   clear h
   repeat' (first | refine y1 sg ?_ | (with_reducible first | apply zB | apply zD | apply zL) | refine zA ?_ | fail)
   refine zAY (k + 1) rfl ⟨zT (by omega), trivial⟩ ⟨hlt, ?_⟩ (by omega)
   have he : zAN .u32 256 (zEB (zCw k) k ((zAE 8 k : Nat) : Int)) = zAN .u32 256 (zCw (k + 1)) := zGQ fun j hj => by
    unfold zEB zCw zFW
    by_cases h1 : j = k
    ·subst h1; rw [if_pos rfl, if_pos (by omega)]
    ·rw [if_neg h1]
     by_cases h2 : j < k
     ·rw [if_pos h2, if_pos (by omega)]
     ·rw [if_neg h2, if_neg (by omega)]
   rw [he] at H
   exact H
 ·obtain rfl : k = 256 := by have := of_decide_eq_false h; omega
  clear h
  obtain ⟨A, hA⟩ : ∃ A, zAN .u32 256 (zCw 256) = A := ⟨_, rfl⟩
  obtain ⟨Z, hZ⟩ : ∃ Z, zAN .u32 256 (fun _ => 0) = Z := ⟨_, rfl⟩
  rw [hA, hZ] at H
  have hA2 : zAN .u32 256 (fun j => ((zFW j : Nat) : Int)) = A := by
   rw [← hA]; exact zGQ fun j hj => (if_pos hj).symm
  rw [hA2]
  repeat' (first | refine y3 ?_ | (refine zY rfl rfl (loadWA sg hA H.mem (List.Mem.head _) rfl rfl rfl rfl rfl) ?_) | (refine zQF sg hA hZ H (Up.there Up.here) ?_ rfl rfl rfl rfl rfl rfl; intro w H) | (with_reducible first | apply zB | apply zD | apply zC | apply zF | apply zL | apply zS) | refine zA ?_ | refine y24 ?_ | fail)
  exact zCY (vs := [_]) ⟨rdvA sg hA rfl H.mem (List.Mem.tail _ (List.Mem.head _)) rfl rfl rfl, trivial⟩ H.cl rfl
theorem boxWA {P : Program} {n : Nw} {ops : Array Oper} {Q : zAX} {o : Oper} {rest : List Oper} {L : List (Nat × Value)} {b0 : Env} {w : World} {w0 : World} {G : zI} {t : TypeId} {x : Operand} {d m : Nat} {q : IntKind} {f : Nat → Int} {A : List Value} (hA : zAN q m f = A) (H : St w0 G w)
  (k : ∀ b w', St w0 (cb b A t :: G) w' → OW P n ops Q rest (ovl ((d, .pointer (some ⟨b, 0, none⟩)) :: L) b0) w') (hx : ev (ovl L b0) x = .agg A.toArray) (ho : o.op = .box t x) (hd : o.dst = some d) (hlt : Nat.blt d n.n = true) : OX P n ops Q o rest (ovl L b0) w := by
 subst hA; exact OX.boxA H hx k ho hd hlt
theorem loadEA {P : Program} (S : Sig P) {o : Oper} {e : Env} {w : World} {M : zI} {t : TypeId} {x : Operand} {b n j : Nat} {T : TypeId} {k : IntKind} {f : Nat → Int} {A : List Value} {ti : TI} (hA : zAN k n f = A) (hM : Mem w M) (hm : cb b A T ∈ M) (hj : j < n) (ho : o.op = .load t x)
  (hx : ev e x = .pointer (some ⟨b, 0 + j * 1, none⟩)) (ht : lk S.tab t = some ti) (hag : zBF ti.d = false) : Yq P o e w (.int k (f j)) := by subst hA; exact Yq.loadA S hM hm hj ho hx ht hag
def tabA : List Value := zAN .u32 256 fun j => ((zFW j : Nat) : Int)
theorem zHp : ∀ (l : List Nat) (c : Nat), c < 4294967296 → (∀ b ∈ l, b < 256) → zEG c l < 4294967296
 | [], c, hc, _ => hc
 | b :: t, c, hc, hb => by
   show zEG (zFW ((c % 256) ^^^ b) ^^^ (c / 256)) t < _
   exact zHp t _ (lt32 (zLB (Nat.xor_lt_two_pow (n := 8) (by omega) (hb b (List.Mem.head _)))) (by omega)) fun x hx => hb x (List.Mem.tail _ hx)
theorem zMI (c : Nat) (l : List Nat) (b : Nat) : zEG c (l ++ [b]) = zFW ((zEG c l % 256) ^^^ b) ^^^ (zEG c l / 256) := by simp [zEG]
theorem zLC (s : ByteArray) : ∀ b ∈ zN s, b < 256 := by
 intro b hb
 obtain ⟨x, _, rfl⟩ := List.mem_map.1 hb
 exact x.toNat_lt
theorem zQH (s : ByteArray) {k : Nat} (hk : k < s.size) : (zN s).getD k 0 = zAI s k := by
 have h : k < s.data.size := hk
 unfold zN zAI
 rw [List.getD_eq_getElem?_getD, List.getElem?_map, Array.getElem?_toList, Array.getElem?_eq_getElem h, Array.getD, dif_pos h]
 rfl
theorem zHA (s : ByteArray) {k : Nat} (hk : k < s.size) : (zN s).take (k + 1) = (zN s).take k ++ [zAI s k] := by
 have hl : k < (zN s).length := by rw [zP]; exact hk
 rw [List.take_succ_eq_append_getElem hl, ← zQH s hk]
 simp [List.getElem?_eq_getElem hl]
set_option maxHeartbeats 2000000 in
theorem c_run (c : Nat) (s : ByteArray) (hc : c < 4294967296) (hs : s.size ≤ 140737488355328) (w0 : World) : Calls Tryz.prog 223 [.agg tabA.toArray, .int .u32 (c : Int), .string s].toArray w0 (Ret (.int .u32 (zEG c (zN s) : Nat)) w0) := by
 obtain ⟨A, hA⟩ : ∃ A, tabA = A := ⟨_, rfl⟩
 rw [hA]
 have hA2 : zAN .u32 256 (fun j => ((zFW j : Nat) : Int)) = A := hA
 refine enter [.tmp 6] Tryz.func223 rfl Tryz.ntmps223 rfl rfl ?_
 have H := zH w0
 repeat' (first | refine y1 sg ?_ | refine y3 ?_ | (refine boxWA hA2 H ?_ rfl rfl rfl rfl; intro b w H) | (with_reducible first | apply zB | apply zD | apply zC | apply zE) | refine zA ?_ | fail)
 refine zK [(1, 1), (7, 7), (10, 24)] (fun k : Nat => [(10, .int .i64 (k : Int)), (1, .int .u32 (zEG c ((zN s).take k) : Nat))]) (fun k w => k ≤ s.size ∧ St w0 [cb b A 248] w) (fun k => s.size - k) 0 ⟨rfl, rfl, trivial⟩ ⟨Nat.zero_le _, H⟩ ?_
 clear H
 rintro k gh w ⟨hk, H⟩
 repeat' (first | refine y1 sg ?_ | (with_reducible first | apply zB | apply zD | apply zC) | refine zA ?_ | fail)
 refine zM rfl (fun h => ?_) (fun h => ?_)
 ·have hlt : k < s.size := by have := of_decide_eq_true h; omega
  clear h
  obtain ⟨d, hd⟩ : ∃ d, zEG c ((zN s).take k) = d := ⟨_, rfl⟩
  have hdl : d < 4294967296 := by rw [← hd]; exact zHp _ _ hc fun x hx => zLC s x (List.mem_of_mem_take hx)
  obtain ⟨x, hx⟩ : ∃ x, zAI s k = x := ⟨_, rfl⟩
  have hxl : x < 256 := by rw [← hx]; exact zBA s k
  have hj : (d % 256) ^^^ x < 256 := Nat.xor_lt_two_pow (n := 8) (by omega) hxl
  have h8 : IntKind.u8.wrap ((BitVec.ofInt IntKind.u8.bits (IntKind.u8.wrap (d : Int)) ^^^ BitVec.ofInt IntKind.u8.bits (zAI s k : Int)).toNat : Int) = (((d % 256) ^^^ x : Nat) : Int) := by rw [w8, hx]; exact xor8 (d % 256) x (Nat.mod_lt _ (by decide)) hxl
  rw [hd]
  repeat' (first | refine y1 sg ?_ | refine y3 ?_ | (refine zY rfl rfl (Yq.strIx sg rfl rfl rfl rfl rfl (Int.toNat_natCast _) (by omega) (by omega)) ?_) | (refine zY rfl rfl (Yq.ixP sg (n := 256) (j := (d % 256) ^^^ x) (by rw [h8]; exact Int.toNat_natCast _) (by rw [h8]; omega) (by rw [h8]; omega) rfl rfl rfl rfl rfl rfl) ?_) | (refine zY rfl rfl (loadEA sg hA2 H.mem (List.Mem.head _) hj rfl rfl rfl rfl) ?_) | (with_reducible first | apply zB | apply zD | apply zC | apply zE | apply zG) | refine zA ?_ | fail)
  have h32 : IntKind.u32.wrap ((BitVec.ofInt IntKind.u32.bits ((zFW ((d % 256) ^^^ x) : Nat) : Int) ^^^ BitVec.ofInt IntKind.u32.bits ((d : Int).fdiv (2 ^ min 8 IntKind.u32.bits))).toNat : Int) = ((zEG c ((zN s).take (k + 1)) : Nat) : Int) := by
   rw [show min 8 IntKind.u32.bits = 8 from rfl, zFv d 8, zOC _ _ (zLB hj) (by omega), zHA s hlt, zMI, hd, hx]
  exact zJ (k + 1) rfl ⟨zT (by omega), congrArg (Value.int .u32) h32, trivial⟩ ⟨hlt, H⟩ (by omega)
 ·obtain rfl : k = s.size := by have := of_decide_eq_false h; omega
  repeat' (first | refine y1 sg ?_ | (with_reducible first | apply zB | apply zD | apply zC | apply zF | apply zL | apply zS) | refine zA ?_ | refine y24 ?_ | fail)
  exact zQ rfl H.cl (congrArg (fun l => Value.int .u32 ((zEG c l : Nat) : Int)) (by rw [List.take_of_length_le (by rw [zP]; exact Nat.le_refl _)]))
attribute [local semireducible] Yq in
theorem Yq.not32 {P : Program} {o : Oper} {e : Env} {w : World} {t : TypeId} {x : Operand} {c : Nat} (hc : c < 4294967296) (ho : o.op = .unOp .xor t x) (hx : ev e x = .int .u32 (c : Int)) : Yq P o e w (.int .u32 ((4294967295 - c : Nat) : Int)) := by
 intro w' _
 have hb : (BitVec.ofInt IntKind.u32.bits (4294967295 : Int) ^^^ BitVec.ofInt IntKind.u32.bits (c : Int)).toNat = 4294967295 - c := by
  have h1 : (BitVec.ofInt IntKind.u32.bits (4294967295 : Int)) = BitVec.allOnes IntKind.u32.bits := by decide
  rw [h1, BitVec.allOnes_xor, BitVec.toNat_not, bvN _ _ (by simpa [IntKind.bits] using hc)]
  rfl
 have h2 : (Op.unary .xor (.int .u32 (c : Int))).run P w' = .ok (.int .u32 ((4294967295 - c : Nat) : Int)) w' := by
  show (Op.intBits .xor .u32 4294967295 (c : Int)).run P w' = _
  unfold Op.intBits
  simp only [hb, Sem.run_pure]
  rw [w32, Nat.mod_eq_of_lt (by omega)]
 simp only [execOp, ho, hx, Sem.run_bind, h2, Result.andThen_ok, Sem.run_pure]
def zJq (c : Nat) (l : List Nat) : Nat := 4294967295 - zEG (4294967295 - c) l
theorem c_cAdd (c : Nat) (s : ByteArray) (hc : c < 4294967296) (hs : s.size ≤ 140737488355328) (w0 : World) : Calls Tryz.prog 187 [.int .u32 (c : Int), .string s].toArray w0 (Ret (.int .u32 (zJq c (zN s) : Nat)) w0) := by
 have hr := fun w => c_run (4294967295 - c) s (by omega) hs w
 refine enter [.tmp 4] Tryz.func187 rfl Tryz.ntmps187 rfl rfl ?_
 have H := zH w0
 have hl : zEG (4294967295 - c) (zN s) < 4294967296 := zHp _ _ (by omega) (zLC s)
 repeat' (first | refine y1 sg ?_ | refine y3 ?_ | (refine' y30 ent224 ?_ ?_; rotate_left; exact zQG _; intro w hcl; replace H := H.ext hcl; clear hcl) | (refine zY rfl rfl (Yq.not32 hc rfl rfl) ?_) | (refine' y30 ent223 ?_ ?_; rotate_left; exact hr _; intro w hcl; replace H := H.ext hcl; clear hcl) | (refine zY rfl rfl (Yq.not32 hl rfl rfl) ?_) | (with_reducible first | apply zB | apply zD | apply zC | apply zF) | refine zA ?_ | fail)
 exact zQ rfl H.cl rfl
def zDN (l : List Nat) : Nat := zJq 0 l
theorem c_cOf (s : ByteArray) (hs : s.size ≤ 140737488355328) (w0 : World) : Calls Tryz.prog 115 [.string s].toArray w0 (Ret (.int .u32 (zDN (zN s) : Nat)) w0) := by
 refine enter [.tmp 2] Tryz.func115 rfl Tryz.ntmps115 rfl rfl ?_
 have H := zH w0
 repeat' (first | refine y1 sg ?_ | refine y3 ?_ | (refine' y30 ent187 ?_ ?_; rotate_left; exact c_cAdd 0 s (by decide) hs _; intro w hcl; replace H := H.ext hcl; clear hcl) | (with_reducible first | apply zB | apply zD | apply zC | apply zF) | refine zA ?_ | fail)
 exact zQ rfl H.cl rfl
def le4 (n : Nat) : List Nat := [n % 256, n / 2 ^ 8 % 256, n / 2 ^ 16 % 256, n / 2 ^ 24 % 256]
theorem zOE (n : Nat) (w0 : World) : Calls Tryz.prog 114 [.int .u32 (n : Int)].toArray w0 (zf (fun M v => ∃ b, M = [cb b (wrB (le4 n)) 5] ∧ v = .slice (some ⟨b, 0, none⟩) 4 4) w0) := by
 refine enter [.tmp 2] Tryz.func114 rfl Tryz.ntmps114 rfl rfl ?_
 have H := zH w0
 repeat' (first | refine y1 sg ?_ | refine y3 ?_ | (refine z14 sg H ?_; intro b w H) | (with_reducible first | apply zB | apply zD | apply zC | apply zF) | refine zA ?_ | fail)
 have e : [Value.int .u8 (IntKind.u8.wrap (n : Int)), Value.int .u8 (IntKind.u8.wrap ((n : Int).fdiv (2 ^ min 8 IntKind.u32.bits))), Value.int .u8 (IntKind.u8.wrap ((n : Int).fdiv (2 ^ min 16 IntKind.u32.bits))), Value.int .u8 (IntKind.u8.wrap ((n : Int).fdiv (2 ^ min 24 IntKind.u32.bits)))] = wrB (le4 n) := by
  rw [show min 8 IntKind.u32.bits = 8 from rfl, show min 16 IntKind.u32.bits = 16 from rfl, show min 24 IntKind.u32.bits = 24 from rfl, zIJ, zIJ, zIJ, w8]
  rfl
 rw [e] at H
 exact zDs rfl H ⟨_, rfl, rfl⟩
end Go.Proofs.YtggolnppckpdlaaGreat
set_option linter.unusedSimpArgs false
set_option linter.unusedVariables false
namespace Go.Proofs.YtggolnppckpdlaaGreat
open Go Go.Sk Go.RowKit
attribute [local irreducible] Go.Calls
def zA4 (l : List Nat) : List Nat := l ++ le4 (zDN l)
theorem zLD (n : Nat) : Byt (le4 n) := by
 intro b hb
 simp only [le4, List.mem_cons, List.not_mem_nil, or_false] at hb
 omega
theorem zEm (n : Nat) : (le4 n).length = 4 := rfl
theorem zOF (s : ByteArray) (hs : s.size ≤ 140737488355000) (w0 : World) : Calls Tryz.prog 42 [.string s].toArray w0 (Ret (.string (bytesOf (zA4 (zN s)))) w0) := by
 refine enter [.tmp 2] Tryz.func42 rfl Tryz.ntmps42 rfl rfl ?_
 have H := zH w0
 repeat' (first | refine y1 sg ?_ | refine y3 ?_ | (refine' y30 ent115 ?_ ?_; rotate_left; exact c_cOf s (by omega) _; intro w hcl; replace H := H.ext hcl; clear hcl) | (refine' y32 ent114 ?_ ?_; rotate_left; exact zOE (zDN (zN s)) _; intro v M w hR hS; replace H := H.addR hS; clear hS; (try simp only [List.cons_append, List.nil_append] at H); obtain ⟨b, rfl, rfl⟩ := hR) | (with_reducible first | apply zB | apply zD | apply zC) | refine zA ?_ | fail)
 have hB : SlB [cb b (wrB (le4 (zDN (zN s)))) 5] 1 (some ⟨b, 0, none⟩) 4 b 0 (wrB (le4 (zDN (zN s)))) 5 (0, 0) (u8c (le4 (zDN (zN s)))) := fun _ => ⟨rfl, List.Mem.head _, fun j hj => by
  match j, hj with
  | 0, _ => exact ⟨by rw [zEV, zEm]; omega, rfl⟩
  | 1, _ => exact ⟨by rw [zEV, zEm]; omega, rfl⟩
  | 2, _ => exact ⟨by rw [zEV, zEm]; omega, rfl⟩
  | 3, _ => exact ⟨by rw [zEV, zEm]; omega, rfl⟩⟩
 repeat' (first | refine y1 sg ?_ | refine y3 ?_ | (refine zY rfl rfl (zET sg hB rfl H.mem rfl rfl rfl rfl rfl rfl rfl rfl) ?_) | (refine zY rfl rfl (zNF rfl rfl rfl (by rw [zAc, zEm]; omega)) ?_) | (with_reducible first | apply zB | apply zD | apply zF) | fail)
 exact zQ rfl H.cl (congrArg Value.string (by unfold zA4; rw [← zIH, zBm]))
def zAe (l : List Nat) : List Nat × Int := if l.length < 4 then ([], 8) else if zA4 (l.take (l.length - 4)) = l then (l.take (l.length - 4), 0) else ([], 42)
theorem zHB {l : List Nat} (h : Byt l) : Byt (zA4 l) := h.app (zLD _)
theorem zQI (s : ByteArray) (hs : s.size ≤ 140737488355000) (w0 : World) : Calls Tryz.prog 44 [.string s].toArray w0 (Ret (.tuple #[.string (bytesOf (zAe (zN s)).1), .int .i64 (zAe (zN s)).2]) w0) := by
 have hl := zP s
 by_cases h4 : s.size < 4
 ·have hlt : decide ((s.size : Int) < 4) = true := decide_eq_true (by omega)
  refine enter [.tmp 2, .tmp 3] Tryz.func44 rfl Tryz.ntmps44 rfl rfl ?_
  have H := zH w0
  repeat' (first | refine y1 sg ?_ | (with_reducible first | apply zB | apply zD | apply zC | apply zF | apply zO) | refine zA ?_ | (refine y23 ?_ ?_; all_goals (intro h; try (exfalso; first | ((rw [hlt] at h; cases h); done)))) | fail)
  exact zCO rfl rfl H.cl (by unfold zAe; rw [if_pos (by omega)]; rfl)
 ·have hlt : decide ((s.size : Int) < 4) = false := decide_eq_false (by omega)
  have hsz : (s.extract 0 (s.size - 4)).size = s.size - 4 := by rw [← zP, zc]; simp; omega
  have hw : IntKind.i64.wrap ((s.size : Int) - 4) = ((s.size - 4 : Nat) : Int) := by rw [w64 (by omega) (by omega)]; omega
  have hS := fun w => zOF (s.extract 0 (s.size - 4)) (by omega) w
  have hex : zN (s.extract 0 (s.size - 4)) = (zN s).take ((zN s).length - 4) := by rw [zc, hl]; simp
  rw [hex] at hS
  have hb : Byt (zA4 ((zN s).take ((zN s).length - 4))) := zHB ((zAy s).take _)
  refine enter [.tmp 2, .tmp 3] Tryz.func44 rfl Tryz.ntmps44 rfl rfl ?_
  have H := zH w0
  repeat' (first | refine y1 sg ?_ | refine y3 ?_ | (refine zY rfl rfl (Yq.strHi sg (j := s.size - 4) rfl rfl rfl rfl rfl (by rw [hw]; exact Int.toNat_natCast _) (by rw [hw]; omega) (by rw [hw]; omega)) ?_) | (refine' y30 ent42 ?_ ?_; rotate_left; exact hS _; intro w hcl; replace H := H.ext hcl; clear hcl) | (with_reducible first | apply zB | apply zD | apply zC | apply zF | apply zG | apply zO) | refine zA ?_ | (refine y23 ?_ ?_; all_goals (intro h; try (exfalso; first | ((rw [hlt] at h; cases h); done)))) | fail)
  all_goals rw [zD8, zx hb] at h
  ·have hne : ¬ zA4 ((zN s).take ((zN s).length - 4)) = zN s := by simpa using h
   exact zCO rfl rfl H.cl (by unfold zAe; rw [if_neg (by omega), if_neg hne]; rfl)
  ·have heq : zA4 ((zN s).take ((zN s).length - 4)) = zN s := by simpa using h
   exact zCO rfl rfl H.cl (by unfold zAe; rw [if_neg (by omega), if_pos heq, ← hex, zBm])
end Go.Proofs.YtggolnppckpdlaaGreat
set_option linter.unusedSimpArgs false
set_option linter.unusedVariables false
namespace Go.Proofs.YtggolnppckpdlaaGreat
open Go Go.Sk Go.RowKit
attribute [local irreducible] Go.Calls
structure SnW (s : Sta) (v : Vws) : Prop where
 sw : StaW s
 sb : zDb s = true → StaB s
 vb : VwB v
 lw : ∀ k, k < v.lins.length → (ln_ v.lins k).wf
def zCx (s : Sta) (v : Vws) : List Nat := zBL s ++ zBh v
def zBb (s : Sta) (v : Vws) : List Nat × Int := if zDb s && zBP v then (if (zCx s v).length > 1048556 then ([], 40) else (zCx s v, 0)) else ([], 4)
theorem zJr {s : Sta} (hb : StaB s) : (zBL s).length ≤ 2100000000 := by
 obtain ⟨b1, b1n, b2, b2n, b3, b4, b4n, b5, b5n⟩ := hb
 have n0 := nb [s.clock, s.fee, s.nextO, s.nextA]
 simp only [List.length_cons, List.length_nil] at n0
 have n1 := zAW b1 fun k hk => zF7 (b1n k hk)
 have n2 := zAW b2 fun k hk => zF8 (b2n k hk)
 have n3 := zAW b3 fun k _ => zF9 (rw_ s.rows k)
 have n4 := zAW b4 fun k _ => zGA (od_ s.orders k)
 have n5 := zAW b5 fun k hk => zIQ (b5n k hk)
 unfold zBL
 simp only [List.length_append]
 omega
theorem zJs {v : Vws} (hb : VwB v) : (zBh v).length ≤ 10000000 := by
 obtain ⟨b1, b1n, b2, b3, b4, b4n⟩ := hb
 have n1 := zAW b1 fun k _ => zGB (op_ v.opn k)
 have n2 := zAW b2 fun k _ => zGC (lt_ v.lots k)
 have n3 := zAW b3 fun k _ => zGD (ps_ v.poss k)
 have n4 := zAW b4 fun k _ => zIR (ln_ v.lins k)
 unfold zBh
 simp only [List.length_append]
 omega
theorem Wr.first (pw : Nat) : Wr [cb pw [.slice none 0 0] 90] pw [] := ⟨none, 0, [], rfl, zAG _ _ _⟩
theorem zE5 {a b : Nat × Obj} (M : zI) : (a :: b :: M).Perm (M ++ [a, b]) := List.perm_append_comm (l₁ := [a, b]) (l₂ := M)
set_option maxHeartbeats 2000000 in
theorem zJt {F : zI} (s : Sta) (p : SPt) (v : Vws) (q : VPt) (hW : SnW s v) (w0 : World) (hF : Mem w0 F) (hs : StaM F s p) (hv : VwM F v q) :
  Calls Tryz.prog 10 [.agg (s.cells p).toArray, .agg (v.cells q).toArray].toArray w0 (Ret (.tuple #[.string (bytesOf (zBb s v).1), .int .i64 (zBb s v).2]) w0) := by
 have hl2 := zJs hW.vb
 have hl : (zCx s v).length = (zBL s).length + (zBh v).length := List.length_append
 have hmay := fun w hM => zLA s p hW.sw w hM hs
 have hvm := fun w hM => zOB v q hW.lw w hM hv
 by_cases h1 : (zDb s && zBP v) = true
 ·obtain ⟨ha, hb⟩ : zDb s = true ∧ zBP v = true := by simpa using h1
  have hsb := hW.sb ha
  have hl1 := zJr hsb
  rw [ha] at hmay
  rw [hb] at hvm
  by_cases h2 : (zCx s v).length > 1048556
  ·have hd : decide (((([] ++ zBL s) ++ zBh v).length : Int) > 1048556) = true := decide_eq_true (by rw [List.nil_append, ← zCx]; omega)
   refine enter [.tmp 4, .tmp 5] Tryz.func10 rfl Tryz.ntmps10 rfl rfl ?_
   have H := zH w0
   repeat' (first | refine y1 sg ?_ | refine y3 ?_ | refine y5 sg ?_ | refine y7 sg H ?_ | (refine y9 H ?_; intro b w H) | (refine' y30 zKp ?_ ?_; rotate_left; exact hmay _ (H.memF hF); intro w hcl; replace H := H.ext hcl; clear hcl) | (refine' y30 zKq ?_ ?_; rotate_left; exact hvm _ (H.memF hF); intro w hcl; replace H := H.ext hcl; clear hcl) | (refine' y33 ent35 ?_ ?_; rotate_left 2; exact c_put (M := [_]) (l := []) s p hF hs hsb H (Wr.first _) (by decide); rintro v N w ⟨rfl, M, rfl, hM⟩ H; replace H := H.perm (zE5 M).symm) | (refine' y33 ent36 ?_ ?_; rotate_left 2; exact zG2 v q hF hv hW.vb (H.perm (zE5 M)) hM (by rw [List.nil_append]; omega); rintro v N w ⟨rfl, M, rfl, hM⟩ H; replace H := H.perm (zE5 M).symm) | (refine' y30 ent37 ?_ ?_; rotate_left; exact zNL _ H.mem (List.subset_append_right [_, _] _) hM (by rw [List.nil_append, List.length_append]; omega); intro w hcl; replace H := H.ext hcl; clear hcl) | refine y13 ?_ | (with_reducible first | apply zB | apply zD | apply zC | apply zF | apply zG | apply zO) | refine zA ?_ | refine y22 ?_ | (refine y23 ?_ ?_; all_goals (intro h; try (exfalso; first | ((rw [hd] at h; cases h); done)))) | fail)
   exact zCO rfl rfl H.cl (by unfold zBb; rw [if_pos h1, if_pos h2]; rfl)
  ·have hd : decide (((([] ++ zBL s) ++ zBh v).length : Int) > 1048556) = false := decide_eq_false (by rw [List.nil_append, ← zCx]; omega)
   refine enter [.tmp 4, .tmp 5] Tryz.func10 rfl Tryz.ntmps10 rfl rfl ?_
   have H := zH w0
   repeat' (first | refine y1 sg ?_ | refine y3 ?_ | refine y5 sg ?_ | refine y7 sg H ?_ | (refine y9 H ?_; intro b w H) | (refine' y30 zKp ?_ ?_; rotate_left; exact hmay _ (H.memF hF); intro w hcl; replace H := H.ext hcl; clear hcl) | (refine' y30 zKq ?_ ?_; rotate_left; exact hvm _ (H.memF hF); intro w hcl; replace H := H.ext hcl; clear hcl) | (refine' y33 ent35 ?_ ?_; rotate_left 2; exact c_put (M := [_]) (l := []) s p hF hs hsb H (Wr.first _) (by decide); rintro v N w ⟨rfl, M, rfl, hM⟩ H; replace H := H.perm (zE5 M).symm) | (refine' y33 ent36 ?_ ?_; rotate_left 2; exact zG2 v q hF hv hW.vb (H.perm (zE5 M)) hM (by rw [List.nil_append]; omega); rintro v N w ⟨rfl, M, rfl, hM⟩ H; replace H := H.perm (zE5 M).symm) | (refine' y30 ent37 ?_ ?_; rotate_left; exact zNL _ H.mem (List.subset_append_right [_, _] _) hM (by rw [List.nil_append, List.length_append]; omega); intro w hcl; replace H := H.ext hcl; clear hcl) | (refine' y30 zMo ?_ ?_; rotate_left; exact zFw _ H.mem (List.subset_append_right [_, _] _) hM (by rw [List.nil_append, List.length_append]; omega); intro w hcl; replace H := H.ext hcl; clear hcl) | refine y13 ?_ | (with_reducible first | apply zB | apply zD | apply zC | apply zF | apply zG) | refine zA ?_ | refine y22 ?_ | (refine y23 ?_ ?_; all_goals (intro h; try (exfalso; first | ((rw [hd] at h; cases h); done)))) | fail)
   exact zCO rfl rfl H.cl (by unfold zBb; rw [if_pos h1, if_neg h2]; rfl)
 ·have e : zBb s v = ([], 4) := by unfold zBb; rw [if_neg h1]
  obtain ⟨ma, hma⟩ : ∃ b, zDb s = b := ⟨_, rfl⟩
  obtain ⟨mb, hmb⟩ : ∃ b, zBP v = b := ⟨_, rfl⟩
  rw [hma] at hmay h1
  rw [hmb] at hvm h1
  refine enter [.tmp 4, .tmp 5] Tryz.func10 rfl Tryz.ntmps10 rfl rfl ?_
  have H := zH w0
  repeat' (first | refine y1 sg ?_ | refine y3 ?_ | refine y5 sg ?_ | refine y7 sg H ?_ | (refine y9 H ?_; intro b w H) | (refine' y30 zKp ?_ ?_; rotate_left; exact hmay _ (H.memF hF); intro w hcl; replace H := H.ext hcl; clear hcl) | (refine' y30 zKq ?_ ?_; rotate_left; exact hvm _ (H.memF hF); intro w hcl; replace H := H.ext hcl; clear hcl) | refine y13 ?_ | refine y14 ?_ | (refine y17 ?_ ?_; all_goals (intro h; try (exfalso; first | ((subst_vars; simp_all; done); done)))) | (with_reducible first | apply zB | apply zD | apply zC | apply zF | apply zO) | refine zA ?_ | refine y21 ?_ | (refine y23 ?_ ?_; all_goals (intro h; try (exfalso; first | ((subst_vars; simp_all; done); done)))) | fail)
  all_goals first
   | exact zCO rfl rfl H.cl (by rw [e]; rfl)
   | (exfalso; simp_all)
def zBu (seq : Nat) (b : List Nat) : List Nat := [115, 110, 112, 49] ++ (be8 seq ++ (be4 b.length ++ b))
def zGR (seq : Int) (s : Sta) (v : Vws) : List Nat × Int := if seq < 0 ∨ seq > 1048576 then ([], 1) else if (zBb s v).2 = 0 then (zA4 (zBu seq.toNat (zBb s v).1), 0) else ([], (zBb s v).2)
theorem zMJ (s : Sta) (v : Vws) : (zBb s v).1.length ≤ 1048556 := by
 unfold zBb; repeat' split
 all_goals first | (simp only [List.length_nil]; omega) | (simp only; omega)
theorem zDo : ∀ n, Byt (short n) := by
 intro n
 induction n using Nat.strongRecOn with
 | ind n ih =>
   by_cases h : n < 128
   ·rw [zAP h]; intro b hb; simp at hb; omega
   ·rw [zA0 h]
    intro b hb
    rcases List.mem_cons.1 hb with rfl | hb
    ·omega
    ·exact ih _ (by omega) b hb
theorem zAg (xs : List Int) : Byt (zr xs) := by
 intro b hb
 obtain ⟨n, _, h⟩ := List.mem_flatMap.1 hb
 exact zDo _ b h
theorem zE6 (b : Bool) : Byt (zAS b) := by intro x hx; cases b <;> simp [zAS] at hx <;> omega
theorem zBB {n : Nat} {ob : Nat → List Nat} (h : ∀ k, k < n → Byt (ob k)) : Byt (zAT n ob) := by
 refine (zDo _).app ?_
 intro b hb
 obtain ⟨k, hk, h1⟩ := List.mem_flatMap.1 hb
 exact h k (List.mem_range.1 hk) b h1
theorem zGS {x : Int} (h : 0 ≤ x ∧ x < 256) : Byt [x.toNat] := by intro b hb; simp at hb; omega
theorem zJu {s : Sta} (hb : StaB s) : Byt (zBL s) := by
 obtain ⟨b1, b1n, b2, b2n, b3, b4, b4n, b5, b5n⟩ := hb
 refine (zAg _).app ((zBB fun k hk => ?_).app ((zBB fun k hk => ?_).app ((zBB fun k hk => ?_).app ((zBB fun k hk => ?_).app (zBB fun k hk => ?_)))))
 ·exact ((zDo _).app (zAy _)).app (zE6 _)
 ·exact ((zDo _).app (zAy _)).app ((zAg _).app (zE6 _))
 ·exact zAg _
 ·exact (zAg _).app ((zGS (b4n k hk)).app (zAg _))
 ·exact (zAg _).app ((zE6 _).app ((zAg _).app (zBB fun k hk => zAg _)))
theorem zJv {v : Vws} (hb : VwB v) : Byt (zBh v) := by
 obtain ⟨b1, b1n, b2, b3, b4, b4n⟩ := hb
 refine (zBB fun k hk => ?_).app ((zBB fun k hk => ?_).app ((zBB fun k hk => ?_).app (zBB fun k hk => ?_)))
 ·exact (zAg _).app ((zGS (b1n k hk)).app (zAg _))
 ·exact zAg _
 ·exact zAg _
 ·exact (zAg _).app ((zGS (b4n k hk)).app (zAg _))
theorem zMK {s : Sta} {v : Vws} (hb : StaB s) (hv : VwB v) : Byt (zCx s v) := (zJu hb).app (zJv hv)
theorem zML {s : Sta} {v : Vws} (hb : zDb s = true → StaB s) (hv : VwB v) : Byt (zBb s v).1 := by
 have h0 : Byt [] := fun b hb => by cases hb
 unfold zBb
 by_cases h : (zDb s && zBP v) = true
 ·rw [if_pos h]
  split
  ·exact h0
  ·exact zMK (hb (by simp at h; exact h.1)) hv
 ·rw [if_neg h]; exact h0
theorem zQJ (n : Nat) : Byt (be4 n) := by
 intro b hb
 simp only [be4, List.mem_cons, List.not_mem_nil, or_false] at hb; omega
theorem zQK (n : Nat) : Byt (be8 n) := by
 intro b hb
 simp only [be8, List.mem_cons, List.not_mem_nil, or_false] at hb; omega
theorem zHC {n : Nat} {b : List Nat} (h : Byt b) : Byt (zBu n b) := by
 refine Byt.app (fun b hb => ?_) ((zQK _).app ((zQJ _).app h))
 simp only [List.mem_cons, List.not_mem_nil, or_false] at hb; omega
theorem zE7 (n : Nat) (b : List Nat) : (zBu n b).length = 16 + b.length := by
 unfold zBu
 simp only [List.length_append, List.length_cons, List.length_nil, show (be8 n).length = 8 from rfl, show (be4 b.length).length = 4 from rfl]
 omega
set_option maxHeartbeats 2000000 in
theorem c_File {F : zI} (seq : Int) (s : Sta) (p : SPt) (v : Vws) (q : VPt) (hW : SnW s v) (w0 : World) (hF : Mem w0 F) (hs : StaM F s p) (hv : VwM F v q) :
  Calls Tryz.prog 11 [.int .i64 seq, .agg (s.cells p).toArray, .agg (v.cells q).toArray].toArray w0 (Ret (.tuple #[.string (bytesOf (zGR seq s v).1), .int .i64 (zGR seq s v).2]) w0) := by
 have hB := fun w hM => zJt s p v q hW w hM hs hv
 by_cases h1 : seq < 0 ∨ seq > 1048576
 ·refine enter [.tmp 6, .tmp 7] Tryz.func11 rfl Tryz.ntmps11 rfl rfl ?_
  have H := zH w0
  repeat' (first | refine y1 sg ?_ | refine y3 ?_ | refine y5 sg ?_ | (refine y9 H ?_; intro b w H) | refine y13 ?_ | refine y14 ?_ | (refine y17 ?_ ?_; all_goals (intro h; try (exfalso; first | ((simp only [decide_eq_true_eq, decide_eq_false_iff_not, gt_iff_lt] at *; omega); done)))) | (with_reducible first | apply zB | apply zD | apply zC | apply zF | apply zO) | refine zA ?_ | refine y21 ?_ | (refine y23 ?_ ?_; all_goals (intro h; try (exfalso; first | ((simp only [decide_eq_true_eq, decide_eq_false_iff_not, gt_iff_lt] at *; omega); done)))) | fail)
  all_goals exact zCO rfl rfl H.cl (by unfold zGR; rw [if_pos h1]; rfl)
 ·obtain ⟨n, rfl⟩ : ∃ n : Nat, seq = (n : Int) := ⟨seq.toNat, by omega⟩
  have hlen := zMJ s v
  have hbt := zML hW.sb hW.vb
  have hF1 : zGR (n : Int) s v = if (zBb s v).2 = 0 then (zA4 (zBu n (zBb s v).1), 0) else ([], (zBb s v).2) := by unfold zGR; rw [if_neg h1, Int.toNat_natCast]
  rw [hF1]
  obtain ⟨⟨B, e⟩, hx⟩ : ∃ x, zBb s v = x := ⟨_, rfl⟩
  rw [hx] at hB hlen hbt ⊢
  simp only at hB hlen hbt ⊢
  have hsz : (bytesOf B).size = B.length := zAc B
  have hst : zN (bytesOf B) = B := zx hbt
  by_cases he : e = 0
  ·subst he
   have hw64 : IntKind.u64.wrap (n : Int) = (n : Int) := zBI (by omega)
   have hw32 : IntKind.u32.wrap ((bytesOf B).size : Int) = (B.length : Int) := by
    have : IntKind.u32.wrap ((B.length : Nat) : Int) = ((B.length % 4294967296 : Nat) : Int) := by simp [IntKind.wrap, IntKind.bits, IntKind.signed]
    rw [hsz, this, Nat.mod_eq_of_lt (by omega)]
   have hm : zN ⟨#[115, 110, 112, 49]⟩ = [115, 110, 112, 49] := by decide
   have htot : ((([] ++ zN ⟨#[115, 110, 112, 49]⟩) ++ be8 n) ++ be4 B.length) ++ zN (bytesOf B) = zBu n B := by
    rw [hm, hst]; simp [zBu]
   have hhl := zE7 n B
   have hhb := zHC (n := n) hbt
   refine enter [.tmp 6, .tmp 7] Tryz.func11 rfl Tryz.ntmps11 rfl rfl ?_
   have H := zH w0
   repeat' (first | refine y1 sg ?_ | refine y3 ?_ | refine y5 sg ?_ | refine y7 sg H ?_ | (refine y9 H ?_; intro b w H) | (refine' y30 zKn ?_ ?_; rotate_left; exact hB _ (H.memF hF); intro w hcl; replace H := H.ext hcl; clear hcl) | (refine' y33 zMp ?_ ?_; rotate_left 2; exact zJW (M := [_]) (l := []) ⟨#[115, 110, 112, 49]⟩ (by decide) H (Wr.first _) (by decide); rintro v N w ⟨rfl, M, rfl, hM⟩ H) | (refine' y33 ent40 ?_ ?_; rotate_left 2; exact c_U64 n hw64 H hM (by rw [hm]; simp); rintro v N w ⟨rfl, M, rfl, hM⟩ H) | (refine' y33 ent41 ?_ ?_; rotate_left 2; exact c_U32 B.length (by omega) hw32 H hM (by rw [hm]; simp [be8]); rintro v N w ⟨rfl, M, rfl, hM⟩ H) | (refine' y33 zMp ?_ ?_; rotate_left 2; exact zJW (bytesOf B) (by omega) H hM (by rw [hm]; simp [be8, be4]); rintro v N w ⟨rfl, M, rfl, hM⟩ H; rw [htot] at hM) | (refine' y30 zMo ?_ ?_; rotate_left; exact zFw _ H.mem (List.subset_append_left _ _) hM (by omega); intro w hcl; replace H := H.ext hcl; clear hcl) | (refine' y30 ent42 ?_ ?_; rotate_left; exact zOF (bytesOf (zBu n B)) (by rw [zAc]; omega) _; intro w hcl; replace H := H.ext hcl; clear hcl) | refine y13 ?_ | (with_reducible first | apply zB | apply zD | apply zC | apply zF | apply zG) | refine zA ?_ | refine y22 ?_ | (refine y23 ?_ ?_; all_goals (intro h; try (exfalso; first | ((simp only [decide_eq_true_eq, decide_eq_false_iff_not, gt_iff_lt] at *; omega); done)))) | fail)
   all_goals exact zCO rfl rfl H.cl (by rw [if_pos rfl, zx hhb])
  ·have hd : (e != 0) = true := by simp [he]
   refine enter [.tmp 6, .tmp 7] Tryz.func11 rfl Tryz.ntmps11 rfl rfl ?_
   have H := zH w0
   repeat' (first | refine y1 sg ?_ | refine y3 ?_ | refine y5 sg ?_ | refine y7 sg H ?_ | (refine y9 H ?_; intro b w H) | (refine' y30 zKn ?_ ?_; rotate_left; exact hB _ (H.memF hF); intro w hcl; replace H := H.ext hcl; clear hcl) | refine y13 ?_ | (with_reducible first | apply zB | apply zD | apply zC | apply zF | apply zG | apply zO) | refine zA ?_ | (refine y23 ?_ ?_; all_goals (intro h; try (exfalso; first | ((rw [hd] at h; cases h); done) | ((simp only [decide_eq_true_eq, decide_eq_false_iff_not, gt_iff_lt] at *; omega); done)))) | fail)
   all_goals exact zCO rfl rfl H.cl (by rw [if_neg he]; rfl)
end Go.Proofs.YtggolnppckpdlaaGreat
set_option linter.unusedSimpArgs false
set_option linter.unusedVariables false
namespace Go.Proofs.YtggolnppckpdlaaGreat
open Go Go.Sk Go.RowKit
theorem uq_acc : zCB zIT := by
 refine zCD (P := sqP (sqP (zBq) (zFH 24)) zDW) (fun z => (⟨z.1.2, z.2⟩ : Ac)) (fun x => (((), x.name), x.opn)) (za (za (zCC) zK4) zHe) ?_
 rintro x l ⟨a0, rfl⟩
 exact ⟨by cases x; simp_all, ⟨_, _, ⟨_, _, rfl, ⟨a0, rfl⟩, rfl⟩, rfl, by simp [List.append_assoc]⟩⟩
theorem uq_ins : zCB zIU := by
 refine zCD (P := sqP (sqP (sqP (zBq) (zFH 24)) (ze 4611686018427387904)) zDW) (fun z => (⟨z.1.1.2, z.1.2, z.2⟩ : Ins)) (fun x => ((((), x.name), x.tick), x.halted)) (za (za (za (zCC) zK4) (zq (by decide))) zHe) ?_
 rintro x l ⟨a0, ⟨a1, b1⟩, rfl⟩
 exact ⟨by cases x; simp_all, ⟨_, _, ⟨_, _, ⟨_, _, rfl, ⟨a0, rfl⟩, rfl⟩, ⟨a1, b1, rfl⟩, rfl⟩, rfl, by simp [List.append_assoc]⟩⟩
theorem uq_ord : zCB zIV := by
 refine zCD (P := sqP (sqP (sqP (sqP (sqP (sqP (zBq) (ze 4611686018427387904)) (ze 64)) (ze 16)) (zDp 1)) (ze 4611686018427387904)) (ze 4611686018427387904)) (fun z => (⟨z.1.1.1.1.1.2, z.1.1.1.1.2, z.1.1.1.2, ((z.1.1.2 : Nat) : Int), z.1.2, z.2⟩ : Odr)) (fun x => (((((((), x.id), x.acct), x.inst), x.side.toNat), x.price), x.left)) (za (za (za (za (za (za (zCC) (zq (by decide))) (zq (by decide))) (zq (by decide))) zHf) (zq (by decide))) (zq (by decide))) ?_
 rintro x l ⟨⟨a0, b0⟩, ⟨a1, b1⟩, ⟨a2, b2⟩, ⟨a3, b3⟩, ⟨a4, b4⟩, ⟨a5, b5⟩, rfl⟩
 exact ⟨by have := Int.toNat_of_nonneg a3; cases x; simp_all, ⟨_, _, ⟨_, _, ⟨_, _, ⟨_, _, ⟨_, _, ⟨_, _, rfl, ⟨a0, b0, rfl⟩, rfl⟩, ⟨a1, b1, rfl⟩, rfl⟩, ⟨a2, b2, rfl⟩, rfl⟩, ⟨by show Int.toNat _ < 256; omega, rfl⟩, rfl⟩, ⟨a4, b4, rfl⟩, rfl⟩, ⟨a5, b5, rfl⟩, by simp [List.append_assoc]⟩⟩
theorem uq_bid : zCB zIW := by
 refine zCD (P := sqP (sqP (zBq) (ze 64)) (ze 4611686018427387904)) (fun z => (⟨z.1.2, z.2⟩ : Bid)) (fun x => (((), x.acct), x.amount)) (za (za (zCC) (zq (by decide))) (zq (by decide))) ?_
 rintro x l ⟨⟨a0, b0⟩, ⟨a1, b1⟩, rfl⟩
 exact ⟨by cases x; simp_all, ⟨_, _, ⟨_, _, rfl, ⟨a0, b0, rfl⟩, rfl⟩, ⟨a1, b1, rfl⟩, by simp [List.append_assoc]⟩⟩
theorem uq_opn : zCB zIX := by
 refine zCD (P := sqP (sqP (sqP (sqP (sqP (sqP (zBq) (ze 64)) (ze 4611686018427387904)) (ze 16)) (zDp 1)) (ze 4611686018427387904)) (ze 4611686018427387904)) (fun z => (⟨z.1.1.1.1.1.2, z.1.1.1.1.2, z.1.1.1.2, ((z.1.1.2 : Nat) : Int), z.1.2, z.2⟩ : Opn)) (fun x => (((((((), x.acct), x.id), x.inst), x.side.toNat), x.price), x.left)) (za (za (za (za (za (za (zCC) (zq (by decide))) (zq (by decide))) (zq (by decide))) zHf) (zq (by decide))) (zq (by decide))) ?_
 rintro x l ⟨⟨a0, b0⟩, ⟨a1, b1⟩, ⟨a2, b2⟩, ⟨a3, b3⟩, ⟨a4, b4⟩, ⟨a5, b5⟩, rfl⟩
 exact ⟨by have := Int.toNat_of_nonneg a3; cases x; simp_all, ⟨_, _, ⟨_, _, ⟨_, _, ⟨_, _, ⟨_, _, ⟨_, _, rfl, ⟨a0, b0, rfl⟩, rfl⟩, ⟨a1, b1, rfl⟩, rfl⟩, ⟨a2, b2, rfl⟩, rfl⟩, ⟨by show Int.toNat _ < 256; omega, rfl⟩, rfl⟩, ⟨a4, b4, rfl⟩, rfl⟩, ⟨a5, b5, rfl⟩, by simp [List.append_assoc]⟩⟩
theorem uq_lot : zCB zIY := by
 refine zCD (P := sqP (sqP (sqP (sqP (zBq) (ze 4611686018427387904)) (ze 64)) (ze 16)) (ze 4611686018427387904)) (fun z => (⟨z.1.1.1.2, z.1.1.2, z.1.2, z.2⟩ : Lt)) (fun x => (((((), x.id), x.seller), x.inst), x.qty)) (za (za (za (za (zCC) (zq (by decide))) (zq (by decide))) (zq (by decide))) (zq (by decide))) ?_
 rintro x l ⟨⟨a0, b0⟩, ⟨a1, b1⟩, ⟨a2, b2⟩, ⟨a3, b3⟩, rfl⟩
 exact ⟨by cases x; simp_all, ⟨_, _, ⟨_, _, ⟨_, _, ⟨_, _, rfl, ⟨a0, b0, rfl⟩, rfl⟩, ⟨a1, b1, rfl⟩, rfl⟩, ⟨a2, b2, rfl⟩, rfl⟩, ⟨a3, b3, rfl⟩, by simp [List.append_assoc]⟩⟩
theorem uq_pos : zCB zIZ := by
 refine zCD (P := sqP (sqP (sqP (sqP (sqP (sqP (zBq) (ze 64)) (ze 16)) (ze 4611686018427387904)) (ze 4611686018427387904)) (ze 4611686018427387904)) (ze 4611686018427387904)) (fun z => (⟨z.1.1.1.1.1.2, z.1.1.1.1.2, z.1.1.1.2, z.1.1.2, z.1.2, z.2⟩ : Psn)) (fun x => (((((((), x.acct), x.inst), x.bought), x.sold), x.spent), x.got)) (za (za (za (za (za (za (zCC) (zq (by decide))) (zq (by decide))) (zq (by decide))) (zq (by decide))) (zq (by decide))) (zq (by decide))) ?_
 rintro x l ⟨⟨a0, b0⟩, ⟨a1, b1⟩, ⟨a2, b2⟩, ⟨a3, b3⟩, ⟨a4, b4⟩, ⟨a5, b5⟩, rfl⟩
 exact ⟨by cases x; simp_all, ⟨_, _, ⟨_, _, ⟨_, _, ⟨_, _, ⟨_, _, ⟨_, _, rfl, ⟨a0, b0, rfl⟩, rfl⟩, ⟨a1, b1, rfl⟩, rfl⟩, ⟨a2, b2, rfl⟩, rfl⟩, ⟨a3, b3, rfl⟩, rfl⟩, ⟨a4, b4, rfl⟩, rfl⟩, ⟨a5, b5, rfl⟩, by simp [List.append_assoc]⟩⟩
theorem uq_lin : zCB zIa := by
 refine zCD (P := sqP (sqP (sqP (sqP (sqP (zBq) (ze 64)) (ze 4611686018427387904)) (zDp 1)) (ze 4611686018427387904)) (ze 4611686018427387904)) (fun z => (⟨z.1.1.1.1.2, z.1.1.1.2, ((z.1.1.2 : Nat) : Int), zAU (z.1.2), z.2⟩ : Ln)) (fun x => ((((((), x.acct), x.seq), x.kind.toNat), (zA3 x.delta)), x.bal)) (za (za (za (za (za (zCC) (zq (by decide))) (zq (by decide))) zHf) (zq (by decide))) (zq (by decide))) ?_
 rintro x l ⟨⟨a0, b0⟩, ⟨a1, b1⟩, ⟨a2, b2⟩, ⟨a3, b3⟩, ⟨a4, b4⟩, edelta, rfl⟩
 exact ⟨by have := Int.toNat_of_nonneg a2; cases x; simp_all, ⟨_, _, ⟨_, _, ⟨_, _, ⟨_, _, ⟨_, _, rfl, ⟨a0, b0, rfl⟩, rfl⟩, ⟨a1, b1, rfl⟩, rfl⟩, ⟨by show Int.toNat _ < 256; omega, rfl⟩, rfl⟩, ⟨a3, b3, rfl⟩, rfl⟩, ⟨a4, b4, rfl⟩, by simp [List.append_assoc]⟩⟩
theorem uq_row : zCB zGg := by
 refine zCD (P := rowS) (fun z => zj ⟨z.1.1.1.2, z.1.1.2, z.1.2, z.2⟩) (fun x => (((((), x.acct), x.asset), (zj x).free), x.held)) ?_ zNq
 exact za (za (za (za zCC (zq (by decide))) (zq (by decide))) (zq (by decide))) (zq (by decide))
theorem uq_auc : zCB zGh := by
 refine zCD (P := aucS) zNt zCZ ?_ (fun z l h => ⟨rfl, h⟩)
 exact za (za (za (za (za (za (za (za (za zCC (zq (by decide))) (zq (by decide))) (zq (by decide))) zHe) (zq (by decide))) (zq (by decide))) (zq (by decide))) (zq (by decide))) (zB1 uq_bid)
theorem zLE {d : Int} (h0 : d ≠ 0) (h1 : -4611686018427387904 ≤ d) (h2 : d ≤ 4611686018427387903) : zEc d = zA3 d := by
 unfold zEc zA3
 by_cases h : d > 0
 ·rw [if_pos h, if_pos h, w64 (by omega) (by omega)]
 ·rw [if_neg h, if_neg h, if_neg h0]
  by_cases h3 : d = -4611686018427387904
  ·subst h3; decide
  ·rw [w64 (x := -2 * d) (by omega) (by omega), w64 (by omega) (by omega)]
theorem many_B {α : Type} [Inhabited α] {P : α → List Nat → Prop} {B : α → List Nat} {xs : List α} (h : ∀ x ∈ xs, ∀ l, P x l → l = B x) : ∀ {l : List Nat}, zCH P xs l → l = xs.flatMap B := by
 induction xs with
 | nil => rintro l rfl; rfl
 | cons x xs ih =>
   rintro l ⟨a, b, p, q, rfl⟩
   rw [List.flatMap_cons, h x (List.mem_cons_self) a p, ih (fun y hy => h y (List.mem_cons_of_mem _ hy)) q]
theorem B_many {α : Type} {P : α → List Nat → Prop} {B : α → List Nat} {xs : List α} (h : ∀ x ∈ xs, P x (B x)) : zCH P xs (xs.flatMap B) := by
 induction xs with
 | nil => rfl
 | cons x xs ih => exact ⟨B x, xs.flatMap B, h x (List.mem_cons_self), ih (fun y hy => h y (List.mem_cons_of_mem _ hy)), by rw [List.flatMap_cons]⟩
theorem zGT {α : Type} [Inhabited α] (B : α → List Nat) (xs : List α) : (List.range xs.length).flatMap (fun k => B (xs.getD k default)) = xs.flatMap B := by
 have h : (List.range xs.length).map (fun k => xs.getD k default) = xs := by
  apply List.ext_getElem
  ·simp
  ·intro i h1 h2
   simp [List.getD_eq_getElem?_getD, List.getElem?_eq_getElem h2]
 conv => rhs; rw [← h, List.flatMap_map]
theorem zCo {α : Type} [Inhabited α] {P : α → List Nat → Prop} {B : α → List Nat} {xs : List α} (h : ∀ x ∈ xs, ∀ l, P x l → l = B x) {l : List Nat} (hl : zy P xs l) : l = zAT xs.length (fun k => B (xs.getD k default)) := by
 obtain ⟨l2, h2, rfl⟩ := hl
 unfold zAT
 rw [zGT, many_B h h2]
theorem zCp {α : Type} [Inhabited α] {P : α → List Nat → Prop} {B : α → List Nat} {xs : List α} (h : ∀ x ∈ xs, P x (B x)) : zy P xs (zAT xs.length (fun k => B (xs.getD k default))) := by
 refine ⟨_, B_many h, ?_⟩
 unfold zAT
 rw [zGT]
end Go.Proofs.YtggolnppckpdlaaGreat
set_option linter.unusedSimpArgs false
set_option linter.unusedVariables false
namespace Go.Proofs.YtggolnppckpdlaaGreat
open Go Go.Sk Go.RowKit
def OwnB (M : zI) (a : Option Addr) (cap : Nat) (l : List Bid) : Prop := Go.Sk.Own M 78 2 a l.length cap ((List.range l.length).flatMap (bel l))
theorem zHq (l : List Bid) (j : Nat) : (bel l j).length = 2 := rfl
theorem OwnB.bids {M F : zI} {a : Option Addr} {cap : Nat} {l : List Bid} (h : OwnB M a cap l) (hM : M ⊆ F) (hn : l.length ≤ 140737488355328) : Bids F a cap l := Go.Sk.Own.sl h hM (fun j _ => zHq l j) hn
def Auc.zero : Auc := ⟨0, 0, 0, false, 0, 0, 0, 0, []⟩
def Bid.zero : Bid := ⟨0, 0⟩
end Go.Proofs.YtggolnppckpdlaaGreat
set_option linter.unusedSimpArgs false
set_option linter.unusedVariables false
namespace Go.Proofs.YtggolnppckpdlaaGreat
open Go Go.Sk Go.RowKit
theorem zMM {n m : Int} (h : zp n m = true) : 1 ≤ n ∧ n ≤ m := by
 simp only [zp, Bool.and_eq_true, decide_eq_true_eq] at h; omega
theorem zQL {x : Auc} (h : zCA x = true) (j : Nat) (hj : j < x.bids.length) : zA6 x j = false := by
 unfold zCA at h
 rcases z7 (zA6 x) x.bids.length with ⟨k, h1, _, _, h2⟩ | ⟨h1, _⟩
 ·rw [h2] at h; simp at h; omega
 ·exact h1 j hj
def zQM (x : Auc) : Int := if (x.bids.length : Int) == 0 then x.reserve else (zGf (x.bids.getD 0 default).amount x.step).1
end Go.Proofs.YtggolnppckpdlaaGreat
set_option linter.unusedSimpArgs false
set_option linter.unusedVariables false
namespace Go.Proofs.YtggolnppckpdlaaGreat
open Go Go.Sk Go.RowKit
def stakeF (x : Auc) (b : Bid) : List Bid × Int :=
 if idx (fun i => (x.bids.getD i default).acct == b.acct) x.bids.length ≥ 0 then ([], 6) else if (x.bids.length : Int) ≥ 16 then ([], 40) else (x.bids ++ [b], 0)
def etakeF (x : Auc) (y : Bid) : List Bid × Int := if y.amount < zQM x then ([], 51) else ([y], 0)
def Auc.put (x : Auc) (l : List Bid) : Auc := ⟨x.id, x.seller, x.inst, x.sealed, x.qty, x.reserve, x.step, x.fin, l⟩
def manF (x : Auc) (y : Bid) : List Bid × Int := if x.sealed then stakeF x y else etakeF x y
def zOG (x : Auc) (y : Bid) : Auc × Int :=
 if zBX x = false then (Auc.zero, 4) else if (zp y.acct 64 && zp y.amount 1125899906842624) = false then (Auc.zero, 1) else if y.acct == x.seller then (Auc.zero, 49)
 else if (manF x y).2 != 0 then (Auc.zero, (manF x y).2) else (x.put (manF x y).1, 0)
end Go.Proofs.YtggolnppckpdlaaGreat
set_option linter.unusedSimpArgs false
set_option linter.unusedVariables false
namespace Go.Proofs.YtggolnppckpdlaaGreat
open Go Go.Sk Go.RowKit
theorem zJw {el : Nat → List Value} {size n : Nat} (hel : ∀ j, j < n → (el j).length = size) : ((List.range n).flatMap el).length = n * size := by
 induction n with
 | zero => simp
 | succ n ih => rw [List.range_succ, List.flatMap_append, List.length_append, ih (fun j hj => hel j (by omega)), List.flatMap_singleton, hel n (by omega), Nat.succ_mul]
theorem flat_at_s {size n b off : Nat} {a : Option Addr} {cs : List Value} {T : TypeId} {fr : Nat × Nat} {F : zI} {el : Nat → List Value} (hs : SlB F size a n b off cs T fr el) (hel : ∀ j, j < n → (el j).length = size) :
  ∀ m, m ≤ n → ∀ j u, ((List.range m).flatMap el)[j]? = some u → cs[off + j]? = some u := by
 intro m
 induction m with
 | zero => intro _ j u hj; cases hj
 | succ m ih =>
   intro hm j u hj
   have hlen : ((List.range m).flatMap el).length = m * size := zJw fun j hj => hel j (by omega)
   rw [List.range_succ, List.flatMap_append, List.flatMap_singleton] at hj
   by_cases hjm : j < m * size
   ·rw [List.getElem?_append_left (by rw [hlen]; exact hjm)] at hj
    exact ih (by omega) j u hj
   ·rw [List.getElem?_append_right (by rw [hlen]; omega), hlen] at hj
    have h2 := ((hs (by omega)).2.2 m (by omega)).2
    rw [← h2, List.getElem?_take] at hj
    split at hj
    ·rw [List.getElem?_drop] at hj
     rw [show off + j = off + m * size + (j - m * size) by omega]; exact hj
    ·cases hj
end Go.Proofs.YtggolnppckpdlaaGreat
set_option linter.unusedSimpArgs false
set_option linter.unusedVariables false
namespace Go.Proofs.YtggolnppckpdlaaGreat
open Go Go.Sk Go.RowKit
abbrev AE := Auc × Option Addr × Nat
def AE.c (p : AE) : List Value := p.1.cells p.2.1 p.2.2
theorem AE.c_len (p : AE) : p.c.length = 9 := rfl
structure Arr (w0 : World) (g : Nat) (len n : Nat) (G : zI) (d : Nat → AE) (cs : List Value) (w : World) : Prop where
 st : St w0 (cb g cs 81 :: G) w
 len : cs.length = len
 els : Els cs 9 n (fun j => (d j).c)
theorem Arr.ext {w0 w w' : World} {g len n : Nat} {G : zI} {d : Nat → AE} {cs : List Value} (h : Arr w0 g len n G d cs w) (k : Cl w w') : Arr w0 g len n G d cs w' := ⟨h.st.ext k, h.len, h.els⟩
def upd (d : Nat → AE) (k : Nat) (v : AE) : Nat → AE := fun t => if t = k then v else d t
theorem Arr.fit {w0 w : World} {g len n k : Nat} {G : zI} {d : Nat → AE} {cs : List Value} (h : Arr w0 g len n G d cs w) (hk : k < n) (v : AE) : 0 + k * 9 + v.c.length ≤ cs.length := by
 have := (h.els k hk).1
 rw [AE.c_len]; omega
theorem Arr.put {w0 w w' : World} {g len n k : Nat} {G : zI} {d : Nat → AE} {cs : List Value} {v : AE} (h : Arr w0 g len n G d cs w) (hk : k < n) (hs : St w0 (cb g (wr cs (0 + k * 9) v.c) 81 :: G) w') :
  Arr w0 g len n G (upd d k v) (wr cs (0 + k * 9) v.c) w' :=
 ⟨hs, by rw [zFr (h.fit hk v)]; exact h.len, by rw [Nat.zero_add]; exact (h.els.wr hk (AE.c_len v)).congr (fun j _ => by unfold upd; split <;> rfl)⟩
end Go.Proofs.YtggolnppckpdlaaGreat
set_option linter.unusedSimpArgs false
set_option linter.unusedVariables false
namespace Go.Proofs.YtggolnppckpdlaaGreat
open Go Go.Sk Go.RowKit
attribute [local irreducible] Go.Calls
theorem Bids.none (F : zI) : Bids F none 0 [] := ⟨Nat.le_refl _, by decide, 0, 0, [], 0, (0, 0), fun h => absurd h (by decide)⟩
theorem Bids.blk {F : zI} {b cap : Nat} {T : TypeId} (l : List Bid) (hm : cb b ((List.range l.length).flatMap (bel l)) T ∈ F) (hc : l.length ≤ cap) (hn : l.length ≤ 140737488355328) : Bids F (some ⟨b, 0, Option.none⟩) cap l := by
 refine ⟨hc, hn, b, 0, _, T, (0, 0), fun _ => ⟨rfl, hm, fun j hj => ?_⟩⟩
 have hl := zEQ (el := bel l) (size := 2) l.length (fun j _ => zHq l j)
 refine ⟨by rw [hl]; omega, ?_⟩
 rw [Nat.zero_add]
 exact zER l.length (fun j _ => zHq l j) j hj
theorem Aucs.blk {F : zI} {b cap : Nat} {T : TypeId} (l : List Auc) (ad : Nat → Option Addr × Nat) (hm : cb b ((List.range l.length).flatMap (ael l ad)) T ∈ F) (hc : l.length ≤ cap) (hn : l.length ≤ 140737488355328) (hb : ∀ j, j < l.length → Bids F (ad j).1 (ad j).2 (l.getD j default).bids) : Aucs F (some ⟨b, 0, Option.none⟩) cap l ad := by
 refine ⟨⟨hc, hn, b, 0, _, T, (0, 0), fun _ => ⟨rfl, hm, fun j hj => ?_⟩⟩, hb⟩
 have hl := zEQ (el := ael l ad) (size := 9) l.length (fun j _ => rfl)
 refine ⟨by rw [hl]; omega, ?_⟩
 rw [Nat.zero_add]
 exact zER (el := ael l ad) (size := 9) l.length (fun j _ => rfl) j hj
theorem Bids.b1 {F : zI} {b : Nat} {T : TypeId} {x y : Int} (hm : cb b [.int .i64 x, .int .i64 y] T ∈ F) : Bids F (some ⟨b, 0, Option.none⟩) 1 [⟨x, y⟩] := Bids.blk (cap := 1) [⟨x, y⟩] hm (Nat.le_refl _) (Nat.le_trans (Nat.le_refl 1) (by decide))
theorem Bids.b2 {F : zI} {b : Nat} {T : TypeId} {x y x' y' : Int} (hm : cb b [.int .i64 x, .int .i64 y, .int .i64 x', .int .i64 y'] T ∈ F) : Bids F (some ⟨b, 0, Option.none⟩) 2 [⟨x, y⟩, ⟨x', y'⟩] := Bids.blk (cap := 2) [⟨x, y⟩, ⟨x', y'⟩] hm (Nat.le_refl _) (Nat.le_trans (Nat.le_refl 2) (by decide))
theorem Bids.b3 {F : zI} {b : Nat} {T : TypeId} {x y x' y' x'' y'' : Int} (hm : cb b [.int .i64 x, .int .i64 y, .int .i64 x', .int .i64 y', .int .i64 x'', .int .i64 y''] T ∈ F) : Bids F (some ⟨b, 0, Option.none⟩) 3 [⟨x, y⟩, ⟨x', y'⟩, ⟨x'', y''⟩] := Bids.blk (cap := 3) [⟨x, y⟩, ⟨x', y'⟩, ⟨x'', y''⟩] hm (Nat.le_refl _) (Nat.le_trans (Nat.le_refl 3) (by decide))
end Go.Proofs.YtggolnppckpdlaaGreat
set_option linter.unusedSimpArgs false
set_option linter.unusedVariables false
namespace Go.Proofs.YtggolnppckpdlaaGreat
open Go Go.Sk Go.RowKit
theorem zLF {x : Auc} (h : zBX x = true) (he : x.sealed = false) : x.bids.length ≤ 1 ∧ (x.bids.length = 0 ∨ (x.bids.getD 0 default).amount ≥ x.reserve) := by
 simp only [zBX, Bool.and_eq_true, zAn, he, zDw, Bool.false_eq_true, if_false, Bool.or_eq_true, decide_eq_true_eq, beq_iff_eq] at h
 obtain ⟨h1, h2⟩ := h.1.2.2
 refine ⟨by omega, ?_⟩
 rcases h2 with h2 | h2
 ·exact .inl (by omega)
 ·exact .inr h2
end Go.Proofs.YtggolnppckpdlaaGreat
set_option linter.unusedSimpArgs false
set_option linter.unusedVariables false
namespace Go.Proofs.YtggolnppckpdlaaGreat
open Go Go.Sk Go.RowKit
theorem zCL {x : Auc} (h : zBX x = true) : zp x.id 1099511627776 = true ∧ zp x.seller 64 = true ∧ zp x.inst 16 = true ∧ zp x.qty 1048576 = true ∧ zp x.reserve 1125899906842624 = true ∧ zp x.fin 1099511627776 = true ∧ zAn x = true ∧ zCA x = true := by
 simp only [zBX, Bool.and_eq_true] at h
 exact ⟨h.1.1.1.1.1.1.1, h.1.1.1.1.1.1.2, h.1.1.1.1.1.2, h.1.1.1.1.2, h.1.1.1.2, h.1.1.2, h.1.2, h.2⟩
theorem zMN {x : Auc} (h : ∀ j, j < x.bids.length → zA6 x j = false) : zCA x = true := by
 unfold zCA
 rw [zAm h]
 rfl
theorem take_zero {x : Auc} {y : Bid} (h : (zOG x y).2 ≠ 0) : (zOG x y).1 = Auc.zero := by
 unfold zOG at h ⊢
 repeat' split
 all_goals first | rfl | (exfalso; simp_all; done)
structure Taken (x : Auc) (y : Bid) (c : Auc) : Prop where
 may : zBX x = true
 acct : zp y.acct 64 = true
 amount : zp y.amount 1125899906842624 = true
 other : y.acct ≠ x.seller
 put : c = x.put (manF x y).1
 ok : (manF x y).2 = 0
theorem zEH {x : Auc} {j : Nat} : zA6 x j = false ↔ zp (x.bids.getD j default).acct 64 = true ∧ (x.bids.getD j default).acct ≠ x.seller ∧ zp (x.bids.getD j default).amount 1125899906842624 = true ∧ ∀ i, i < j → (x.bids.getD i default).acct ≠ (x.bids.getD j default).acct := by
 unfold zA6
 simp only [Bool.or_eq_false_iff, Bool.not_eq_false', decide_eq_false_iff_not, beq_eq_false_iff_ne, ne_eq, and_assoc]
 refine ⟨fun ⟨h1, h2, h3, h4⟩ => ⟨h1, h2, h3, fun i hi e => ?_⟩, fun ⟨h1, h2, h3, h4⟩ => ⟨h1, h2, h3, fun hc => ?_⟩⟩
 ·rcases z7 (fun i => (x.bids.getD i default).acct == (x.bids.getD j default).acct) j with ⟨k, _, _, _, h5⟩ | ⟨hn, _⟩
  ·rw [h5] at h4; omega
  ·have := hn i hi
   rw [e, beq_self_eq_true] at this; cases this
 ·rcases z7 (fun i => (x.bids.getD i default).acct == (x.bids.getD j default).acct) j with ⟨k, hk, _, h6, h5⟩ | ⟨_, h5⟩
  ·exact h4 k hk (by simpa using h6)
  ·rw [h5] at hc; omega
theorem zOH {x : Auc} (h : zBX x = true) {j : Nat} (hj : j < x.bids.length) : zA6 x j = false := zQL (zCL h).2.2.2.2.2.2.2 j hj
end Go.Proofs.YtggolnppckpdlaaGreat
