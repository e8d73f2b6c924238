/- Texts of ours, joined: the steps of the proof, or the claim's theorem. -/
import Derived.Test.YtggolnppckpdlaaGreatQ05
import Derived.Test.YtggolnppckpdlaaGreatQ12
set_option linter.unusedSectionVars false
set_option linter.unusedSimpArgs false
namespace Go.Sk
open Go Go.RowKit
theorem nfL_arr (k : IntKind) (f : Nat → Int) (n : Nat) : nfL (arrI k n f) = some (arrI k n f) := by
  unfold arrI
  induction (List.range n) with
  | nil => rfl
  | cons x t ih => rw [List.map_cons, nfL, ih]; rfl
theorem nf_arr (k : IntKind) (f : Nat → Int) (n : Nat) : nf (.agg (arrI k n f).toArray) = some (.agg (arrI k n f).toArray) := rfl
theorem arr_one (k : IntKind) (f : Nat → Int) (n : Nat) : ∀ u ∈ arrI k n f, u.oneCell' = true := by
  intro u hu
  obtain ⟨j, _, rfl⟩ := List.mem_map.1 hu
  rfl
section
variable {P : Program} {n : Nw} {ops : Array Oper} {Q : Post} {o : Oper} {rest : List Oper} {L : List (Nat × Value)} {b0 : Env} {w : World} (S : Sig P)
theorem OX.boxA {w0 : World} {G : Frag} {t : TypeId} {x : Operand} {d m : Nat} {q : IntKind} {f : Nat → Int} (H : St w0 G w) (hx : ev (ovl L b0) x = .agg (arrI q m f).toArray) (k : ∀ b w', St w0 (cb b (arrI q m f) t :: G) w' → OW P n ops Q rest (ovl ((d, .pointer (some ⟨b, 0, none⟩)) :: L) b0) w')
    (ho : o.op = .box t x := by exact rfl) (hd : o.dst = some d := by exact rfl) (hlt : Nat.blt d n.n = true := by exact rfl) : OX P n ops Q o rest (ovl L b0) w :=
  OX.box H ho hd hlt (by rw [hx]; exact nf_arr q f m) (show nfL _ = some (arrI q m f) by show nfL (arrI q m f).toArray.toList = _; rw [List.toList_toArray]; exact nfL_arr _ _ _) fun b w' H' _ => k b w' H'
theorem OX.storeAW {w0 : World} {G G' : Frag} {t : TypeId} {x y : Operand} {b m : Nat} {T : TypeId} {q : IntKind} {f g : Nat → Int} {ti : TI} (H : St w0 G w) (hu : Up b (.cells (arrI q m f).toArray T (0, 0)) (.cells (arrI q m g).toArray T (0, 0)) G G')
    (kk : ∀ w', St w0 G' w' → OW P n ops Q rest (ovl L b0) w') (hsz : ti.size = m) (ho : o.op = .store t x y := by exact rfl) (hd : o.dst = none := by exact rfl)
    (hx : ev (ovl L b0) x = .pointer (some ⟨b, 0, none⟩) := by exact rfl) (hy : ev (ovl L b0) y = .agg (arrI q m g).toArray := by exact rfl) (ht : lk S.tab t = some ti := by exact rfl) : OX P n ops Q o rest (ovl L b0) w := by
  refine OX.storeX S H ho hd hx hy (vs := arrI q m g) (cs := arrI q m f) (T := T) rfl ht (by rw [arrI_len, hsz]) ?_ (by rw [arrI_len, arrI_len]; omega) (arr_one _ _ _) kk
  have : wr (arrI q m f) 0 (arrI q m g) = arrI q m g := by
    apply List.ext_getElem?
    intro i
    rw [wr_get (by rw [arrI_len, arrI_len]; omega), arrI_len]
    rcases Nat.lt_or_ge i m with h | h
    · rw [if_pos ⟨Nat.zero_le _, by omega⟩, Nat.sub_zero]
    · rw [if_neg (by omega), List.getElem?_eq_none (by rw [arrI_len]; exact h), List.getElem?_eq_none (by rw [arrI_len]; exact h)]
  rw [this]; exact hu
end
end Go.Sk
set_option linter.unusedSimpArgs false
set_option linter.unusedVariables false
namespace Go.Proofs.YtggolnppckpdlaaGreat
open Go Go.Sk Go.RowKit
attribute [local irreducible] Go.Calls
def stepN (c : Nat) : Nat := if c % 2 = 1 then (c / 2) ^^^ 3988292384 else c / 2
def stepsN : Nat → Nat → Nat
  | 0, c => c
  | k + 1, c => stepN (stepsN k c)
def tabN (i : Nat) : Nat := stepsN 8 i
def runN (c : Nat) (l : List Nat) : Nat := l.foldl (fun c b => tabN ((c % 256) ^^^ b) ^^^ (c / 256)) c
theorem lt32 {a b : Nat} (h1 : a < 4294967296) (h2 : b < 4294967296) : a ^^^ b < 4294967296 := Nat.xor_lt_two_pow (n := 32) h1 h2
theorem stepN_lt {c : Nat} (h : c < 4294967296) : stepN c < 4294967296 := by
  unfold stepN
  split
  · exact lt32 (by omega) (by decide)
  · omega
theorem stepsN_lt {c : Nat} (h : c < 4294967296) : ∀ k, stepsN k c < 4294967296
  | 0 => h
  | k + 1 => stepN_lt (stepsN_lt h k)
theorem tabN_lt {i : Nat} (h : i < 256) : tabN i < 4294967296 := stepsN_lt (by omega) 8
theorem w32 (n : Nat) : IntKind.u32.wrap ((n : Nat) : Int) = ((n % 4294967296 : Nat) : Int) := by
  simp [IntKind.wrap, IntKind.bits, IntKind.signed]
theorem bvN (m n : Nat) (h : n < 2 ^ m) : (BitVec.ofInt m (n : Int)).toNat = n := by
  rw [BitVec.toNat_ofInt]
  have : ((n : Int) % ((2 ^ m : Nat) : Int)) = n := Int.emod_eq_of_lt (by omega) (by exact_mod_cast h)
  rw [this]; rfl
theorem xor32 (a b : Nat) (ha : a < 4294967296) (hb : b < 4294967296) : IntKind.u32.wrap ((BitVec.ofInt IntKind.u32.bits (a : Int) ^^^ BitVec.ofInt IntKind.u32.bits (b : Int)).toNat : Int) = ((a ^^^ b : Nat) : Int) := by
  have h : (BitVec.ofInt IntKind.u32.bits (a : Int) ^^^ BitVec.ofInt IntKind.u32.bits (b : Int)).toNat = a ^^^ b := by
    rw [BitVec.toNat_xor, bvN _ _ (by simpa [IntKind.bits] using ha), bvN _ _ (by simpa [IntKind.bits] using hb)]
  rw [h, w32, Nat.mod_eq_of_lt (lt32 ha hb)]
theorem xor8 (a b : Nat) (ha : a < 256) (hb : b < 256) : IntKind.u8.wrap ((BitVec.ofInt IntKind.u8.bits (a : Int) ^^^ BitVec.ofInt IntKind.u8.bits (b : Int)).toNat : Int) = ((a ^^^ b : Nat) : Int) := by
  have h : (BitVec.ofInt IntKind.u8.bits (a : Int) ^^^ BitVec.ofInt IntKind.u8.bits (b : Int)).toNat = a ^^^ b := by
    rw [BitVec.toNat_xor, bvN _ _ (by simpa [IntKind.bits] using ha), bvN _ _ (by simpa [IntKind.bits] using hb)]
  rw [h, w8, Nat.mod_eq_of_lt (Nat.xor_lt_two_pow (n := 8) ha hb)]
theorem and32 (a : Nat) (ha : a < 4294967296) : IntKind.u32.wrap ((BitVec.ofInt IntKind.u32.bits (a : Int) &&& BitVec.ofInt IntKind.u32.bits (1 : Int)).toNat : Int) = ((a % 2 : Nat) : Int) := by
  have h : (BitVec.ofInt IntKind.u32.bits (a : Int) &&& BitVec.ofInt IntKind.u32.bits ((1 : Nat) : Int)).toNat = a % 2 := by
    rw [BitVec.toNat_and, bvN _ _ (by simpa [IntKind.bits] using ha), bvN _ _ (by decide), Nat.and_one_is_mod]
  exact (congrArg (fun z : Nat => IntKind.u32.wrap (z : Int)) h).trans (by rw [w32, Nat.mod_eq_of_lt (by omega)])
theorem c_step (c : Nat) (hc : c < 4294967296) (w : World) : Calls Tryz.prog 264 [.int .u32 (c : Int)].toArray w (Ret (.int .u32 (stepN c : Nat)) w) := by
  refine enter [.tmp 2] Tryz.func264 rfl Tryz.ntmps264 rfl rfl ?_
  have H := St.start w
  repeat' (first | refine y1 sg ?_ | with_reducible apply OW.nil | with_reducible apply thn_n | with_reducible apply CW.seq | refine CW.region ?_ | with_reducible apply CW.ret | with_reducible apply CW.skip | with_reducible apply thn_r | (refine y23 ?_ ?_; all_goals intro h) | fail)
  all_goals rw [and32 c hc] at h
  · have h1 : c % 2 = 1 := by have := eqI h; omega
    refine ret1 rfl H.cl (congrArg (Value.int .u32) ?_)
    have := fdivN c 1
    rw [show min 1 IntKind.u32.bits = 1 from rfl, this, show (3988292384 : Int) = ((3988292384 : Nat) : Int) from rfl, xor32 _ _ (by omega) (by decide)]
    unfold stepN; rw [if_pos h1]
  · have h1 : ¬ c % 2 = 1 := by have := neI h; omega
    refine ret1 rfl H.cl (congrArg (Value.int .u32) ?_)
    rw [show min 1 IntKind.u32.bits = 1 from rfl, fdivN c 1]
    unfold stepN; rw [if_neg h1]
theorem arrI_ext {k : IntKind} {n : Nat} {f g : Nat → Int} (h : ∀ j, j < n → f j = g j) : arrI k n f = arrI k n g := List.map_congr_left fun j hj => by rw [h j (List.mem_range.1 hj)]
theorem loadAv {P : Program} (S : Sig P) {o : Oper} {e : Env} {w : World} {M : Frag} {t : TypeId} {x : Operand} {b n j : Nat} {T : TypeId} {k : IntKind} {f : Nat → Int} {v : Int} {ti : TI} (hv : f j = v) (hM : Mem w M) (hm : cb b (arrI k n f) T ∈ M) (hj : j < n) (ho : o.op = .load t x)
    (hx : ev e x = .pointer (some ⟨b, 0 + j * 1, none⟩)) (ht : lk S.tab t = some ti) (hag : isAgD ti.d = false) : Yq P o e w (.int k v) := hv ▸ Yq.loadA S hM hm hj ho hx ht hag
theorem loadWA {P : Program} (S : Sig P) {o : Oper} {e : Env} {w : World} {M : Frag} {t : TypeId} {x : Operand} {b n : Nat} {T : TypeId} {k : IntKind} {f : Nat → Int} {A : List Value} {ti : TI} (hA : arrI k n f = A) (hM : Mem w M) (hm : cb b A T ∈ M) (ho : o.op = .load t x)
    (hx : ev e x = .pointer (some ⟨b, 0, none⟩)) (ht : lk S.tab t = some ti) (hag : isAgD ti.d = true) (hsz : ti.size = n) : Yq P o e w (.agg A.toArray) := by subst hA; exact Yq.loadW S hM hm ho hx ht hag hsz
theorem storeWA {P : Program} {n : Nw} {ops : Array Oper} {Q : Post} {o : Oper} {rest : List Oper} {L : List (Nat × Value)} {b0 : Env} {w : World} (S : Sig P) {w0 : World} {G G' : Frag} {t : TypeId} {x y : Operand} {b m : Nat} {T : TypeId} {q : IntKind} {f g : Nat → Int} {A Z : List Value} {ti : TI} (hA : arrI q m g = A) (hZ : arrI q m f = Z) (H : St w0 G w) (hu : Up b (.cells Z.toArray T (0, 0)) (.cells A.toArray T (0, 0)) G G')
    (kk : ∀ w', St w0 G' w' → OW P n ops Q rest (ovl L b0) w') (hsz : ti.size = m) (ho : o.op = .store t x y) (hd : o.dst = none)
    (hx : ev (ovl L b0) x = .pointer (some ⟨b, 0, none⟩)) (hy : ev (ovl L b0) y = .agg A.toArray) (ht : lk S.tab t = some ti) : OX P n ops Q o rest (ovl L b0) w := by
  subst hA; subst hZ; exact OX.storeAW S H hu kk hsz ho hd hx hy ht
theorem rdvA {P : Program} (S : Sig P) {e : Env} {w : World} {M : Frag} {t a : Tmp} {b n : Nat} {T : TypeId} {k : IntKind} {f : Nat → Int} {A : List Value} {ti : TI} (hA : arrI k n f = A) (hx : e a = .pointer (some ⟨b, 0, none⟩)) (hM : Mem w M) (hm : cb b A T ∈ M) (ht : lk S.tab t = some ti) (hag : isAgD ti.d = true) (hsz : ti.size = n) : rdv P e w (.cell a t) (.agg A.toArray) := by
  subst hA
  refine ⟨_, hx, run_loadVar_ok S hM hm ht ?_⟩
  unfold ldv
  rw [hag, hsz]
  have : Nat.ble (0 + n) (arrI k n f).length = true := by rw [arrI_len]; simp
  rw [this]
  simp only [cond_true, List.drop_zero]
  rw [List.take_of_length_le (by rw [arrI_len]; exact Nat.le_refl _)]
def tabTo (k : Nat) (j : Nat) : Int := if j < k then ((tabN j : Nat) : Int) else 0
set_option maxHeartbeats 4000000 in
set_option maxRecDepth 20000 in
theorem c_Table (w0 : World) : Calls Tryz.prog 224 ([] : List Value).toArray w0 (Ret (.agg (arrI .u32 256 fun j => ((tabN j : Nat) : Int)).toArray) w0) := by
  refine enter [.cell 0 248] Tryz.func224 rfl Tryz.ntmps224 rfl rfl ?_
  have H := St.start w0
  repeat' (first | refine y1 sg ?_ | refine y3 ?_ | (refine y10 sg H ?_; intro b w H) | with_reducible apply OW.nil | with_reducible apply thn_n | with_reducible apply CW.seq | refine CW.region ?_ | with_reducible apply CW.block | fail)
  rename_i b0 w1 H1
  clear H1
  have H2 : St w0 [cb b (arrI .u32 256 (tabTo 0)) 248, cb b0 (arrI .u32 256 fun _ => 0) 248] w := by
    rw [arrI_ext (f := tabTo 0) (g := fun _ => 0) fun j hj => if_neg (Nat.not_lt_zero _)]
    exact H
  clear H
  refine CW.loopI [(2, 19)] (fun k : Nat => [(3, .int .i64 (k : Int))]) (fun k w => k ≤ 256 ∧ St w0 [cb b (arrI .u32 256 (tabTo k)) 248, cb _ (arrI .u32 256 fun _ => 0) 248] w) (fun k => 256 - k) 0 ⟨rfl, trivial⟩ ⟨Nat.zero_le _, H2⟩ ?_
  clear H2
  rintro k gh w ⟨hk, H⟩
  repeat' (first | refine y1 sg ?_ | with_reducible apply OW.nil | with_reducible apply thn_n | with_reducible apply CW.seq | refine CW.region ?_ | fail)
  refine CW.cond rfl (fun h => ?_) (fun h => ?_)
  · have hlt : k < 256 := by have := of_decide_eq_true h; omega
    clear h
    have hw : IntKind.u32.wrap (k : Int) = ((stepsN 0 k : Nat) : Int) := by rw [w32, Nat.mod_eq_of_lt (by omega)]; rfl
    repeat' (first | refine y1 sg ?_ | refine y3 ?_ | (refine OX.val rfl rfl (Yq.ixP sg (n := 256) (j := k) (Int.toNat_natCast _) (by omega) (by omega) rfl rfl rfl rfl rfl rfl) ?_) | (refine OX.storeA sg (m := 256) (j := k) (k := .u32) (f := tabTo k) (v := IntKind.u32.wrap (k : Int)) H hlt Up.here ?_; intro w H; rw [hw] at H) | with_reducible apply OW.nil | with_reducible apply thn_n | with_reducible apply CW.seq | refine CW.region ?_ | with_reducible apply CW.block | with_reducible apply CW.skip | fail)
    refine CW.loopI [(10, 18)] (fun m : Nat => [(10, .int .i64 (m : Int))]) (fun m w => m ≤ 8 ∧ St w0 [cb b (arrI .u32 256 (updI (tabTo k) k (stepsN m k : Nat))) 248, cb _ (arrI .u32 256 fun _ => 0) 248] w) (fun m => 8 - m) 0 ⟨rfl, trivial⟩ ⟨Nat.zero_le _, H⟩ ?_
    clear H
    rintro m gh2 w ⟨hm, H⟩
    repeat' (first | refine y1 sg ?_ | with_reducible apply OW.nil | with_reducible apply thn_n | with_reducible apply CW.seq | refine CW.region ?_ | fail)
    refine CW.cond rfl (fun h => ?_) (fun h => ?_)
    · have hlm : m < 8 := by have := of_decide_eq_true h; omega
      clear h
      have hup : updI (updI (tabTo k) k (stepsN m k : Nat)) k ((stepN (stepsN m k) : Nat) : Int) = updI (tabTo k) k ((stepsN (m + 1) k : Nat) : Int) := by
        funext j; unfold updI; split <;> rfl
      repeat' (first | refine y1 sg ?_ | refine y3 ?_ | (refine OX.val rfl rfl (Yq.ixP sg (n := 256) (j := k) (Int.toNat_natCast _) (by omega) (by omega) rfl rfl rfl rfl rfl rfl) ?_) | (refine OX.val rfl rfl (loadAv sg (f := updI (tabTo k) k (stepsN m k : Nat)) (v := (stepsN m k : Nat)) (by simp [updI]) H.mem (List.Mem.head _) hlt rfl rfl rfl rfl) ?_) | (refine' y30 ent264 ?_ ?_; rotate_left; exact c_step (stepsN m k) (stepsN_lt (by omega) m) _; intro w hcl; replace H := H.ext hcl; clear hcl) | (refine OX.storeA sg (m := 256) (j := k) (k := .u32) (f := updI (tabTo k) k (stepsN m k : Nat)) (v := (stepN (stepsN m k) : Nat)) H hlt Up.here ?_; intro w H; rw [hup] at H) | with_reducible apply OW.nil | with_reducible apply thn_n | with_reducible apply CW.seq | refine CW.region ?_ | with_reducible apply CW.block | with_reducible apply CW.skip | fail)
      exact Again.mk (m + 1) rfl ⟨vsucc (by omega), trivial⟩ ⟨hlm, H⟩ (by omega)
    · obtain rfl : m = 8 := by have := of_decide_eq_false h; omega
      clear h
      repeat' (first | refine y1 sg ?_ | with_reducible apply OW.nil | with_reducible apply thn_n | refine CW.region ?_ | with_reducible apply CW.exit | fail)
      refine Again.mk2 (k + 1) rfl ⟨vsucc (by omega), trivial⟩ ⟨hlt, ?_⟩ (by omega)
      have he : arrI .u32 256 (updI (tabTo k) k ((stepsN 8 k : Nat) : Int)) = arrI .u32 256 (tabTo (k + 1)) := arrI_ext fun j hj => by
        unfold updI tabTo tabN
        by_cases h1 : j = k
        · subst h1; rw [if_pos rfl, if_pos (by omega)]
        · rw [if_neg h1]
          by_cases h2 : j < k
          · rw [if_pos h2, if_pos (by omega)]
          · rw [if_neg h2, if_neg (by omega)]
      rw [he] at H
      exact H
  · obtain rfl : k = 256 := by have := of_decide_eq_false h; omega
    clear h
    obtain ⟨A, hA⟩ : ∃ A, arrI .u32 256 (tabTo 256) = A := ⟨_, rfl⟩
    obtain ⟨Z, hZ⟩ : ∃ Z, arrI .u32 256 (fun _ => 0) = Z := ⟨_, rfl⟩
    rw [hA, hZ] at H
    have hA2 : arrI .u32 256 (fun j => ((tabN j : Nat) : Int)) = A := by
      rw [← hA]; exact arrI_ext fun j hj => (if_pos hj).symm
    rw [hA2]
    repeat' (first | refine y3 ?_ | (refine OX.val rfl rfl (loadWA sg hA H.mem (List.Mem.head _) rfl rfl rfl rfl rfl) ?_) | (refine storeWA sg hA hZ H (Up.there Up.here) ?_ rfl rfl rfl rfl rfl rfl; intro w H) | with_reducible apply OW.nil | with_reducible apply thn_n | with_reducible apply CW.seq | refine CW.region ?_ | with_reducible apply CW.ret | with_reducible apply CW.exit | with_reducible apply thn_e | refine y24 ?_ | fail)
    exact retV (vs := [_]) ⟨rdvA sg hA rfl H.mem (List.Mem.tail _ (List.Mem.head _)) rfl rfl rfl, trivial⟩ H.cl rfl
theorem boxWA {P : Program} {n : Nw} {ops : Array Oper} {Q : Post} {o : Oper} {rest : List Oper} {L : List (Nat × Value)} {b0 : Env} {w : World} {w0 : World} {G : Frag} {t : TypeId} {x : Operand} {d m : Nat} {q : IntKind} {f : Nat → Int} {A : List Value} (hA : arrI q m f = A) (H : St w0 G w)
    (k : ∀ b w', St w0 (cb b A t :: G) w' → OW P n ops Q rest (ovl ((d, .pointer (some ⟨b, 0, none⟩)) :: L) b0) w') (hx : ev (ovl L b0) x = .agg A.toArray) (ho : o.op = .box t x) (hd : o.dst = some d) (hlt : Nat.blt d n.n = true) : OX P n ops Q o rest (ovl L b0) w := by
  subst hA; exact OX.boxA H hx k ho hd hlt
theorem loadEA {P : Program} (S : Sig P) {o : Oper} {e : Env} {w : World} {M : Frag} {t : TypeId} {x : Operand} {b n j : Nat} {T : TypeId} {k : IntKind} {f : Nat → Int} {A : List Value} {ti : TI} (hA : arrI k n f = A) (hM : Mem w M) (hm : cb b A T ∈ M) (hj : j < n) (ho : o.op = .load t x)
    (hx : ev e x = .pointer (some ⟨b, 0 + j * 1, none⟩)) (ht : lk S.tab t = some ti) (hag : isAgD ti.d = false) : Yq P o e w (.int k (f j)) := by subst hA; exact Yq.loadA S hM hm hj ho hx ht hag
def tabA : List Value := arrI .u32 256 fun j => ((tabN j : Nat) : Int)
theorem runN_lt : ∀ (l : List Nat) (c : Nat), c < 4294967296 → (∀ b ∈ l, b < 256) → runN c l < 4294967296
  | [], c, hc, _ => hc
  | b :: t, c, hc, hb => by
    show runN (tabN ((c % 256) ^^^ b) ^^^ (c / 256)) t < _
    exact runN_lt t _ (lt32 (tabN_lt (Nat.xor_lt_two_pow (n := 8) (by omega) (hb b (List.Mem.head _)))) (by omega)) fun x hx => hb x (List.Mem.tail _ hx)
theorem runN_snoc (c : Nat) (l : List Nat) (b : Nat) : runN c (l ++ [b]) = tabN ((runN c l % 256) ^^^ b) ^^^ (runN c l / 256) := by simp [runN]
theorem strL_lt (s : ByteArray) : ∀ b ∈ strL s, b < 256 := by
  intro b hb
  obtain ⟨x, _, rfl⟩ := List.mem_map.1 hb
  exact x.toNat_lt
theorem strL_at (s : ByteArray) {k : Nat} (hk : k < s.size) : (strL s).getD k 0 = byteAt s k := by
  have h : k < s.data.size := hk
  unfold strL byteAt
  rw [List.getD_eq_getElem?_getD, List.getElem?_map, Array.getElem?_toList, Array.getElem?_eq_getElem h, Array.getD, dif_pos h]
  rfl
theorem strL_take (s : ByteArray) {k : Nat} (hk : k < s.size) : (strL s).take (k + 1) = (strL s).take k ++ [byteAt s k] := by
  have hl : k < (strL s).length := by rw [strL_len]; exact hk
  rw [List.take_succ_eq_append_getElem hl, ← strL_at s hk]
  simp [List.getElem?_eq_getElem hl]
set_option maxHeartbeats 2000000 in
theorem c_run (c : Nat) (s : ByteArray) (hc : c < 4294967296) (hs : s.size ≤ 140737488355328) (w0 : World) : Calls Tryz.prog 223 [.agg tabA.toArray, .int .u32 (c : Int), .string s].toArray w0 (Ret (.int .u32 (runN c (strL s) : Nat)) w0) := by
  obtain ⟨A, hA⟩ : ∃ A, tabA = A := ⟨_, rfl⟩
  rw [hA]
  have hA2 : arrI .u32 256 (fun j => ((tabN j : Nat) : Int)) = A := hA
  refine enter [.tmp 6] Tryz.func223 rfl Tryz.ntmps223 rfl rfl ?_
  have H := St.start w0
  repeat' (first | refine y1 sg ?_ | refine y3 ?_ | (refine boxWA hA2 H ?_ rfl rfl rfl rfl; intro b w H) | with_reducible apply OW.nil | with_reducible apply thn_n | with_reducible apply CW.seq | refine CW.region ?_ | with_reducible apply CW.block | fail)
  refine CW.loopI [(1, 1), (7, 7), (10, 24)] (fun k : Nat => [(10, .int .i64 (k : Int)), (1, .int .u32 (runN c ((strL s).take k) : Nat))]) (fun k w => k ≤ s.size ∧ St w0 [cb b A 248] w) (fun k => s.size - k) 0 ⟨rfl, rfl, trivial⟩ ⟨Nat.zero_le _, H⟩ ?_
  clear H
  rintro k gh w ⟨hk, H⟩
  repeat' (first | refine y1 sg ?_ | with_reducible apply OW.nil | with_reducible apply thn_n | with_reducible apply CW.seq | refine CW.region ?_ | fail)
  refine CW.cond rfl (fun h => ?_) (fun h => ?_)
  · have hlt : k < s.size := by have := of_decide_eq_true h; omega
    clear h
    obtain ⟨d, hd⟩ : ∃ d, runN c ((strL s).take k) = d := ⟨_, rfl⟩
    have hdl : d < 4294967296 := by rw [← hd]; exact runN_lt _ _ hc fun x hx => strL_lt s x (List.mem_of_mem_take hx)
    obtain ⟨x, hx⟩ : ∃ x, byteAt s k = x := ⟨_, rfl⟩
    have hxl : x < 256 := by rw [← hx]; exact byteAt_lt s k
    have hj : (d % 256) ^^^ x < 256 := Nat.xor_lt_two_pow (n := 8) (by omega) hxl
    have h8 : IntKind.u8.wrap ((BitVec.ofInt IntKind.u8.bits (IntKind.u8.wrap (d : Int)) ^^^ BitVec.ofInt IntKind.u8.bits (byteAt s k : Int)).toNat : Int) = (((d % 256) ^^^ x : Nat) : Int) := by rw [w8, hx]; exact xor8 (d % 256) x (Nat.mod_lt _ (by decide)) hxl
    rw [hd]
    repeat' (first | refine y1 sg ?_ | refine y3 ?_ | (refine OX.val rfl rfl (Yq.strIx sg rfl rfl rfl rfl rfl (Int.toNat_natCast _) (by omega) (by omega)) ?_) | (refine OX.val rfl rfl (Yq.ixP sg (n := 256) (j := (d % 256) ^^^ x) (by rw [h8]; exact Int.toNat_natCast _) (by rw [h8]; omega) (by rw [h8]; omega) rfl rfl rfl rfl rfl rfl) ?_) | (refine OX.val rfl rfl (loadEA sg hA2 H.mem (List.Mem.head _) hj rfl rfl rfl rfl) ?_) | with_reducible apply OW.nil | with_reducible apply thn_n | with_reducible apply CW.seq | refine CW.region ?_ | with_reducible apply CW.block | with_reducible apply CW.skip | fail)
    have h32 : IntKind.u32.wrap ((BitVec.ofInt IntKind.u32.bits ((tabN ((d % 256) ^^^ x) : Nat) : Int) ^^^ BitVec.ofInt IntKind.u32.bits ((d : Int).fdiv (2 ^ min 8 IntKind.u32.bits))).toNat : Int) = ((runN c ((strL s).take (k + 1)) : Nat) : Int) := by
      rw [show min 8 IntKind.u32.bits = 8 from rfl, fdivN d 8, xor32 _ _ (tabN_lt hj) (by omega), strL_take s hlt, runN_snoc, hd, hx]
    exact Again.mk (k + 1) rfl ⟨vsucc (by omega), congrArg (Value.int .u32) h32, trivial⟩ ⟨hlt, H⟩ (by omega)
  · obtain rfl : k = s.size := by have := of_decide_eq_false h; omega
    repeat' (first | refine y1 sg ?_ | with_reducible apply OW.nil | with_reducible apply thn_n | with_reducible apply CW.seq | refine CW.region ?_ | with_reducible apply CW.ret | with_reducible apply CW.exit | with_reducible apply thn_e | refine y24 ?_ | fail)
    exact ret1 rfl H.cl (congrArg (fun l => Value.int .u32 ((runN c l : Nat) : Int)) (by rw [List.take_of_length_le (by rw [strL_len]; exact Nat.le_refl _)]))
attribute [local semireducible] Yq in
theorem Yq.not32 {P : Program} {o : Oper} {e : Env} {w : World} {t : TypeId} {x : Operand} {c : Nat} (hc : c < 4294967296) (ho : o.op = .unOp .xor t x) (hx : ev e x = .int .u32 (c : Int)) : Yq P o e w (.int .u32 ((4294967295 - c : Nat) : Int)) := by
  intro w' _
  have hb : (BitVec.ofInt IntKind.u32.bits (4294967295 : Int) ^^^ BitVec.ofInt IntKind.u32.bits (c : Int)).toNat = 4294967295 - c := by
    have h1 : (BitVec.ofInt IntKind.u32.bits (4294967295 : Int)) = BitVec.allOnes IntKind.u32.bits := by decide
    rw [h1, BitVec.allOnes_xor, BitVec.toNat_not, bvN _ _ (by simpa [IntKind.bits] using hc)]
    rfl
  have h2 : (Op.unary .xor (.int .u32 (c : Int))).run P w' = .ok (.int .u32 ((4294967295 - c : Nat) : Int)) w' := by
    show (Op.intBits .xor .u32 4294967295 (c : Int)).run P w' = _
    unfold Op.intBits
    simp only [hb, Sem.run_pure]
    rw [w32, Nat.mod_eq_of_lt (by omega)]
  simp only [execOp, ho, hx, Sem.run_bind, h2, Result.andThen_ok, Sem.run_pure]
def crcAdd (c : Nat) (l : List Nat) : Nat := 4294967295 - runN (4294967295 - c) l
theorem c_cAdd (c : Nat) (s : ByteArray) (hc : c < 4294967296) (hs : s.size ≤ 140737488355328) (w0 : World) : Calls Tryz.prog 187 [.int .u32 (c : Int), .string s].toArray w0 (Ret (.int .u32 (crcAdd c (strL s) : Nat)) w0) := by
  have hr := fun w => c_run (4294967295 - c) s (by omega) hs w
  refine enter [.tmp 4] Tryz.func187 rfl Tryz.ntmps187 rfl rfl ?_
  have H := St.start w0
  have hl : runN (4294967295 - c) (strL s) < 4294967296 := runN_lt _ _ (by omega) (strL_lt s)
  repeat' (first | refine y1 sg ?_ | refine y3 ?_ | (refine' y30 ent224 ?_ ?_; rotate_left; exact c_Table _; intro w hcl; replace H := H.ext hcl; clear hcl) | (refine OX.val rfl rfl (Yq.not32 hc rfl rfl) ?_) | (refine' y30 ent223 ?_ ?_; rotate_left; exact hr _; intro w hcl; replace H := H.ext hcl; clear hcl) | (refine OX.val rfl rfl (Yq.not32 hl rfl rfl) ?_) | with_reducible apply OW.nil | with_reducible apply thn_n | with_reducible apply CW.seq | refine CW.region ?_ | with_reducible apply CW.ret | fail)
  exact ret1 rfl H.cl rfl
def crcOf (l : List Nat) : Nat := crcAdd 0 l
theorem c_cOf (s : ByteArray) (hs : s.size ≤ 140737488355328) (w0 : World) : Calls Tryz.prog 115 [.string s].toArray w0 (Ret (.int .u32 (crcOf (strL s) : Nat)) w0) := by
  refine enter [.tmp 2] Tryz.func115 rfl Tryz.ntmps115 rfl rfl ?_
  have H := St.start w0
  repeat' (first | refine y1 sg ?_ | refine y3 ?_ | (refine' y30 ent187 ?_ ?_; rotate_left; exact c_cAdd 0 s (by decide) hs _; intro w hcl; replace H := H.ext hcl; clear hcl) | with_reducible apply OW.nil | with_reducible apply thn_n | with_reducible apply CW.seq | refine CW.region ?_ | with_reducible apply CW.ret | fail)
  exact ret1 rfl H.cl rfl
def le4 (n : Nat) : List Nat := [n % 256, n / 2 ^ 8 % 256, n / 2 ^ 16 % 256, n / 2 ^ 24 % 256]
theorem c_cbytes (n : Nat) (w0 : World) : Calls Tryz.prog 114 [.int .u32 (n : Int)].toArray w0 (RetF (fun M v => ∃ b, M = [cb b (wrB (le4 n)) 5] ∧ v = .slice (some ⟨b, 0, none⟩) 4 4) w0) := by
  refine enter [.tmp 2] Tryz.func114 rfl Tryz.ntmps114 rfl rfl ?_
  have H := St.start w0
  repeat' (first | refine y1 sg ?_ | refine y3 ?_ | ((with_reducible apply OX.buildS sg H); exact rfl; exact rfl; exact rfl; exact rfl; exact rfl; exact rfl; exact rfl; exact rfl; exact rfl; exact rfl; intro b w H _) | with_reducible apply OW.nil | with_reducible apply thn_n | with_reducible apply CW.seq | refine CW.region ?_ | with_reducible apply CW.ret | fail)
  have e : [Value.int .u8 (IntKind.u8.wrap (n : Int)), Value.int .u8 (IntKind.u8.wrap ((n : Int).fdiv (2 ^ min 8 IntKind.u32.bits))), Value.int .u8 (IntKind.u8.wrap ((n : Int).fdiv (2 ^ min 16 IntKind.u32.bits))), Value.int .u8 (IntKind.u8.wrap ((n : Int).fdiv (2 ^ min 24 IntKind.u32.bits)))] = wrB (le4 n) := by
    rw [show min 8 IntKind.u32.bits = 8 from rfl, show min 16 IntKind.u32.bits = 16 from rfl, show min 24 IntKind.u32.bits = 24 from rfl, shr8, shr8, shr8, w8]
    rfl
  rw [e] at H
  exact ret1F rfl H ⟨_, rfl, rfl⟩
end Go.Proofs.YtggolnppckpdlaaGreat
