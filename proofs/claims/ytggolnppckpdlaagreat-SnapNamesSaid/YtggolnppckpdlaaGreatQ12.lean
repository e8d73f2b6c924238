/- Texts of ours, joined: the steps of the proof, or the claim's theorem. -/
import Derived.ChangeKeysEq
import Derived.Test.YtggolnppckpdlaaGreatQ04
import Derived.Test.YtggolnppckpdlaaGreatQ11
set_option linter.unusedSimpArgs false
set_option linter.unusedVariables false
namespace Go.Proofs.YtggolnppckpdlaaGreat
open Go Go.Sk Go.RowKit
attribute [local irreducible] Go.Calls
theorem mul_bd {p q : Int} (h1 : 1 ≤ p) (h2 : p ≤ 1073741824) (h3 : 1 ≤ q) (h4 : q ≤ 1048576) : 1 ≤ p * q ∧ p * q ≤ 1125899906842624 := by
  have a := Int.mul_le_mul h1 h3 (by omega) (by omega)
  have b := Int.mul_le_mul h2 h4 (by omega) (by omega)
  constructor <;> omega
def holdF (o : Odr) : Int × Int := if mayOneF o = true then (if o.side = 1 then (0, o.price * o.left) else (o.inst, o.left)) else (0, 0)
theorem c_Holds (o : Odr) (w0 : World) : Calls Tryz.prog 286 [.agg o.cells.toArray].toArray w0 (Ret (.tuple #[.int .i64 (holdF o).1, .int .i64 (holdF o).2]) w0) := by
  have hp := mayOne_iff o
  refine enter [.tmp 2, .tmp 3] Tryz.func286 rfl Tryz.ntmps286 rfl rfl ?_
  have H := St.start w0
  repeat' (first | refine y1 sg ?_ | refine y2 sg ?_ | refine y3 ?_ | refine y4 ?_ | refine y7 sg H ?_ | refine y8 sg H ?_ | (refine y9 H ?_; intro b w H) | (refine' y30 ent279 ?_ ?_; rotate_left; exact c_MayOne o _; intro w hcl; replace H := H.ext hcl; clear hcl) | with_reducible apply OW.nil | (with_reducible apply QW.nil; intro w hcl; replace H := H.ext hcl; clear hcl) | with_reducible apply thn_n | with_reducible apply CW.seq | refine CW.region ?_ | refine y20 mixed ?_ | with_reducible apply CW.block | with_reducible apply CW.ret | with_reducible apply CW.skip | with_reducible apply thn_r | with_reducible apply blk_n | with_reducible apply blk_r | (refine y23 ?_ ?_; all_goals intro h) | fail)
  all_goals simp only [Bool.not_eq_true', Bool.not_eq_false', beq_iff_eq, beq_eq_false_iff_ne, ne_eq] at *
  all_goals first
    | (have hm : ¬ mayOneF o = true := by rw [‹mayOneF o = false›]; decide
       exact ret2 rfl rfl H.cl (by unfold holdF; rw [if_neg hm]))
    | (have hm := ‹mayOneF o = true›
       obtain ⟨_, _, _, _, ⟨q1, q2⟩, q3, q4⟩ := hp.1 hm
       obtain ⟨b1, b2⟩ := mul_bd q1 q2 q3 q4
       refine ret2 rfl rfl H.cl ?_
       unfold holdF
       rw [if_pos hm]
       first
         | (rw [if_pos ‹_›, w64 (by omega) (by omega)])
         | rw [if_neg ‹_›])
theorem c_byID (x y : Odr) (w0 : World) : Calls Tryz.prog 280 [.agg x.cells.toArray, .agg y.cells.toArray].toArray w0 (Ret (.int .i64 (cmpI x.id y.id)) w0) := by
  refine enter [.tmp 4] Tryz.func280 rfl Tryz.ntmps280 rfl rfl ?_
  have H := St.start w0
  repeat' (first | refine y1 sg ?_ | refine y3 ?_ | refine y7 sg H ?_ | (refine y9 H ?_; intro b w H) | (refine' y30 ent215 ?_ ?_; rotate_left; exact c_Compare _ _ _; intro w hcl; replace H := H.ext hcl; clear hcl) | with_reducible apply OW.nil | with_reducible apply thn_n | with_reducible apply CW.seq | refine CW.region ?_ | with_reducible apply CW.ret | fail)
  exact ret1 rfl H.cl rfl
theorem c_OMay1 (o : Odr) (w0 : World) : Calls Tryz.prog 278 [.agg o.cells.toArray].toArray w0 (Ret (.bool (!mayOneF o)) w0) := by
  refine enter [.tmp 2] Tryz.func278 rfl Tryz.ntmps278 rfl rfl ?_
  have H := St.start w0
  repeat' (first | refine y1 sg ?_ | refine y3 ?_ | refine y7 sg H ?_ | (refine y9 H ?_; intro b w H) | (refine' y30 ent279 ?_ ?_; rotate_left; exact c_MayOne o _; intro w hcl; replace H := H.ext hcl; clear hcl) | with_reducible apply OW.nil | with_reducible apply thn_n | with_reducible apply CW.seq | refine CW.region ?_ | with_reducible apply CW.ret | fail)
  exact ret1 rfl H.cl rfl
theorem cmpI_ge (x y : Int) : decide (cmpI x y ≥ 0) = decide (y ≤ x) := by
  unfold cmpI
  split
  · simp; omega
  · split <;> simp <;> omega
set_option maxHeartbeats 4000000 in
theorem c_Orders {a : Option Addr} {cap : Nat} (l : List Odr) {F : Frag} (w0 : World) (hF : Mem w0 F) (hs0 : Ords F a cap l) :
    Calls Tryz.prog 240 [.slice a l.length cap].toArray w0 (Ret (.bool (ordersF l)) w0) := by
  obtain ⟨hnc, hcb, b0, off, cs, T, fr, hs⟩ := id hs0
  have cont : ∀ {w : World}, Mem w F → Calls Tryz.prog 241 [.slice a l.length cap, .func (.func 278) #[] #[]].toArray w (Ret (.bool (decide (idx (fun j => !mayOneF (od_ l j)) l.length ≥ 0))) w) := fun hF =>
    c_ContainsOrd (caps := []) (fun j => !mayOneF (od_ l j)) _ hF hs0 ent278 (fun j _ w _ => c_OMay1 (od_ l j) w)
  have hno : idx (fun j => !mayOneF (od_ l j)) l.length ≥ 0 → ordersF l = true → False := fun h q => by
    rcases idx_cases (fun j => !mayOneF (od_ l j)) l.length with ⟨k, hk, _, hb, _⟩ | ⟨_, hx⟩
    · have := ((ordersF_iff.1 q).2 k hk).1
      rw [(mayOne_iff _).2 this] at hb; cases hb
    · omega
  have hyes : ¬ idx (fun j => !mayOneF (od_ l j)) l.length ≥ 0 → ∀ j, j < l.length → MayOneP (od_ l j) := fun h j hj => by
    rcases idx_cases (fun j => !mayOneF (od_ l j)) l.length with ⟨k, _, _, _, hx⟩ | ⟨ha, _⟩
    · omega
    · have := ha j hj
      exact (mayOne_iff _).1 (by simpa using this)
  refine enter [.tmp 2] Tryz.func240 rfl Tryz.ntmps240 rfl rfl ?_
  have H := St.start w0
  repeat' (first | refine y1 sg ?_ | refine y5 sg ?_ | (refine' y30 ent241 ?_ ?_; rotate_left; exact cont (H.memF hF); intro w hcl; replace H := H.ext hcl; clear hcl) | refine y13 ?_ | refine y14 ?_ | (refine y17 ?_ ?_; all_goals intro h) | with_reducible apply OW.nil | with_reducible apply thn_n | with_reducible apply CW.seq | refine CW.region ?_ | with_reducible apply CW.ret | with_reducible apply thn_r | refine y21 ?_ | fail)
  · exact ret1 rfl H.cl (congrArg Value.bool (no_ord fun q => by have := (ordersF_iff.1 q).1; have := of_decide_eq_true h; omega))
  have h128 : l.length ≤ 128 := by have := of_decide_eq_false h; omega
  refine CW.cond rfl (fun h2 => ?_) (fun h2 => ?_)
  · repeat' (first | refine y1 sg ?_ | with_reducible apply OW.nil | with_reducible apply thn_n | with_reducible apply CW.seq | refine CW.region ?_ | with_reducible apply CW.ret | with_reducible apply thn_r | fail)
    exact ret1 rfl H.cl (congrArg Value.bool (no_ord (hno (of_decide_eq_true h2))))
  have hall := hyes (of_decide_eq_false h2)
  clear hno hyes cont h h2
  have hmin : (if ((l.length : Nat) : Int) < 1 then ((l.length : Nat) : Int) else 1) = ((min 1 l.length : Nat) : Int) := by split <;> omega
  repeat' (first | refine y1 sg ?_ | refine y3 ?_ | with_reducible apply thn_n | with_reducible apply CW.seq | refine CW.region ?_ | with_reducible apply CW.skip | fail)
  rw [hmin]
  repeat' (first | refine y1 sg ?_ | (refine OX.val rfl rfl (Yq.sliceLo sg rfl rfl rfl rfl rfl rfl (Int.toNat_natCast _) (by omega) (by omega)) ?_) | with_reducible apply OW.nil | with_reducible apply thn_n | with_reducible apply CW.block | fail)
  refine CW.loopI [(2, 3), (17, 31)] (fun k : Nat => [(17, .int .i64 (k : Int))]) (fun k w => k ≤ l.length - min 1 l.length ∧ OrdP l (k + min 1 l.length) ∧ St w0 [] w) (fun k => l.length - k) 0 ⟨rfl, trivial⟩ ⟨Nat.zero_le _, fun j hj => ⟨hall j (by omega), .inl (by omega)⟩, H⟩ ?_
  clear H
  rintro k gh w ⟨hk, hP, H⟩
  repeat' (first | refine y1 sg ?_ | with_reducible apply OW.nil | with_reducible apply thn_n | with_reducible apply CW.seq | refine CW.region ?_ | fail)
  refine CW.cond rfl (fun h => ?_) (fun h => ?_)
  · have hlt : k + 1 < l.length := by have := of_decide_eq_true h; omega
    clear h
    have hm1 : min 1 l.length = 1 := by omega
    rw [hm1] at hP
    have hq : IntKind.i64.wrap ((k : Int) + 1) = ((k + 1 : Nat) : Int) := by rw [w64 (by omega) (by omega)]; omega
    repeat' (first | refine y1 sg ?_ | refine y2 sg ?_ | refine y4 ?_ | (refine QX.val rfl rfl (Yq.ixB sg hs rfl rfl rfl rfl rfl rfl rfl ((congrArg Int.toNat hq).trans (Int.toNat_natCast _)) (by rw [hq]; omega) (by rw [hq]; omega)) ?_) | (refine y41 sg (hs) ?_ ?_ ?_; (omega); (omega)) | (refine y43 sg (hs) ((H.memF hF)) ?_ ?_; (omega)) | (refine' y31 ent280 ?_ ?_; rotate_left; exact (fun _ hcl => c_byID (od_ l k) (od_ l (k + 1)) _)) | with_reducible apply OW.nil | (with_reducible apply QW.nil; intro w hcl; replace H := H.ext hcl; clear hcl) | with_reducible apply thn_n | with_reducible apply CW.seq | refine CW.region ?_ | refine y20 mixed ?_ | with_reducible apply CW.block | with_reducible apply CW.skip | fail)
    rw [cmpI_ge]
    refine CW.cond rfl (fun h => ?_) (fun h => ?_)
    · repeat' (first | refine y1 sg ?_ | with_reducible apply OW.nil | with_reducible apply thn_n | with_reducible apply CW.seq | refine CW.region ?_ | with_reducible apply CW.ret | with_reducible apply thn_r | with_reducible apply blk_r | fail)
      exact ret1 rfl H.cl (congrArg Value.bool (no_ord fun q => by
        have := ((ordersF_iff.1 q).2 (k + 1) hlt).2
        have h := of_decide_eq_true h
        rw [Nat.add_sub_cancel] at this
        omega))
    · have h := of_decide_eq_false h
      repeat' (first | refine y1 sg ?_ | with_reducible apply OW.nil | with_reducible apply thn_n | refine CW.region ?_ | with_reducible apply CW.skip | fail)
      refine Again.mk (k + 1) rfl ⟨vsucc (by omega), trivial⟩ ⟨by omega, ?_, H⟩ (by omega)
      rw [hm1]
      exact hP.succ (hall _ hlt) (.inr (by rw [Nat.add_sub_cancel]; omega))
  · have hkn : k + min 1 l.length = l.length := by have := of_decide_eq_false h; omega
    rw [hkn] at hP
    repeat' (first | refine y1 sg ?_ | with_reducible apply OW.nil | with_reducible apply thn_n | with_reducible apply CW.seq | refine CW.region ?_ | with_reducible apply CW.ret | with_reducible apply CW.exit | with_reducible apply thn_e | refine y24 ?_ | fail)
    exact ret1 rfl H.cl (congrArg Value.bool (ordersF_iff.2 ⟨h128, hP⟩).symm)
end Go.Proofs.YtggolnppckpdlaaGreat
namespace Go.Sk
open Go Go.RowKit
section
attribute [local semireducible] Yq OX OW QX QW RA
variable {P : Program} (S : Sig P) {o : Oper} {e : Env} {w : World}
theorem Yq.ixP {t E : TypeId} {x i : Operand} {b off n j : Nat} {k : IntKind} {q : Int} {ti te : TI} (hj : q.toNat = j) (h0 : 0 ≤ q) (h1 : q < n) (ho : o.op = .indexAddr t x i)
    (hx : ev e x = .pointer (some ⟨b, off, none⟩)) (hi : ev e i = .int k q) (ht : lk S.tab t = some ti) (htd : ti.d = .array n E) (he : lk S.tab E = some te) : Yq P o e w (.pointer (some ⟨b, off + j * te.size, none⟩)) := by
  intro w' _
  have hu := S.run_und ht w'
  rw [htd] at hu
  simp only [execOp, ho, Instr.indexAt, hx, hi, asIntOf, hu, Instr.sureAddr, Sem.run_bind, Sem.run_pure, Result.andThen_ok, h0, h1, and_self, if_true, S.run_size he, add_spot, hj]
def cellsOf (el : Nat → List Value) (n : Nat) : List Value := (List.range n).flatMap el
theorem run_eqArr {t E : TypeId} {ti te : TI} {n : Nat} {q : IntKind} (ht : lk S.tab t = some ti) (htd : ti.d = .array n E) (he : lk S.tab E = some te) (hed : te.d = .int q) (hsz : te.size = 1) {k : IntKind} (f g : Nat → Int) (w : World) :
    (Op.equalIn 10000 t (.agg ((List.range n).map fun j => Value.int k (f j)).toArray) (.agg ((List.range n).map fun j => Value.int k (g j)).toArray)).run P w = .ok ((List.range n).all fun j => f j == g j) w := by
  have hu := S.run_und ht w
  rw [htd] at hu
  have hs := S.run_size he w
  rw [hsz] at hs
  have hue := S.und he
  rw [hed] at hue
  obtain ⟨fi, hf1, hf2, _⟩ := S.inf he
  have hc : P.cellsOf E = 1 := by unfold Program.cellsOf; rw [hf1]; simp [hf2, hsz]
  have hut := S.und ht
  rw [htd] at hut
  rw [show (10000 : Nat) = 9999 + 1 from rfl, run_equalIn_array w 9999 _ _ hut hf1, hc]
  have hp : ∀ (h : Nat → Int) (i : Nat), i < n → (part E ((List.range n).map fun j => Value.int k (h j)).toArray (i * 1)).run P w = .ok (.int k (h i)) w := fun h i hi =>
    part_ok S he _ _ (by rw [show isAgD te.d = false by rw [hed]; rfl]; simp [hi]) w
  have hE : ∀ i, (Op.equalIn 9999 E (.int k (f i)) (.int k (g i))).run P w = .ok (f i == g i) w := fun i => run_equalIn_int w 9998 E _ _ _ _ hue
  have key : ∀ (is : List Nat), (∀ i ∈ is, i < n) → (Op.eqItems 9999 E 1 ((List.range n).map fun j => Value.int k (f j)).toArray ((List.range n).map fun j => Value.int k (g j)).toArray is).run P w = .ok (is.all fun j => f j == g j) w := by
    intro is
    induction is with
    | nil => intro _; rfl
    | cons i is ih =>
      intro hi
      have ih := ih fun x hx => hi x (List.mem_cons_of_mem _ hx)
      have h0 := hi i (List.Mem.head _)
      simp only [Op.eqItems, Sem.run_bind, hp f i h0, hp g i h0, hE, Result.andThen_ok, List.all_cons]
      by_cases hfg : f i = g i
      · simpa [hfg] using ih
      · simp [hfg]
  exact key _ fun i hi => List.mem_range.1 hi
theorem Yq.build0 {t E : TypeId} {n : Nat} {ti te : TI} (ho : o.op = .build t #[]) (ht : lk S.tab t = some ti) (htd : ti.d = .array n E) (he : lk S.tab E = some te) : Yq P o e w (.agg ti.zero.toArray) := by
  intro w' _
  have hu := S.run_und ht w'
  rw [htd] at hu
  obtain ⟨f, h1, _, h3⟩ := S.inf ht
  obtain ⟨zv, hz1, hz2⟩ := Option.map_eq_some_iff.1 h3
  have hzv : (zeroValue t).run P w' = .ok zv w' := by simp [zeroValue, typeInfo, h1, hz1]
  simp [execOp, ho, Instr.build, hu, hzv, hz2, S.run_size he, Instr.fill]
def arrI (k : IntKind) (n : Nat) (f : Nat → Int) : List Value := (List.range n).map fun j => Value.int k (f j)
theorem arrI_len (k : IntKind) (n : Nat) (f : Nat → Int) : (arrI k n f).length = n := by simp [arrI]
theorem arrI_get {k : IntKind} {n j : Nat} (f : Nat → Int) (h : j < n) : (arrI k n f)[j]? = some (.int k (f j)) := by simp [arrI, h]
def updI (f : Nat → Int) (j : Nat) (v : Int) : Nat → Int := fun i => if i = j then v else f i
theorem arrI_wr {k : IntKind} {n j : Nat} (f : Nat → Int) (v : Int) (h : j < n) : wr (arrI k n f) (0 + j * 1) [.int k v] = arrI k n (updI f j v) := by
  apply List.ext_getElem?
  intro i
  rw [wr_get (by rw [arrI_len]; simp; omega)]
  simp only [List.length_singleton, Nat.mul_one, Nat.zero_add]
  by_cases hi : i = j
  · subst hi
    rw [if_pos (by omega), arrI_get _ h, Nat.sub_self]
    simp [updI]
  · rw [if_neg (by omega)]
    rcases Nat.lt_or_ge i n with g | g
    · rw [arrI_get _ g, arrI_get _ g]; simp [updI, hi]
    · rw [List.getElem?_eq_none (by rw [arrI_len]; exact g), List.getElem?_eq_none (by rw [arrI_len]; exact g)]
theorem Yq.loadA {M : Frag} {t : TypeId} {x : Operand} {b n j : Nat} {T : TypeId} {k : IntKind} {f : Nat → Int} {ti : TI} (hM : Mem w M) (hm : cb b (arrI k n f) T ∈ M) (hj : j < n) (ho : o.op = .load t x) (hx : ev e x = .pointer (some ⟨b, 0 + j * 1, none⟩)) (ht : lk S.tab t = some ti) (hag : isAgD ti.d = false) : Yq P o e w (.int k (f j)) := by
  refine Yq.load S ho hx hM hm ht ?_
  unfold ldv
  rw [hag]
  simp only [cond_false]
  rw [Nat.mul_one, Nat.zero_add]
  exact arrI_get f hj
theorem Yq.loadW {M : Frag} {t : TypeId} {x : Operand} {b n : Nat} {T : TypeId} {k : IntKind} {f : Nat → Int} {ti : TI} (hM : Mem w M) (hm : cb b (arrI k n f) T ∈ M) (ho : o.op = .load t x) (hx : ev e x = .pointer (some ⟨b, 0, none⟩)) (ht : lk S.tab t = some ti) (hag : isAgD ti.d = true) (hsz : ti.size = n) : Yq P o e w (.agg (arrI k n f).toArray) := by
  refine Yq.load S ho hx hM hm ht ?_
  unfold ldv
  rw [hag, hsz]
  have : Nat.ble (0 + n) (arrI k n f).length = true := by rw [arrI_len]; simp
  rw [this]
  simp only [cond_true, List.drop_zero]
  rw [List.take_of_length_le (by rw [arrI_len]; exact Nat.le_refl _)]
theorem Yq.eqlA {t E : TypeId} {x y : Operand} {yT : TypeId} {n : Nat} {k q : IntKind} {f g : Nat → Int} {ti te : TI} (eg : P.eqGuardType P.depth t = false) (hx : ev e x = .agg (arrI k n f).toArray) (hy : ev e y = .agg (arrI k n g).toArray)
    (ho : o.op = .binOp .eql t x y yT) (ht : lk S.tab t = some ti) (htd : ti.d = .array n E) (he : lk S.tab E = some te) (hed : te.d = .int q) (hsz : te.size = 1) : Yq P o e w (.bool ((List.range n).all fun j => f j == g j)) := by
  refine Yq.of fun w' => ?_
  have hr := run_eqArr S ht htd he hed hsz (k := k) f g w'
  have h2 : (binOp .eql t (.agg (arrI k n f).toArray) (.agg (arrI k n g).toArray)).run P w' = .ok (.bool ((List.range n).all fun j => f j == g j)) w' := by
    rw [run_eql_struct]
    unfold arrI
    rw [hr]; rfl
  simp only [execOp, ho, hx, hy, Sem.run_bind, run_eqGuard_agg w' _ _ _ _ _ _ eg, Result.andThen_ok, h2, Sem.run_pure]
end
section
variable {P : Program} {n : Nw} {ops : Array Oper} {Q : Post} {o : Oper} {rest : List Oper} {L : List (Nat × Value)} {b0 : Env} {w : World} (S : Sig P)
theorem OX.storeA {w0 : World} {G G' : Frag} {t : TypeId} {x y : Operand} {b m j : Nat} {T : TypeId} {k : IntKind} {f : Nat → Int} {v : Int} {ti : TI} (H : St w0 G w) (hj : j < m) (hu : Up b (.cells (arrI k m f).toArray T (0, 0)) (.cells (arrI k m (updI f j v)).toArray T (0, 0)) G G')
    (kk : ∀ w', St w0 G' w' → OW P n ops Q rest (ovl L b0) w') (ho : o.op = .store t x y := by exact rfl) (hd : o.dst = none := by exact rfl)
    (hx : ev (ovl L b0) x = .pointer (some ⟨b, 0 + j * 1, none⟩) := by exact rfl) (hy : ev (ovl L b0) y = .int k v := by exact rfl) (ht : lk S.tab t = some ti := by exact rfl) (hsz : ti.size = 1 := by exact rfl) : OX P n ops Q o rest (ovl L b0) w := by
  rw [← arrI_wr (k := k) f v hj] at hu
  exact OX.storeX S H ho hd hx hy (v := .int k v) (vs := [.int k v]) rfl ht (by rw [hsz]; rfl) hu (by rw [arrI_len]; simp; omega) (by intro u hu; rw [List.mem_singleton] at hu; subst hu; rfl) kk
end
end Go.Sk
