/- Texts of ours, joined: the steps of the proof, or the claim's theorem. -/
import Derived.Test.YtggolnppckpdlaaGreatT04
import Derived.Test.YtggolnppckpdlaaGreatT18
set_option linter.unusedSimpArgs false
set_option linter.unusedVariables false
namespace Go.Proofs.YtggolnppckpdlaaGreat
open Go Go.Sk Go.RowKit
attribute [local irreducible] Go.Calls
theorem chkP (b : Bool) (x y : Int) (w : World) : (Instr.checkKey b 10000 270 (.agg #[.int .i64 x, .int .i64 y])).run Tryz.prog w = .ok () w := by
 have h3 : ∀ (v : Value) (w : World), (Instr.checkKey b 9999 3 v).run Tryz.prog w = .ok () w := by
  intro v w
  show (Instr.checkKey b (9998 + 1) 3 v).run Tryz.prog w = _
  rw [Instr.checkKey]
  simp only [Sem.run_bind, run_underlying (show Tryz.prog.underlying 3 = some (.int .i64) from sg.und (t := 3) rfl), Result.andThen_ok]
  rfl
 have hp : ∀ (o : Nat) (v : Value), (#[Value.int .i64 x, Value.int .i64 y] : Array Value).toList[o]? = some v → (part 3 #[Value.int .i64 x, Value.int .i64 y] o).run Tryz.prog w = .ok v w := fun o v h => zDF sg (t := 3) rfl _ o h w
 show (Instr.checkKey b (9999 + 1) 270 _).run Tryz.prog w = _
 rw [Instr.checkKey]
 simp only [Sem.run_bind, run_underlying (sg.und (t := 270) rfl), Result.andThen_ok]
 rw [← Array.forIn_toList]
 simp [Sem.run_bind, hp 0 (.int .i64 x) rfl, hp 1 (.int .i64 y) rfl, h3]
def pv2 (p : Int × Int) : Value := .agg #[.int .i64 p.1, .int .i64 p.2]
def zDe : KeyT Tryz.prog 270 (Int × Int) where
 v := pv2
 eq x y w := by
  have := zKn sg (t := 270) rfl rfl (by kernel_rfl) (by decide +kernel) (cs := [.int .i64 x.1, .int .i64 x.2]) (ds := [.int .i64 y.1, .int .i64 y.2]) (r := x.1 == y.1 && (x.2 == y.2 && true)) rfl w
  refine this.trans (congrArg (fun b => Result.ok b w) ?_)
  rw [Bool.eq_iff_iff, Bool.and_true, Bool.and_eq_true, beq_iff_eq, beq_iff_eq, decide_eq_true_eq]
  exact Prod.ext_iff.symm
 chk b x w := chkP b x.1 x.2 w
 same x := by
  show Instr.sameBits (9999 + 1) _ _ = true
  simp [Instr.sameBits, pv2]
 d := _
 und := sg.und (t := 270) rfl
 now x y := .inl rfl
def zBT (y : P3) : Int × Int := (y.1, y.2.1)
def zFL (l : List P3) (x : Int × Int) : Int := l.foldl (fun a y => if zBT y = x then IntKind.i64.wrap (a + y.2.2) else a) 0
def zGX (l : List P3) (x : Int × Int) : Bool := l.any fun y => decide (zBT y = x)
def atP (l : List P3) (x : Int × Int) : Option Int := if zGX l x then some (zFL l x) else none
theorem zLz (l : List P3) (y : P3) (x : Int × Int) : zFL (l ++ [y]) x = if zBT y = x then IntKind.i64.wrap (zFL l x + y.2.2) else zFL l x := by
 simp [zFL]
theorem zL0 (l : List P3) (y : P3) (x : Int × Int) : zGX (l ++ [y]) x = (zGX l x || decide (zBT y = x)) := by
 simp [zGX]
theorem zHL {l : List P3} {x : Int × Int} (h : zGX l x = false) : zFL l x = 0 := by
 have : ∀ (l : List P3) (a : Int), zGX l x = false → l.foldl (fun a y => if zBT y = x then IntKind.i64.wrap (a + y.2.2) else a) a = a := by
  intro l
  induction l with
  | nil => intro a _; rfl
  | cons y t ih =>
    intro a h
    unfold zGX at h
    rw [List.any_cons, Bool.or_eq_false_iff] at h
    rw [List.foldl_cons, if_neg (of_decide_eq_false h.1)]
    exact ih a h.2
 exact this l 0 h
theorem zIh (l : List P3) (x : Int × Int) : (atP l x).getD 0 = zFL l x := by
 unfold atP
 cases h : zGX l x with
 | true => rfl
 | false => rw [zHL h]; rfl
theorem zNs (l : List P3) (y : P3) (x : Int × Int) : atP (l ++ [y]) x = if x = zBT y then some (IntKind.i64.wrap ((atP l (zBT y)).getD 0 + y.2.2)) else atP l x := by
 rw [zIh]
 unfold atP
 rw [zL0, zLz]
 by_cases h : zBT y = x
 ·subst h; simp
 ·rw [if_neg h, if_neg (Ne.symm h), decide_eq_false h, Bool.or_false]
def zD8 (r : Row4) : Int × Int := (r.acct, r.asset)
def zB1 (l : List Row4) (k : Nat) : List (Int × Int) := (l.take k).map zD8
def zCz (s : Sta) (k : Nat) : Bool := (if zD8 (rw_ s.rows k) ∈ zB1 s.rows k then 0 else zFL (zo s) (zD8 (rw_ s.rows k))) == (rw_ s.rows k).held
def zDq (s : Sta) : Bool := (List.range s.rows.length).all (zCz s) && (zo s).all fun y => decide (zBT y ∈ zB1 s.rows s.rows.length)
theorem zPa (s : Sta) (p : SPt) (w0 : World) : Calls Tryz.prog 248 [.agg (s.cells p).toArray].toArray w0 (zy (fun M v => ∃ b, M = [cb b (s.cells p) 29] ∧ v = .func (.func 285) #[] #[.pointer (some ⟨b, 0, none⟩)]) w0) := by
 refine enter [.tmp 2] Tryz.func248 rfl Tryz.ntmps248 rfl rfl ?_
 have H := zE w0
 repeat' (first | refine y1 sg ?_ | refine y3 ?_ | (refine y9 H ?_; intro b w H) | (with_reducible first | apply zB | apply zD | apply zC | apply zG) | refine zA ?_ | fail)
 exact zEA rfl H ⟨_, rfl, rfl⟩
theorem zPb {ι ν : Type} [DecidableEq ι] (es : List (ME ι ν)) (clock : Nat) (x : ι) (z : ν) : atM (zD7 es clock x z) x = some ((atM es x).getD z) := by
 unfold zD7
 cases h : fnd x es 0 with
 | some p => simp only [Option.isSome_some, if_true]; unfold atM; rw [h]; rfl
 | none =>
   have ha : atM es x = none := by unfold atM; rw [h]; rfl
   simp only [Option.isSome_none, Bool.false_eq_true, if_false]
   rw [zH0, ha]
   simp
theorem lookS {P : Program} (S : Sig P) {kt : TypeId} {ι ν : Type} [DecidableEq ι] {o : Oper} {w : World} {e : Env} {M : zI} {b clock : Nat} (K : KeyT P kt ι) (val : ν → Value) (es : List (ME ι ν)) (x : ι) (z u : ν) (hu : atM es x = some u) {t et : TypeId} {X Y : Operand} {ti : TI} (hz : ∀ w : World, (zeroValue et).run P w = .ok (val z) w) (hM : Mem w M) (hm : (b, mo K val es clock) ∈ M)
  (hy : ev e Y = K.v x) (ho : o.op = .lookup t X Y false) (hx : ev e X = .map (some b)) (ht : lk S.tab t = some ti) (htd : ti.d = .map kt et) : Yq P o e w (val u) := by
 have := Yq.lookM S (P := P) (w := w) K val es x z hz hM hm hy ho hx ht htd
 rw [hu] at this
 exact this
def JP (s : Sta) (bm ba : Nat) (k : Nat) (M : zI) : Prop :=
 ∃ es clock, M = [(bm, mo zDe (Value.int .i64) es clock), cb ba [.map (some bm)] 265] ∧ MI es clock ∧ ∀ x, atM es x = atP ((zo s).take k) x
set_option maxHeartbeats 4000000 in
theorem c_held {F : zI} (s : Sta) (p : SPt) (w0 : World) (hF : Mem w0 F) (hs0 : StaM F s p) :
  Calls Tryz.prog 212 [.agg (s.cells p).toArray].toArray w0 (Ret (.bool (zDq s)) w0) := by
 obtain ⟨hnc, hcb, b0, off, cs, T, fr, hs⟩ := hs0.rw
 refine enterM [.tmp 2] Tryz.func212 rfl Tryz.ntmps212 rfl rfl ?_
 have H := zE w0
 refine CM.seq ?_
 repeat' (first | refine y1 sg ?_ | refine y3 ?_ | (refine y9 H ?_; intro b w H) | (with_reducible first | apply zB | apply zD) | refine zA ?_ | fail)
 refine CM.seq ?_
 repeat' (first | refine y3 ?_ | (refine y10 sg H ?_; intro b w H) | (refine y11 sg H ?_; intro w H) | (refine m1 H ?_; intro bm w H) | (with_reducible first | apply zB | apply zD) | refine zA ?_ | fail)
 refine CM.seqM ?_
 refine CM.seq ?_
 repeat' (first | refine y3 ?_ | refine y7 sg H ?_ | (refine' y32 ent248 ?_ ?_; rotate_left; exact zPa s p _; intro v M w hR hS; replace H := H.addR hS; clear hS; (try simp only [List.cons_append, List.nil_append] at H); obtain ⟨bp, rfl, rfl⟩ := hR) | (with_reducible first | apply zB | apply zD) | refine zA ?_ | fail)
 refine CM.block ?_
 have hP : St w0 ([(bm, mo zDe (Value.int .i64) [] 0), cb b [.map (some bm)] 265] ++ [cb _ _ _, cb bp _ _]) w := H.perm (List.Perm.swap _ _ _)
 clear H
 refine CM.rangeFunc (N := (zo s).length) (u1P s) (u2P s) (JP s bm b) rfl rfl ent285 rfl rfl (zNr s p w0 hF hs0 (List.Mem.tail _ (List.Mem.head _))) hP ⟨[], 0, rfl, MI.nil, fun x => rfl⟩ ?_ ?_
 ·clear hP
  rintro l k hk M G' w ⟨es, clock, rfl, hMI, hat⟩ H
  simp only [List.cons_append, List.nil_append] at H
  repeat' (first | refine y1 sg ?_ | refine y3 ?_ | (refine y10 sg H ?_; intro b w H) | (refine y11 sg H ?_; intro w H) | (with_reducible first | apply zB | apply zD | apply zC) | refine zA ?_ | fail)
  refine ⟨[_, _, _], H, fun G2 w H => ?_⟩
  simp only [List.cons_append, List.nil_append] at H
  have hz : ∀ w : World, (zeroValue 2).run Tryz.prog w = .ok (Value.int .i64 0) w := fun w => Tryz.zeroValue2 w
  have hMI2 := zGV hMI (zBT (p3 (zo s) k)) (0 : Int)
  have hat0 := zPb es clock (zBT (p3 (zo s) k)) (0 : Int)
  have hst : ∃ e ∈ zD7 es clock (zBT (p3 (zo s) k)) (0 : Int), e.2.2 = zDP es clock (zBT (p3 (zo s) k)) := by
   obtain ⟨e, he, h1, _⟩ := zHK (es := es) (clock := clock) (x := zBT (p3 (zo s) k)) (z := (0 : Int))
   exact ⟨e, he, h1⟩
  repeat' (first | refine y3 ?_ | refine y7 sg H ?_ | (refine zAE zZ 8 ?_ ?_; exact rfl; intro w hcl; replace H := H.ext hcl; clear hcl) | ((with_reducible apply zBc); decide +kernel) | (refine' z8 3 ?_ ?_; rotate_left; first | exact z9 sg) | (refine' z8 4 ?_ ?_; rotate_left; first | exact z9 sg) | (refine' z8 6 ?_ ?_; rotate_left; first | exact z9 sg) | refine z10 0 ?_ | refine z10 1 ?_ | refine z10 2 ?_ | refine z10 5 ?_ | refine z10 7 ?_ | refine z11 0 1 ?_ ?_ | refine z11 2 5 ?_ ?_ | (refine zf rfl rfl (Yq.lookM sg zDe (Value.int .i64) es (zBT (p3 (zo s) k)) 0 hz H.mem (List.Mem.tail _ (List.Mem.head _)) rfl rfl rfl rfl rfl) ?_) | (refine zf rfl rfl (lookS sg zDe (Value.int .i64) (zD7 es clock (zBT (p3 (zo s) k)) (0 : Int)) (zBT (p3 (zo s) k)) 0 ((atM es (zBT (p3 (zo s) k))).getD 0) hat0 hz H.mem (List.Mem.tail _ (List.Mem.head _)) rfl rfl rfl rfl rfl) ?_) | (refine m4 sg zDe (Value.int .i64) es (zBT (p3 (zo s) k)) (0 : Int) hz H (Up.there Up.here) rfl ?_; intro w H) | (refine m5 zDe (Value.int .i64) (zD7 es clock (zBT (p3 (zo s) k)) (0 : Int)) (IntKind.i64.wrap ((atM es (zBT (p3 (zo s) k))).getD 0 + (p3 (zo s) k).2.2)) hMI2.stamps hst H (Up.there Up.here) rfl ?_; intro w H) | (with_reducible first | apply zB | apply zD | apply zF | apply zDX) | fail)
  all_goals refine ⟨[_, _], ⟨addM es clock (zBT (p3 (zo s) k)) 0 (IntKind.i64.wrap ((atM es (zBT (p3 (zo s) k))).getD 0 + (p3 (zo s) k).2.2)), _, rfl, zNo hMI _ _ _, fun x => ?_⟩, H.sub (List.sublist_cons_self _ _)⟩
  all_goals rw [zPY hMI, List.take_succ_eq_append_getElem hk, hat, hat]
  all_goals have hpk : (zo s)[k] = (p3 (zo s) k) := by unfold p3; simp [List.getElem?_eq_getElem hk]
  all_goals rw [hpk, zNs]
 ·clear hP
  rintro D lo M w ⟨es, clock, rfl, hMI, hat⟩ H
  rw [List.take_length] at hat
  simp only [List.cons_append, List.nil_append] at H
  refine zDX (zD (CM.of ?_))
  have hz : ∀ w : World, (zeroValue 2).run Tryz.prog w = .ok (Value.int .i64 0) w := fun w => Tryz.zeroValue2 w
  repeat' (first | refine y1 sg ?_ | refine y3 ?_ | refine y7 sg H ?_ | (with_reducible first | apply zB | apply zD | apply zC | apply zF) | refine zA ?_ | fail)
  refine zK [(2, 2), (7, 8), (24, 41)] (fun x : Nat × List (ME (Int × Int) Int) × Nat => [(24, .int .i64 (x.1 : Int))]) (fun x w => x.1 ≤ s.rows.length ∧ St w0 (lo :: (D, .deferred (some [])) :: (bm, mo zDe (Value.int .i64) x.2.1 x.2.2) :: cb b [.map (some bm)] _ :: cb _ _ _ :: [cb _ _ _]) w ∧ MI x.2.1 x.2.2 ∧ (∀ y, atM x.2.1 y = if y ∈ zB1 s.rows x.1 then none else atP (zo s) y) ∧ ∀ i, i < x.1 → zCz s i = true) (fun x => s.rows.length - x.1) (0, es, clock) ⟨rfl, trivial⟩ ⟨Nat.zero_le _, H, hMI, fun y => by rw [hat]; rfl, fun i hi => absurd hi (Nat.not_lt_zero _)⟩ ?_
  clear H hMI hat
  rintro ⟨j, es, clock⟩ gh w ⟨hj, H, hMI, hat, hok⟩
  simp only at hj H hMI hat hok ⊢
  repeat' (first | refine y1 sg ?_ | (with_reducible first | apply zB | apply zD | apply zC) | refine zA ?_ | fail)
  refine zL rfl (fun h => ?_) (fun h => ?_)
  ·have hlt : j < s.rows.length := by have := of_decide_eq_true h; omega
   clear h
   have hgot : (atM es (zD8 (rw_ s.rows j))).getD 0 = if zD8 (rw_ s.rows j) ∈ zB1 s.rows j then 0 else zFL (zo s) (zD8 (rw_ s.rows j)) := by
    rw [hat]
    split
    ·rfl
    ·exact zIh _ _
   repeat' (first | refine y1 sg ?_ | refine y2 sg ?_ | refine y3 ?_ | refine y4 ?_ | refine y7 sg H ?_ | refine y8 sg H ?_ | (refine y10 sg H ?_; intro b w H) | (refine y11 sg H ?_; intro w H) | (refine y40 sg (hs) ?_ ?_ ?_; (omega); (omega)) | (refine y42 sg (hs) ((H.memF hF)) ?_ ?_; (omega)) | (refine zAD rfl rfl (Yq.lookM sg zDe (Value.int .i64) es (zD8 (rw_ s.rows j)) 0 hz H.mem (by repeat (first | exact List.Mem.head _ | refine List.Mem.tail _ ?_)) rfl rfl rfl rfl rfl) ?_) | (with_reducible first | apply zB | apply zD | apply zC | apply zF | apply zH) | (with_reducible apply zb; intro w hcl; replace H := H.ext hcl; clear hcl) | refine zA ?_ | refine y20 zZ ?_ | fail)
   refine zL rfl (fun h => ?_) (fun h => ?_)
   ·repeat' (first | refine y1 sg ?_ | (with_reducible first | apply zB | apply zD | apply zC | apply zG | apply zP | apply za) | refine zA ?_ | fail)
    refine zNq H (Up.there (Up.there (Up.there Up.here))) (fun w' H' => ⟨[_], ⟨zp rfl, trivial⟩, congrArg (fun v => Ending.returned (Value.bool v)) ?_, H'.cl⟩)
    have : zCz s j = false := by unfold zCz; rw [← hgot]; simpa using h
    unfold zDq
    have h2 : (List.range s.rows.length).all (zCz s) = false := List.all_eq_false.2 ⟨j, List.mem_range.2 hlt, by rw [this]; simp⟩
    rw [h2]; rfl
   ·have hgood : zCz s j = true := by unfold zCz; rw [← hgot]; simpa using h
    clear h
    repeat' (first | refine y1 sg ?_ | refine y3 ?_ | refine y7 sg H ?_ | (refine m6 sg zDe (Value.int .i64) es (zD8 (rw_ s.rows j)) H (Up.there (Up.there (Up.there (Up.there Up.here)))) rfl ?_; intro w H) | (with_reducible first | apply zB | apply zD | apply zH) | refine zA ?_ | fail)
    refine zM (j + 1, zHz es (zD8 (rw_ s.rows j)), clock) rfl ⟨zV (by omega), trivial⟩ ⟨hlt, (H.sub (List.sublist_cons_self _ _)).sub (List.sublist_cons_self _ _), zNp hMI _, fun y => ?_, fun i hi => ?_⟩ (by simp only; omega)
    ·simp only
     rw [zPZ hMI, hat]
     have hk : zB1 s.rows (j + 1) = zB1 s.rows j ++ [zD8 (rw_ s.rows j)] := by
      unfold zB1 rw_
      rw [List.take_succ_eq_append_getElem hlt, List.map_append]
      simp [List.getElem?_eq_getElem hlt]
     rw [hk]
     by_cases h1 : y = zD8 (rw_ s.rows j)
     ·rw [if_pos h1, if_pos (by rw [h1]; simp)]
     ·rw [if_neg h1]
      by_cases h2 : y ∈ zB1 s.rows j
      ·rw [if_pos h2, if_pos (List.mem_append_left _ h2)]
      ·rw [if_neg h2, if_neg (by simp [h1, h2])]
    ·rcases (show i < j ∨ i = j by have : i < j + 1 := hi; omega) with g | rfl
     ·exact hok i g
     ·exact hgood
  ·obtain rfl : j = s.rows.length := by have := of_decide_eq_false h; omega
   repeat' (first | refine y1 sg ?_ | refine y3 ?_ | refine y7 sg H ?_ | (refine zf rfl rfl (Yq.lenM sg zDe (Value.int .i64) es H.mem (by repeat (first | exact List.Mem.head _ | refine List.Mem.tail _ ?_)) rfl rfl rfl rfl) ?_) | (with_reducible first | apply zB | apply zD | apply zC | apply zG | apply zN | apply zW) | refine zA ?_ | refine y24 ?_ | fail)
   refine zNq H (Up.there Up.here) (fun w' H' => ⟨[_], ⟨zp rfl, trivial⟩, congrArg (fun v => Ending.returned (Value.bool v)) ?_, H'.cl⟩)
   unfold zDq
   have h2 : (List.range s.rows.length).all (zCz s) = true := List.all_eq_true.2 fun i hi => hok i (List.mem_range.1 hi)
   rw [h2, Bool.true_and, Bool.eq_iff_iff, List.all_eq_true]
   constructor
   ·intro hl y hy
    have he : es = [] := List.eq_nil_of_length_eq_zero (by have := eqI hl; omega)
    rw [decide_eq_true_eq]
    have h3 := hat (zBT y)
    rw [he, zK3] at h3
    by_cases hm : zBT y ∈ zB1 s.rows s.rows.length
    ·exact hm
    ·rw [if_neg hm] at h3
     unfold atP at h3
     rw [show zGX (zo s) (zBT y) = true from List.any_eq_true.2 ⟨y, hy, by simp⟩] at h3
     cases h3
   ·intro hall
    cases es with
    | nil => rfl
    | cons e t =>
      have h3 := hat e.1
      rw [zBS, if_pos rfl] at h3
      by_cases hm : e.1 ∈ zB1 s.rows s.rows.length
      ·rw [if_pos hm] at h3; cases h3
      ·rw [if_neg hm] at h3
       unfold atP at h3
       cases hh : zGX (zo s) e.1 with
       | false => rw [hh] at h3; cases h3
       | true =>
         obtain ⟨y, hy, hky⟩ := List.any_eq_true.1 hh
         have := of_decide_eq_true (hall y hy)
         rw [of_decide_eq_true hky] at this
         exact absurd this hm
end Go.Proofs.YtggolnppckpdlaaGreat
