/- Texts of ours, joined: the steps of the proof, or the claim's theorem. -/
import Derived.Test.YtggolnppckpdlaaGreatQ42
import Derived.Test.YtggolnppckpdlaaGreatQ43
import Derived.Test.YtggolnppckpdlaaGreatQ44
set_option linter.unusedSimpArgs false
set_option linter.unusedVariables false
namespace Go.Sk
open Go Go.RowKit
section
variable {P : Program} {n : Nw} {ops : Array Oper} {Q : Post} {o : Oper} {rest : List Oper} {L : List (Nat × Value)} {b0 : Env} {w : World} (S : Sig P)
attribute [local semireducible] OX OW
theorem made_u8 (m : Nat) : madeCells #[Value.int .u8 0] m = (List.replicate m (Value.int .u8 0)).toArray := by
  apply Array.ext
  · simp [size_madeCells]
  · intro i h1 h2
    simp [madeCells, Nat.mod_one]
theorem OX.makeB {w0 : World} {G : Frag} {t E : TypeId} {x y : Operand} {d m : Nat} {q : Int} {ti te : TI} (H : St w0 G w) (hq : q = (m : Int)) (hm : m ≤ 16777216) (ho : o.op = .makeSlice t x y) (hd : o.dst = some d) (hlt : Nat.blt d n.n = true)
    (hx : ev (ovl L b0) x = .int .i64 q) (hy : ev (ovl L b0) y = .int .i64 q) (ht : lk S.tab t = some ti) (htd : ti.d = .slice E) (he : lk S.tab E = some te) (hz : te.zero = [.int .u8 0]) (hsz : te.size = 1) (hby : te.bytes = 1)
    (k : ∀ b w', St w0 (cb b (List.replicate m (.int .u8 0)) E :: G) w' → OW P n ops Q rest (ovl ((d, .slice (some ⟨b, 0, none⟩) m m) :: L) b0) w') : OX P n ops Q o rest (ovl L b0) w := by
  subst hq
  intro a ha
  unfold Oper.wp
  rw [ha.eval]
  have h2 := (lk_all he S.ok).2
  obtain ⟨f, h3, h4⟩ := Option.map_eq_some_iff.1 h2
  simp only [Prod.mk.injEq] at h4
  obtain ⟨zv, hz1, hz2⟩ := Option.map_eq_some_iff.1 h4.2.1
  have hfs : f.size = 1 := by rw [h4.1, hsz]
  have hfb : f.bytes = 1 := by rw [h4.2.2, hby]
  have hr := run_make (P := P) w t E f zv (by rw [S.und ht, htd]) h3 hz1 .i64 .i64 (m : Int) (m : Int) (by omega) (by omega) (by rw [hfb]; omega) (by omega)
  rw [hz2, hz, hfs, made_u8, Int.toNat_natCast, Nat.mul_one] at hr
  simp only [execOp, ho, hx, hy, Sem.run_bind, hr, Result.andThen_ok, Sem.run_pure, Oper.upon_value, hd]
  exact k _ _ (H.alloc _) _ (ha.put hlt _)
end
end Go.Sk
namespace Go.Proofs.YtggolnppckpdlaaGreat
open Go Go.Sk Go.RowKit
attribute [local irreducible] Go.Calls
def Sta.empty : Sta := ⟨0, 0, 1, 1, [], [], [], [], []⟩
theorem StaM.empty {F : Frag} : StaM F Sta.empty SPt.zero := ⟨slA0, slA0, slA0, slA0, slA0, fun j hj => absurd hj (Nat.not_lt_zero _)⟩
theorem c_Empty (w : World) : Calls Tryz.prog 34 [].toArray w (Ret (.agg (Sta.empty.cells SPt.zero).toArray) w) := by
  refine enter [.cell 0 29] Tryz.func34 rfl Tryz.ntmps34 rfl rfl ?_
  have H := St.start w
  repeat' (first | refine y1 sg ?_ | refine y3 ?_ | (refine y10 sg H ?_; intro b w H) | (refine y11 sg H ?_; intro w H) | with_reducible apply OW.nil | with_reducible apply thn_n | with_reducible apply CW.seq | refine CW.region ?_ | with_reducible apply CW.ret | fail)
  exact retV (vs := [_]) ⟨rdvC sg rfl H.mem (by repeat (first | exact List.Mem.head _ | exact List.mem_append_right _ (List.Mem.head _) | refine List.Mem.tail _ ?_)) rfl rfl, trivial⟩ H.cl rfl
noncomputable def isR (B : List Nat) (s : Sta) (v : Vws) : Bool := isEq (B.length ≤ 1048556 ∧ RdOk B s v) True
theorem isR_iff {B : List Nat} {s : Sta} {v : Vws} : isR B s v = true ↔ (B.length ≤ 1048556 ∧ RdOk B s v) := by unfold isR; rw [isEq_iff]; exact ⟨fun h => h ▸ trivial, fun h => propext ⟨fun _ => trivial, fun _ => h⟩⟩
theorem isR_no {B : List Nat} {s : Sta} {v : Vws} (h : ¬ (B.length ≤ 1048556 ∧ RdOk B s v)) : isR B s v = false := by
  cases hb : isR B s v
  · rfl
  · exact absurd (isR_iff.1 hb) h
set_option maxHeartbeats 2000000 in
theorem c_is {F : Frag} (bd : ByteArray) (hb : bd.size ≤ 140737488355328) (s : Sta) (p : SPt) (v : Vws) (q : VPt) (hW : RdW (strL bd)) (w0 : World) (hF : Mem w0 F) (hs : StaM F s p) (hv : VwM F v q) :
    Calls Tryz.prog 15 [.string bd, .agg (s.cells p).toArray, .agg (v.cells q).toArray].toArray w0 (Ret (.bool (isR (strL bd) s v)) w0) := by
  refine enter [.tmp 6] Tryz.func15 rfl Tryz.ntmps15 rfl rfl ?_
  have H := St.start w0
  repeat' (first | refine y1 sg ?_ | refine y3 ?_ | refine y7 sg H ?_ | (refine y9 H ?_; intro b w H) | (refine y10 sg H ?_; intro b w H) | (refine y11 sg H ?_; intro w H) | (refine' y32 ent16 ?_ ?_; rotate_left; exact c_Read bd hb hW _; intro vv M w hR hS; replace H := H.addR hS; clear hS; (try simp only [List.cons_append, List.nil_append] at H); obtain ⟨x, pt, y, qt, e, rfl, hxm, hym, hra⟩ := hR; rcases hra with ⟨rfl, r1, r2⟩|⟨rfl, r1, rfl, rfl, r2⟩|⟨rfl, r1, rfl, rfl⟩) | (refine' y30 ent13 ?_ ?_; rotate_left; exact c_stSame x s pt p _ (H.all hF) (hxm.mono (by intro p hp; simp [hp])) (hs.mono (by intro p hp; simp [hp])); intro w hcl; replace H := H.ext hcl; clear hcl) | (refine' y30 ent14 ?_ ?_; rotate_left; exact c_vwSame y v qt q _ (H.all hF) (hym.mono (by intro p hp; simp [hp])) (hv.mono (by intro p hp; simp [hp])); intro w hcl; replace H := H.ext hcl; clear hcl) | refine y13 ?_ | refine y14 ?_ | (refine y17 ?_ ?_; all_goals intro h) | with_reducible apply OW.nil | with_reducible apply thn_n | with_reducible apply CW.seq | refine CW.region ?_ | with_reducible apply CW.ret | fail)
  all_goals
    refine ret1 rfl H.cl (congrArg Value.bool ?_)
    rw [Bool.eq_iff_iff, isR_iff]
    constructor
    · intro k
      first
        | (cases k; done)
        | (obtain rfl := isEq_iff.1 h; obtain rfl := isEq_iff.1 k; exact ⟨r1, r2⟩)
    · rintro ⟨k1, k2⟩
      first
        | (exact absurd k2 (r2 _ _); done)
        | (exfalso; omega)
        | (obtain ⟨rfl, rfl⟩ := r2.uniq k2; first | exact isEq_iff.2 rfl | (rw [isEq_iff.2 rfl] at h; cases h))
def ReadE (B : List Nat) (e : Int) : Prop := (e = 4 ∧ B.length ≤ 1048556 ∧ ∀ x y, ¬ RdOk B x y) ∨ (e = 40 ∧ 1048556 < B.length)
noncomputable def noneR (B : List Nat) (e : Int) : Bool := isEq (ReadE B e) True
theorem noneR_iff {B : List Nat} {e : Int} : noneR B e = true ↔ ReadE B e := by unfold noneR; rw [isEq_iff]; exact ⟨fun h => h ▸ trivial, fun h => propext ⟨fun _ => trivial, fun _ => h⟩⟩
set_option maxHeartbeats 2000000 in
theorem c_none (bd : ByteArray) (hb : bd.size ≤ 140737488355328) (e0 : Int) (he : e0 ≠ 0) (hW : RdW (strL bd)) (w0 : World) :
    Calls Tryz.prog 18 [.string bd, .int .i64 e0].toArray w0 (Ret (.bool (noneR (strL bd) e0)) w0) := by
  have hzs : ∀ x : Sta, x = Sta.zero → isEq x Sta.zero = true := fun x h => isEq_iff.2 h
  refine enter [.tmp 4] Tryz.func18 rfl Tryz.ntmps18 rfl rfl ?_
  have H := St.start w0
  repeat' (first | refine y1 sg ?_ | refine y3 ?_ | refine y5 sg ?_ | refine y7 sg H ?_ | (refine y10 sg H ?_; intro b w H) | (refine y11 sg H ?_; intro w H) | (refine' y32 ent16 ?_ ?_; rotate_left; exact c_Read bd hb hW _; intro vv M w hR hS; replace H := H.addR hS; clear hS; (try simp only [List.cons_append, List.nil_append] at H); obtain ⟨x, pt, y, qt, e, rfl, hxm, hym, hra⟩ := hR; rcases hra with ⟨rfl, r1, r2⟩|⟨rfl, r1, rfl, rfl, r2⟩|⟨rfl, r1, rfl, rfl⟩) | (refine' y30 ent13 ?_ ?_; rotate_left; exact c_stSame _ Sta.zero pt SPt.zero _ H.mem (hxm.mono (by intro p hp; simp [hp])) StaM.zero; intro w hcl; replace H := H.ext hcl; clear hcl) | (refine' y30 ent14 ?_ ?_; rotate_left; exact c_vwSame _ Vws.zero qt VPt.zero _ H.mem (hym.mono (by intro p hp; simp [hp])) VwM.zero; intro w hcl; replace H := H.ext hcl; clear hcl) | refine y13 ?_ | refine y14 ?_ | (refine y17 ?_ ?_; all_goals intro h) | with_reducible apply OW.nil | with_reducible apply thn_n | with_reducible apply CW.seq | refine CW.region ?_ | with_reducible apply CW.ret | fail)
  all_goals
    refine ret1 rfl H.cl (congrArg Value.bool ?_)
    rw [Bool.eq_iff_iff, noneR_iff]
    unfold ReadE
    constructor
    · intro k
      first
        | (cases k; done)
        | (exfalso; simp_all; done)
        | (simp_all; done)
    · intro k
      first
        | exact isEq_iff.2 rfl
        | (exfalso; rcases k with ⟨k0, k1, k2⟩ | ⟨k0, k1⟩ <;> first | exact k2 _ _ r2 | omega | (subst k0; simp at h; done) | (simp_all; done))
set_option maxHeartbeats 2000000 in
theorem c_bulk {F : Frag} (v : Vws) (q : VPt) (w0 : World) (hF : Mem w0 F) (hv : VwM F v q) :
    Calls Tryz.prog 21 [.agg (v.cells q).toArray].toArray w0 (Ret (.int .i64 (min 3000 ((v.opn.length + v.lots.length + v.poss.length + v.lins.length : Nat) : Int))) w0) := by
  obtain ⟨⟨_, b1, _⟩, ⟨_, b2, _⟩, ⟨_, b3, _⟩, ⟨_, b4, _⟩⟩ := hv
  have hw : IntKind.i64.wrap (IntKind.i64.wrap (IntKind.i64.wrap ((v.opn.length : Int) + v.lots.length) + v.poss.length) + v.lins.length) = ((v.opn.length + v.lots.length + v.poss.length + v.lins.length : Nat) : Int) := by
    rw [w64 (x := (v.opn.length : Int) + v.lots.length) (by omega) (by omega), w64 (x := (v.opn.length : Int) + v.lots.length + v.poss.length) (by omega) (by omega), w64 (by omega) (by omega)]; omega
  refine enter [.tmp 2] Tryz.func21 rfl Tryz.ntmps21 rfl rfl ?_
  have H := St.start w0
  repeat' (first | refine y1 sg ?_ | refine y3 ?_ | refine y7 sg H ?_ | (refine y9 H ?_; intro b w H) | with_reducible apply OW.nil | with_reducible apply thn_n | with_reducible apply CW.seq | refine CW.region ?_ | with_reducible apply CW.ret | fail)
  refine ret1 rfl H.cl (congrArg (Value.int .i64) ?_)
  rw [hw]
  split <;> omega
end Go.Proofs.YtggolnppckpdlaaGreat
