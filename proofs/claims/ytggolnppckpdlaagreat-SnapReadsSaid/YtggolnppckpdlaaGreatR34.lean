/- Texts of ours, joined: the steps of the proof, or the claim's theorem. -/
import Derived.Test.YtggolnppckpdlaaGreatR32
set_option linter.unusedSimpArgs false
set_option linter.unusedVariables false
namespace Go.Proofs.YtggolnppckpdlaaGreat
open Go Go.Sk Go.RowKit
attribute [local irreducible] Go.Calls
def rawP (n : Nat) (x : ByteArray) (l : List Nat) : Prop := x.size = n ∧ l = zN x
theorem c_RawG {w0 w : World} {G : zI} {pr : Nat} {s : ByteArray} {p : Rs} {q : Int} (n : Nat) (hq : q = (n : Int)) (hn : n ≤ 1073741824) (hp : p.pos ≤ s.size) (hs : s.size ≤ 1073741824) (H : St w0 (rd pr s p :: G) w) :
  Calls Tryz.prog 46 [ptr pr, .int .i64 q].toArray w (zf (fun N v => ∃ (x : ByteArray) (p' : Rs), v = .string x ∧ N = rd pr s p' :: G ∧ p'.bad = p.bad ∧ Step (zN s) (rawP n) p p' x) w0) := by
 subst hq
 have hlen := zP s
 have hmx : (if (0 : Int) > (n : Int) then (0 : Int) else (n : Int)) = (n : Int) := if_neg (by omega)
 by_cases he : p.e = 0
 ·by_cases hl : p.pos + n ≤ s.size
  ·have hx : zN (s.extract p.pos (p.pos + n)) = ((zN s).drop p.pos).take n := by rw [zc]; congr 1; omega
   have hxs : (s.extract p.pos (p.pos + n)).size = n := by rw [← zP, hx, List.length_take, List.length_drop]; omega
   have hdr : (zN s).drop p.pos = zN (s.extract p.pos (p.pos + n)) ++ (zN s).drop (p.pos + n) := by rw [hx, ← List.drop_drop, List.take_append_drop]
   refine enter [.tmp 4] Tryz.func46 rfl Tryz.ntmps46 rfl rfl ?_
   repeat' (first | refine y1 sg ?_ | refine y3 ?_ | (refine' y33 zBV ?_ ?_; rotate_left 2; exact zC7 n hmx he hs hl H; rintro v N w ⟨rfl, rfl⟩ H) | (with_reducible first | apply zB | apply zD | apply zC | apply zF) | refine zA ?_ | fail)
   refine zU (vs := [_]) ⟨zZ rfl, trivial⟩ H ⟨_, _, rfl, rfl, rfl, by simp only; omega, fun h => ⟨h, _, ⟨hxs, rfl⟩, hdr⟩, fun h y l r hy hr => ?_⟩
   obtain ⟨hy1, rfl⟩ := hy
   rw [hdr] at hr
   obtain ⟨e1, e2⟩ := List.append_inj hr (by rw [zP, zP]; omega)
   exact ⟨h, zCt e1, e2⟩
  ·refine enter [.tmp 4] Tryz.func46 rfl Tryz.ntmps46 rfl rfl ?_
   repeat' (first | refine y1 sg ?_ | refine y3 ?_ | (refine' y33 zBV ?_ ?_; rotate_left 2; exact zEW n hmx he hp hs (by omega) H; rintro v N w ⟨rfl, rfl⟩ H) | (with_reducible first | apply zB | apply zD | apply zC | apply zF) | refine zA ?_ | fail)
   refine zU (vs := [_]) ⟨zZ rfl, trivial⟩ H ⟨_, _, rfl, rfl, rfl, by simp only; omega, fun h => absurd h.1 (by simp), fun h y l r hy hr => ?_⟩
   obtain ⟨hy1, rfl⟩ := hy
   have := congrArg List.length hr
   rw [List.length_drop, List.length_append, zP, zP] at this
   omega
 ·refine enter [.tmp 4] Tryz.func46 rfl Tryz.ntmps46 rfl rfl ?_
  repeat' (first | refine y1 sg ?_ | refine y3 ?_ | (refine' y33 zBV ?_ ?_; rotate_left 2; exact zFZ he H; rintro v N w ⟨rfl, rfl⟩ H) | (with_reducible first | apply zB | apply zD | apply zC | apply zF) | refine zA ?_ | fail)
  exact zU (vs := [_]) ⟨zZ rfl, trivial⟩ H ⟨_, p, rfl, rfl, rfl, Step.dead (by omega) (fun h => he h.1) (fun h => he h.1)⟩
def noneV (e : Int) : Value := .tuple #[.int .i64 0, .agg (Sta.zero.cells SPt.zero).toArray, .agg (Vws.zero.cells VPt.zero).toArray, .int .i64 e]
theorem zHv (e : Int) (w : World) : Calls Tryz.prog 43 [.int .i64 e].toArray w (Ret (noneV e) w) := by
 refine enter [.tmp 2, .cell 3 29, .cell 4 35, .tmp 5] Tryz.func43 rfl Tryz.ntmps43 rfl rfl ?_
 have H := zH w
 repeat' (first | refine y1 sg ?_ | refine y3 ?_ | (refine y10 sg H ?_; intro b w H) | (refine y11 sg H ?_; intro w H) | (with_reducible first | apply zB | apply zD | apply zC | apply zF) | refine zA ?_ | fail)
 exact zCY (vs := [_, _, _, _]) ⟨zZ rfl, zAF sg rfl H.mem (by repeat (first | exact List.Mem.head _ | exact List.mem_append_right _ (List.Mem.head _) | refine List.Mem.tail _ ?_)) rfl rfl, zAF sg rfl H.mem (by repeat (first | exact List.Mem.head _ | exact List.mem_append_right _ (List.Mem.head _) | refine List.Mem.tail _ ?_)) rfl rfl, zZ rfl, trivial⟩ H.cl rfl
def zCX : List Nat := [115, 110, 112, 49]
def HdOk (T : List Nat) (q : Nat) (b : List Nat) : Prop := q ≤ 1048576 ∧ T = zBu q b
theorem zHG {B : List Nat} (hB : B.length ≤ 1048576) {x : ByteArray} {q n : Nat} {p1 p2 p3 : Rs} (h1 : Step B (rawP 4) ⟨0, 0, 0, false⟩ p1 x) (h2 : Step B (zDp 8) p1 p2 q) (h3 : Step B (zDp 4) p2 p3 n) (hbad : p3.bad = false) :
  (p3.e = 0 ∧ zN x = zCX ∧ n = B.length - p3.pos ∧ HdOk B q (B.drop 16) ∧ q ≤ 1048576 ∧ 16 ≤ B.length) ∨ ((∀ q b, ¬ HdOk B q b) ∧ ¬ (p3.e = 0 ∧ zN x = zCX ∧ q ≤ 1048576 ∧ n = B.length - p3.pos)) := by
 have hu : ∀ q' b, HdOk B q' b → p3.e = 0 ∧ zN x = zCX ∧ q = q' ∧ n = b.length ∧ B.drop p3.pos = b := by
  rintro q' b ⟨hq, hT⟩
  have hl := zE7 q' b
  obtain ⟨c1, rfl, c3⟩ := h1.cpl ⟨rfl, rfl⟩ (bytesOf zCX) zCX _ ⟨by rw [zAc]; rfl, (zx (by intro b hb; simp [zCX] at hb; omega)).symm⟩ (by rw [List.drop_zero]; exact hT)
  obtain ⟨d1, rfl, d3⟩ := h2.cpl c1 q' _ _ ⟨by omega, rfl⟩ c3
  obtain ⟨e1, rfl, e3⟩ := h3.cpl d1 b.length _ _ ⟨by rw [hT, hl] at hB; omega, rfl⟩ d3
  exact ⟨e1.1, zx (by intro b hb; simp [zCX] at hb; omega), rfl, rfl, e3⟩
 by_cases h : p3.e = 0 ∧ zN x = zCX ∧ q ≤ 1048576 ∧ n = B.length - p3.pos
 ·obtain ⟨a1, a2, a3, a4⟩ := h
  obtain ⟨b1, l3, ⟨b2, rfl⟩, b3⟩ := h3.snd ⟨a1, hbad⟩
  obtain ⟨c1, l2, ⟨c2, rfl⟩, c3⟩ := h2.snd b1
  obtain ⟨d1, l1, ⟨d2, rfl⟩, d3⟩ := h1.snd c1
  rw [c3, b3, a2, List.drop_zero] at d3
  have hl : B.length = 16 + (B.drop p3.pos).length := by
   have := congrArg List.length d3
   simpa [zCX, beK, be8, be4, Nat.add_assoc, Nat.add_comm, Nat.add_left_comm] using this
  rw [List.length_drop] at hl
  have hi := h3.inv
  have hpos : p3.pos = 16 := by omega
  refine .inl ⟨a1, a2, a4, ⟨a3, ?_⟩, a3, by omega⟩
  rw [hpos] at d3 a4
  unfold zBu
  rw [List.length_drop, ← a4]
  exact d3
 ·refine .inr ⟨fun q' b hh => h ?_, h⟩
  obtain ⟨e1, e2, rfl, rfl, e5⟩ := hu q' b hh
  exact ⟨e1, e2, hh.1, by rw [← e5, List.length_drop]⟩
theorem zJ2 {t : ByteArray} (ht : t.size ≤ 1048576) {x : ByteArray} {q n : Nat} (hn : n < 256 ^ 4) {p1 p2 p3 : Rs} (h1 : Step (zN t) (rawP 4) ⟨0, 0, 0, false⟩ p1 x) (h2 : Step (zN t) (zDp 8) p1 p2 q) (h3 : Step (zN t) (zDp 4) p2 p3 n) (hbad : p3.bad = false) :
  (((p3.e != 0) = false ∧ (!x.toList == (⟨#[115, 110, 112, 49]⟩ : ByteArray).toList) = false ∧ decide ((q : Int) > 1048576) = false ∧ (IntKind.i64.wrap (n : Int) != ((t.size - p3.pos : Nat) : Int)) = false) ∧ HdOk (zN t) q ((zN t).drop 16) ∧ q ≤ 1048576 ∧ 16 ≤ t.size) ∨
  ((∀ q b, ¬ HdOk (zN t) q b) ∧ ((p3.e != 0) = false → (!x.toList == (⟨#[115, 110, 112, 49]⟩ : ByteArray).toList) = false → decide ((q : Int) > 1048576) = false → (IntKind.i64.wrap (n : Int) != ((t.size - p3.pos : Nat) : Int)) = false → False)) := by
 have hl := zP t
 have hm : zN ⟨#[115, 110, 112, 49]⟩ = zCX := by decide
 have hn' : n < 4294967296 := hn
 have hw : IntKind.i64.wrap (n : Int) = (n : Int) := w64 (by omega) (by omega)
 rw [zD8, hm, hw]
 rcases zHG (by omega) h1 h2 h3 hbad with ⟨g1, g2, g3, g4, g5, g6⟩ | ⟨hno, hnc⟩
 ·exact .inl ⟨⟨by simp [g1], by simp [g2], decide_eq_false (by omega), by rw [hl] at g3; simp [g3]⟩, g4, g5, by omega⟩
 ·refine .inr ⟨hno, fun a1 a2 a3 a4 => hnc ⟨by simpa using a1, by simpa using a2, by have := of_decide_eq_false a3; omega, ?_⟩⟩
  have : (n : Int) = ((t.size - p3.pos : Nat) : Int) := by simpa using a4
  rw [hl]; omega
def OpenA (B : List Nat) (n : Int) (x : Sta) (y : Vws) (e : Int) : Prop :=
 (e = 0 ∧ B.length ≤ 1048576 ∧ ∃ q b, n = (q : Nat) ∧ HdOk (zAe B).1 q b ∧ (zAe B).2 = 0 ∧ b.length ≤ 1048556 ∧ RdOk b x y) ∨
 (n = 0 ∧ x = Sta.zero ∧ y = Vws.zero ∧ ((e = 40 ∧ 1048576 < B.length) ∨ (e ≠ 0 ∧ B.length ≤ 1048576 ∧ (zAe B).2 = e) ∨
  (e = 4 ∧ B.length ≤ 1048576 ∧ (zAe B).2 = 0 ∧ ∀ q b x y, HdOk (zAe B).1 q b → ¬ RdOk b x y)))
theorem permO {a b c : Nat × Obj} : (a :: b :: c :: []).Perm (c :: a :: b :: []) := List.perm_middle (l₁ := [a, b]) (l₂ := [])
def zOS (B : List Nat) : zI → Value → Prop := fun N v => ∃ (n : Int) (x : Sta) (p : SPt) (y : Vws) (q : VPt) (e : Int), v = .tuple #[.int .i64 n, .agg (x.cells p).toArray, .agg (y.cells q).toArray, .int .i64 e] ∧ StaM N x p ∧ VwM N y q ∧ OpenA B n x y e
theorem zE8 (B : List Nat) : (zAe B).1.length ≤ B.length := by
 unfold zAe; repeat' split
 all_goals first | (simp only [List.length_nil]; omega) | (simp only [List.length_take]; omega)
theorem zIu {B : List Nat} (h : (zAe B).2 = 0) : (zAe B).1.length + 4 ≤ B.length := by
 unfold zAe at h ⊢
 split at h
 ·cases h
 ·rename_i h4
  rw [if_neg h4]
  split at h
  ·rename_i h5
   rw [if_pos h5]; simp only [List.length_take]; omega
  ·cases h
theorem zHH {B : List Nat} (h : Byt B) : Byt (zAe B).1 := by
 have h0 : Byt [] := fun b hb => by cases hb
 unfold zAe; repeat' split
 ·exact h0
 ·exact h.take _
 ·exact h0
theorem HdOk.inj {T : List Nat} {q q' : Nat} {b b' : List Nat} (h : HdOk T q b) (h' : HdOk T q' b') : b = b' := by
 have e := h.2.symm.trans h'.2
 unfold zBu at e
 obtain ⟨_, e1⟩ := List.append_inj e rfl
 obtain ⟨_, e2⟩ := List.append_inj e1 rfl
 exact (List.append_inj e2 rfl).2
set_option maxHeartbeats 4000000 in
theorem zIv (s : ByteArray) (hs : s.size ≤ 140737488355000) (hW : ∀ q b, HdOk (zAe (zN s)).1 q b → (zAe (zN s)).2 = 0 → RdW b) (w0 : World) :
  Calls Tryz.prog 12 [.string s].toArray w0 (zf (fun N v => zOS (zN s) N v ∧ Fz N) w0) := by
 have hlen := zP s
 by_cases hbig : s.size > 1048576
 ·have hd : decide ((s.size : Int) > 1048576) = true := decide_eq_true (by omega)
  refine enter [.tmp 2, .cell 3 29, .cell 4 35, .tmp 5] Tryz.func12 rfl Tryz.ntmps12 rfl rfl ?_
  have H := zH w0
  repeat' (first | refine y1 sg ?_ | refine y3 ?_ | (refine y10 sg H ?_; intro b w H) | (refine y11 sg H ?_; intro w H) | (refine' y34 zMq ?_ ?_; rotate_left; exact zHv _ _; intro w hcl; replace H := H.ext hcl; clear hcl) | (with_reducible first | apply zB | apply zD | apply zC | apply zF | apply zO) | refine zA ?_ | (refine y23 ?_ ?_; all_goals (intro h; try (exfalso; first | ((rw [hd] at h; cases h); done)))) | fail)
  exact zU (vs := [_, _, _, _]) ⟨zZ rfl, zAF sg rfl H.mem (by repeat (first | exact List.Mem.head _ | exact List.mem_append_right _ (List.Mem.head _) | refine List.Mem.tail _ ?_)) rfl rfl, zAF sg rfl H.mem (by repeat (first | exact List.Mem.head _ | exact List.mem_append_right _ (List.Mem.head _) | refine List.Mem.tail _ ?_)) rfl rfl, zZ rfl, trivial⟩ H ⟨⟨0, Sta.zero, SPt.zero, Vws.zero, VPt.zero, 40, rfl, StaM.zero, VwM.zero, .inr ⟨rfl, rfl, rfl, .inl ⟨rfl, by omega⟩⟩⟩, (by repeat (first | exact Fz.nil | exact hz1 | exact hz2 | exact hz | refine Fz.cons ?_ | refine Fz.app ?_ ?_))⟩
 ·have hd : decide ((s.size : Int) > 1048576) = false := decide_eq_false (by omega)
  have ho := fun w => zQI s (by omega) w
  have hol := zE8 (zN s)
  have hob := zHH (zAy s)
  obtain ⟨⟨T, e⟩, hx⟩ : ∃ x, zAe (zN s) = x := ⟨_, rfl⟩
  rw [hx] at ho hol hob hW
  simp only at ho hol hob hW
  by_cases he : e = 0
  ·subst he
   have hok := zIu (B := zN s) (by rw [hx])
   rw [hx] at hok
   simp only at hok
   have hT : zN (bytesOf T) = T := zx hob
   have hTl : (bytesOf T).size = T.length := zAc T
   obtain ⟨t, ht⟩ : ∃ t, bytesOf T = t := ⟨_, rfl⟩
   rw [ht] at ho hT hTl
   subst hT
   have hts : t.size ≤ 1048576 := by omega
   have htl : (zN t).length = t.size := zP t
   have h16 : zN (t.extract 16 t.size) = (zN t).drop 16 := by rw [zc, List.take_of_length_le (by rw [List.length_drop]; omega)]
   refine enter [.tmp 2, .cell 3 29, .cell 4 35, .tmp 5] Tryz.func12 rfl Tryz.ntmps12 rfl rfl ?_
   have H := zH w0
   repeat' (first | refine y1 sg ?_ | refine y3 ?_ | refine y5 sg ?_ | refine y7 sg H ?_ | (refine y10 sg H ?_; intro b w H) | (refine y11 sg H ?_; intro w H) | (refine' y30 ent44 ?_ ?_; rotate_left; exact ho _; intro w hcl; replace H := H.ext hcl; clear hcl) | (refine' y32 ent45 ?_ ?_; rotate_left; exact zNQ t; intro v M w hR hS; replace H := H.addR hS; clear hS; (try simp only [List.cons_append, List.nil_append] at H); obtain ⟨pr, rfl, rfl⟩ := hR) | (refine' y33 ent46 ?_ ?_; rotate_left 2; exact c_RawG 4 rfl (by decide) (p := ⟨0, 0, 0, false⟩) (Nat.zero_le _) (by omega) (H.perm permO); rintro v N w ⟨x, p1, rfl, rfl, hb1, hS1⟩ H) | (refine' y33 ent47 ?_ ?_; rotate_left 2; exact c_rU64 (Nat.le_trans hS1.inv (Nat.le_of_eq htl)) (by omega) H; rintro v N w ⟨q, p2, rfl, rfl, hq, hb2, hS2⟩ H) | (refine' y33 ent48 ?_ ?_; rotate_left 2; exact c_rU32 (Nat.le_trans hS2.inv (Nat.le_of_eq htl)) (by omega) H; rintro v N w ⟨n, p3, rfl, rfl, hn, hb3, hS3⟩ H; have hi3 := hS3.inv; rcases zJ2 hts hn hS1 hS2 hS3 (by rw [hb3, hb2, hb1]) with ⟨⟨k1, k2, k3, k4⟩, g4, g5, g6⟩|⟨hno, kb⟩) | (refine' y30 zDM ?_ ?_; rotate_left; exact zB9 H.mem (by repeat (first | exact List.Mem.head _ | exact List.mem_append_right _ (List.Mem.head _) | refine List.Mem.tail _ ?_)); intro w hcl; replace H := H.ext hcl; clear hcl) | (refine' y30 ent50 ?_ ?_; rotate_left; exact zKv (Nat.le_trans hS3.inv (Nat.le_of_eq htl)) (by omega) H.mem (by repeat (first | exact List.Mem.head _ | exact List.mem_append_right _ (List.Mem.head _) | refine List.Mem.tail _ ?_)); intro w hcl; replace H := H.ext hcl; clear hcl) | (refine' y34 zMq ?_ ?_; rotate_left; exact zHv _ _; intro w hcl; replace H := H.ext hcl; clear hcl) | (refine zY rfl rfl (Yq.strLo sg (i := 16) rfl rfl rfl rfl rfl rfl (by decide) (by omega)) ?_) | (refine' y32 zKo ?_ ?_; rotate_left; exact zHu (t.extract 16 t.size) (by rw [← zP, h16, List.length_drop]; omega) (by rw [h16]; exact hW q _ g4 rfl) _; intro v M w hR hS; replace H := H.addR hS; clear hS; (try simp only [List.cons_append, List.nil_append] at H); obtain ⟨⟨x, pt, y, qt, e, rfl, hxm, hym, hra⟩, hz⟩ := hR; rw [h16] at hra; rcases hra with ⟨rfl, r1, r2⟩|⟨rfl, r1, rfl, rfl, r2⟩|⟨rfl, r1, rfl, rfl⟩) | (refine zw mixed 8 ?_ ?_; exact rfl; intro w hcl; replace H := H.ext hcl; clear hcl) | ((with_reducible apply zBD); decide +kernel) | (refine' z8 0 ?_ ?_; rotate_left; first | exact z9 sg) | (refine' z8 1 ?_ ?_; rotate_left; first | exact z9 sg) | refine z10 2 ?_ | refine z10 3 ?_ | refine z10 4 ?_ | refine z10 5 ?_ | refine z10 6 ?_ | refine z10 7 ?_ | refine z11 2 3 ?_ ?_ | refine z11 2 4 ?_ ?_ | refine z11 3 4 ?_ ?_ | refine z11 3 5 ?_ ?_ | ((with_reducible apply RA.c3 2 3 4); exact rfl; decide +kernel; exact rfl; exact rfl; exact rfl) | refine y13 ?_ | refine y14 ?_ | (refine y17 ?_ ?_; all_goals (intro h; try (exfalso; first | ((rw [hd] at h; cases h); done) | ((rw [k1] at h; cases h); done) | ((rw [k2] at h; cases h); done) | ((rw [k3] at h; cases h); done) | ((rw [k4] at h; cases h); done) | ((exact kb ‹_› ‹_› ‹_› h); done)))) | (with_reducible first | apply zB | apply zD | apply zC | apply zF | apply zG | apply zO) | refine zA ?_ | refine y21 ?_ | refine y22 ?_ | (refine y23 ?_ ?_; all_goals (intro h; try (exfalso; first | ((rw [hd] at h; cases h); done) | ((rw [k1] at h; cases h); done) | ((rw [k2] at h; cases h); done) | ((rw [k3] at h; cases h); done) | ((rw [k4] at h; cases h); done) | ((exact kb ‹_› ‹_› ‹_› h); done)))) | fail)
   all_goals first
    | exact zU (vs := [_, _, _, _]) ⟨zZ rfl, zAF sg rfl H.mem (by repeat (first | exact List.Mem.head _ | exact List.mem_append_right _ (List.Mem.head _) | refine List.Mem.tail _ ?_)) rfl rfl, zAF sg rfl H.mem (by repeat (first | exact List.Mem.head _ | exact List.mem_append_right _ (List.Mem.head _) | refine List.Mem.tail _ ?_)) rfl rfl, zZ rfl, trivial⟩ H ⟨⟨0, Sta.zero, SPt.zero, Vws.zero, VPt.zero, 4, rfl, StaM.zero, VwM.zero, .inr ⟨rfl, rfl, rfl, .inr (.inr ⟨rfl, by omega, by rw [hx], fun q b x y hh => by rw [hx] at hh; exact (hno q b hh).elim⟩)⟩⟩, (by repeat (first | exact Fz.nil | exact hz1 | exact hz2 | exact hz | refine Fz.cons ?_ | refine Fz.app ?_ ?_))⟩
    | exact zU (vs := [_, _, _, _]) ⟨zZ rfl, zAF sg rfl H.mem (by repeat (first | exact List.Mem.head _ | exact List.mem_append_right _ (List.Mem.head _) | refine List.Mem.tail _ ?_)) rfl rfl, zAF sg rfl H.mem (by repeat (first | exact List.Mem.head _ | exact List.mem_append_right _ (List.Mem.head _) | refine List.Mem.tail _ ?_)) rfl rfl, zZ rfl, trivial⟩ H ⟨⟨0, Sta.zero, SPt.zero, Vws.zero, VPt.zero, 4, rfl, StaM.zero, VwM.zero, .inr ⟨rfl, rfl, rfl, .inr (.inr ⟨rfl, by omega, by rw [hx], fun q b x y hh => by rw [hx] at hh; rw [hh.inj g4]; exact r2 x y⟩)⟩⟩, (by repeat (first | exact Fz.nil | exact hz1 | exact hz2 | exact hz | refine Fz.cons ?_ | refine Fz.app ?_ ?_))⟩
    | (exfalso; rw [List.length_drop] at r1; omega)
    | exact zU (vs := [_, _, _, _]) ⟨zZ rfl, zAF sg rfl H.mem (by repeat (first | exact List.Mem.head _ | exact List.mem_append_right _ (List.Mem.head _) | refine List.Mem.tail _ ?_)) rfl rfl, zAF sg rfl H.mem (by repeat (first | exact List.Mem.head _ | exact List.mem_append_right _ (List.Mem.head _) | refine List.Mem.tail _ ?_)) rfl rfl, zZ rfl, trivial⟩ H ⟨⟨(q : Int), x, pt, y, qt, 0, congrArg (fun i => Value.tuple #[.int .i64 i, .agg (x.cells pt).toArray, .agg (y.cells qt).toArray, .int .i64 0]) (w64 (by omega) (by omega)), hxm.mono (by intro p hp; simp [hp]), hym.mono (by intro p hp; simp [hp]), .inl ⟨rfl, by omega, q, _, rfl, by rw [hx]; exact g4, by rw [hx], r1, r2⟩⟩, (by repeat (first | exact Fz.nil | exact hz1 | exact hz2 | exact hz | refine Fz.cons ?_ | refine Fz.app ?_ ?_))⟩
  ·have hd2 : (e != 0) = true := by simp [he]
   refine enter [.tmp 2, .cell 3 29, .cell 4 35, .tmp 5] Tryz.func12 rfl Tryz.ntmps12 rfl rfl ?_
   have H := zH w0
   repeat' (first | refine y1 sg ?_ | refine y3 ?_ | (refine y10 sg H ?_; intro b w H) | (refine y11 sg H ?_; intro w H) | (refine' y30 ent44 ?_ ?_; rotate_left; exact ho _; intro w hcl; replace H := H.ext hcl; clear hcl) | (refine' y34 zMq ?_ ?_; rotate_left; exact zHv _ _; intro w hcl; replace H := H.ext hcl; clear hcl) | (with_reducible first | apply zB | apply zD | apply zC | apply zF | apply zG | apply zO) | refine zA ?_ | (refine y23 ?_ ?_; all_goals (intro h; try (exfalso; first | ((rw [hd] at h; cases h); done) | ((rw [hd2] at h; cases h); done)))) | fail)
   exact zU (vs := [_, _, _, _]) ⟨zZ rfl, zAF sg rfl H.mem (by repeat (first | exact List.Mem.head _ | exact List.mem_append_right _ (List.Mem.head _) | refine List.Mem.tail _ ?_)) rfl rfl, zAF sg rfl H.mem (by repeat (first | exact List.Mem.head _ | exact List.mem_append_right _ (List.Mem.head _) | refine List.Mem.tail _ ?_)) rfl rfl, zZ rfl, trivial⟩ H ⟨⟨0, Sta.zero, SPt.zero, Vws.zero, VPt.zero, e, rfl, StaM.zero, VwM.zero, .inr ⟨rfl, rfl, rfl, .inr (.inl ⟨he, by omega, by rw [hx]⟩)⟩⟩, (by repeat (first | exact Fz.nil | exact hz1 | exact hz2 | exact hz | refine Fz.cons ?_ | refine Fz.app ?_ ?_))⟩
theorem zQZ (s : ByteArray) (hs : s.size ≤ 140737488355000) (hW : ∀ q b, HdOk (zAe (zN s)).1 q b → (zAe (zN s)).2 = 0 → RdW b) (w0 : World) : Calls Tryz.prog 12 [.string s].toArray w0 (zf (zOS (zN s)) w0) :=
 (zIv s hs hW w0).mono fun _ _ ⟨v, M, h1, h2, h3⟩ => ⟨v, M, h1, h2.1, h3⟩
end Go.Proofs.YtggolnppckpdlaaGreat
