/- Texts of ours, joined: the steps of the proof, or the claim's theorem. -/
import Derived.Test.YtggolnppckpdlaaGreatR48
set_option linter.unusedSimpArgs false
set_option linter.unusedVariables false
namespace Go.Proofs.YtggolnppckpdlaaGreat
open Go Go.Sk Go.RowKit
attribute [local irreducible] Go.Calls
theorem zQ2 (s : ByteArray) (hs : s.size ≤ 1000000000) (w0 : World) : Calls Tryz.prog 80 [.string s].toArray w0 (Ret (.tuple #[.string (bytesOf (zAe (zN s)).1), .int .i64 (zAe (zN s)).2]) w0) := by
 have hl := zP s
 by_cases h4 : s.size < 4
 ·have hlt : decide ((s.size : Int) < 4) = true := decide_eq_true (by omega)
  refine enter [.tmp 2, .tmp 3] Tryz.func80 rfl Tryz.ntmps80 rfl rfl ?_
  have H := zH w0
  repeat' (first | refine y1 sg ?_ | (with_reducible first | apply zB | apply zD | apply zC | apply zF | apply zO) | refine zA ?_ | (refine y23 ?_ ?_; all_goals (intro h; try (exfalso; first | ((rw [hlt] at h; cases h); done)))) | fail)
  exact zCO rfl rfl H.cl (by unfold zAe; rw [if_pos (by omega)]; rfl)
 ·have hlt : decide ((s.size : Int) < 4) = false := decide_eq_false (by omega)
  have hsz : (s.extract 0 (s.size - 4)).size = s.size - 4 := by rw [← zP, zc]; simp; omega
  have hw : IntKind.i64.wrap ((s.size : Int) - 4) = ((s.size - 4 : Nat) : Int) := by rw [w64 (by omega) (by omega)]; omega
  have hS := fun w => c_ROf (s.extract 0 (s.size - 4)) (by omega) w
  have hex : zN (s.extract 0 (s.size - 4)) = (zN s).take ((zN s).length - 4) := by rw [zc, hl]; simp
  have hex2 : zN (s.extract (s.size - 4) s.size) = (zN s).drop ((zN s).length - 4) := by rw [zc, hl, List.take_of_length_le (by rw [List.length_drop]; omega)]
  rw [hex] at hS
  have hb := zLD (zDN ((zN s).take ((zN s).length - 4)))
  refine enter [.tmp 2, .tmp 3] Tryz.func80 rfl Tryz.ntmps80 rfl rfl ?_
  have H := zH w0
  repeat' (first | refine y1 sg ?_ | refine y2 sg ?_ | refine y3 ?_ | refine y4 ?_ | (refine zY rfl rfl (Yq.strHi sg (j := s.size - 4) rfl rfl rfl rfl rfl (by rw [hw]; exact Int.toNat_natCast _) (by rw [hw]; omega) (by rw [hw]; omega)) ?_) | (refine zo rfl rfl (Yq.strHi sg (j := s.size - 4) rfl rfl rfl rfl rfl (by rw [hw]; exact Int.toNat_natCast _) (by rw [hw]; omega) (by rw [hw]; omega)) ?_) | (refine zo rfl rfl (Yq.strLo sg (i := s.size - 4) rfl rfl rfl rfl rfl (by rw [hw]; exact Int.toNat_natCast _) (by rw [hw]; omega) (by rw [hw]; omega)) ?_) | (refine' y31 ent161 ?_ ?_; rotate_left; exact (fun _ hcl => hS _)) | (refine' y31 ent160 ?_ ?_; rotate_left; exact (fun _ hcl => c_four _ _)) | (with_reducible first | apply zB | apply zD | apply zC | apply zF | apply zG | apply zO) | (with_reducible apply zV; intro w hcl; replace H := H.ext hcl; clear hcl) | refine zA ?_ | refine y20 mixed ?_ | (refine y23 ?_ ?_; all_goals (intro h; try (exfalso; first | ((rw [hlt] at h; cases h); done)))) | fail)
  all_goals rw [zD8, zx hb, hex2] at h
  ·have hne : ¬ le4 (zDN ((zN s).take ((zN s).length - 4))) = (zN s).drop ((zN s).length - 4) := by simpa using h
   have hns : ¬ zA4 ((zN s).take ((zN s).length - 4)) = zN s := fun e => hne (by
    unfold zA4 at e
    have e2 := e.trans (List.take_append_drop ((zN s).length - 4) (zN s)).symm
    exact (List.append_inj e2 rfl).2)
   exact zCO rfl rfl H.cl (by unfold zAe; rw [if_neg (by omega), if_neg hns]; rfl)
  ·have he : le4 (zDN ((zN s).take ((zN s).length - 4))) = (zN s).drop ((zN s).length - 4) := by simpa using h
   have heq : zA4 ((zN s).take ((zN s).length - 4)) = zN s := by unfold zA4; rw [he, List.take_append_drop]
   exact zCO rfl rfl H.cl (by unfold zAe; rw [if_neg (by omega), if_pos heq, ← hex, zBm])
theorem zQ3 {B : List Nat} {x : ByteArray} {q n : Nat} {p1 p2 p3 : Rs} (h1 : Step B (rawP 4) ⟨0, 0, 0, false⟩ p1 x) (h2 : Step B (zDp 8) p1 p2 q) (h3 : Step B (zDp 4) p2 p3 n) (hl : p3.live) : p3.pos = 16 := by
 obtain ⟨b1, l3, ⟨b2, rfl⟩, b3⟩ := h3.snd hl
 obtain ⟨c1, l2, ⟨c2, rfl⟩, c3⟩ := h2.snd b1
 obtain ⟨d1, l1, ⟨d2, rfl⟩, d3⟩ := h1.snd c1
 rw [c3, b3, List.drop_zero] at d3
 have := congrArg List.length d3
 rw [List.length_append, List.length_append, List.length_append, zP, List.length_drop, show (beK 8 q).length = 8 from rfl, show (beK 4 n).length = 4 from rfl] at this
 have := h3.inv
 omega
theorem zKY {t : ByteArray} (ht : t.size ≤ 1048576) {x : ByteArray} {q n : Nat} (hn : n < 256 ^ 4) {p1 p2 p3 : Rs} (h1 : Step (zN t) (rawP 4) ⟨0, 0, 0, false⟩ p1 x) (h2 : Step (zN t) (zDp 8) p1 p2 q) (h3 : Step (zN t) (zDp 4) p2 p3 n) (hbad : p3.bad = false) :
  (((p3.e != 0) = false ∧ (!x.toList == (⟨#[115, 110, 112, 49]⟩ : ByteArray).toList) = false ∧ decide ((q : Int) > 1048576) = false ∧ ((n : Int) != IntKind.u64.wrap (IntKind.i64.wrap ((t.size : Int) - 16))) = false) ∧ HdOk (zN t) q ((zN t).drop 16) ∧ q ≤ 1048576 ∧ 16 ≤ t.size) ∨
  ((∀ q b, ¬ HdOk (zN t) q b) ∧ ((p3.e != 0) = false → (!x.toList == (⟨#[115, 110, 112, 49]⟩ : ByteArray).toList) = false → decide ((q : Int) > 1048576) = false → ((n : Int) != IntKind.u64.wrap (IntKind.i64.wrap ((t.size : Int) - 16))) = false → False)) := by
 have hl := zP t
 have hm : zN ⟨#[115, 110, 112, 49]⟩ = zCX := by decide
 have hpos := zQ3 h1 h2 h3
 have hi := h3.inv
 rw [zD8, hm]
 rcases zHG (by omega) h1 h2 h3 hbad with ⟨g1, g2, g3, g4, g5, g6⟩ | ⟨hno, hnc⟩
 ·have hp := hpos ⟨g1, hbad⟩
  have hw : IntKind.u64.wrap (IntKind.i64.wrap ((t.size : Int) - 16)) = ((t.size - 16 : Nat) : Int) := by rw [w64 (by omega) (by omega), show (t.size : Int) - 16 = ((t.size - 16 : Nat) : Int) by omega, zBI (by omega)]
  rw [hw]
  exact .inl ⟨⟨by simp [g1], by simp [g2], decide_eq_false (by omega), by rw [g3, hp, hl]; simp⟩, g4, g5, by omega⟩
 ·refine .inr ⟨hno, fun a1 a2 a3 a4 => hnc ?_⟩
  have e0 : p3.e = 0 := by simpa using a1
  have hp := hpos ⟨e0, hbad⟩
  have hw : IntKind.u64.wrap (IntKind.i64.wrap ((t.size : Int) - 16)) = ((t.size - 16 : Nat) : Int) := by rw [w64 (by omega) (by omega), show (t.size : Int) - 16 = ((t.size - 16 : Nat) : Int) by omega, zBI (by omega)]
  rw [hw] at a4
  refine ⟨e0, by simpa using a2, by have := of_decide_eq_false a3; omega, ?_⟩
  have : (n : Int) = ((t.size - 16 : Nat) : Int) := by simpa using a4
  omega
set_option maxHeartbeats 4000000 in
theorem zQ4 (s : ByteArray) (hs : s.size ≤ 1000000000) (hW : ∀ q b, HdOk (zAe (zN s)).1 q b → (zAe (zN s)).2 = 0 → RdWR b) (w0 : World) :
  Calls Tryz.prog 31 [.string s].toArray w0 (zf (zOS (zN s)) w0) := by
 have hlen := zP s
 by_cases hbig : s.size > 1048576
 ·have hd : decide ((s.size : Int) > 1048576) = true := decide_eq_true (by omega)
  refine enter [.tmp 2, .cell 3 29, .cell 4 35, .tmp 5] Tryz.func31 rfl Tryz.ntmps31 rfl rfl ?_
  have H := zH w0
  repeat' (first | refine y1 sg ?_ | refine y3 ?_ | (refine y10 sg H ?_; intro b w H) | (refine y11 sg H ?_; intro w H) | (with_reducible first | apply zB | apply zD | apply zC | apply zF | apply zO) | refine zA ?_ | (refine y23 ?_ ?_; all_goals (intro h; try (exfalso; first | ((rw [hd] at h; cases h); done)))) | fail)
  exact zU (vs := [_, _, _, _]) ⟨zZ rfl, zAF sg rfl H.mem (by repeat (first | exact List.Mem.head _ | exact List.mem_append_right _ (List.Mem.head _) | refine List.Mem.tail _ ?_)) rfl rfl, zAF sg rfl H.mem (by repeat (first | exact List.Mem.head _ | exact List.mem_append_right _ (List.Mem.head _) | refine List.Mem.tail _ ?_)) rfl rfl, zZ rfl, trivial⟩ H ⟨0, Sta.zero, SPt.zero, Vws.zero, VPt.zero, 40, rfl, StaM.zero, VwM.zero, .inr ⟨rfl, rfl, rfl, .inl ⟨rfl, by omega⟩⟩⟩
 ·have hd : decide ((s.size : Int) > 1048576) = false := decide_eq_false (by omega)
  have ho := fun w => zQ2 s (by omega) w
  have hol := zE8 (zN s)
  have hob := zHH (zAy s)
  obtain ⟨⟨T, e⟩, hx⟩ : ∃ x, zAe (zN s) = x := ⟨_, rfl⟩
  rw [hx] at ho hol hob hW
  simp only at ho hol hob hW
  by_cases he : e = 0
  ·subst he
   have hok := zIu (B := zN s) (by rw [hx])
   rw [hx] at hok
   simp only at hok
   have hT : zN (bytesOf T) = T := zx hob
   have hTl : (bytesOf T).size = T.length := zAc T
   obtain ⟨t, ht⟩ : ∃ t, bytesOf T = t := ⟨_, rfl⟩
   rw [ht] at ho hT hTl
   subst hT
   have hts : t.size ≤ 1048576 := by omega
   have htl : (zN t).length = t.size := zP t
   have h16 : zN (t.extract 16 t.size) = (zN t).drop 16 := by rw [zc, List.take_of_length_le (by rw [List.length_drop]; omega)]
   refine enter [.tmp 2, .cell 3 29, .cell 4 35, .tmp 5] Tryz.func31 rfl Tryz.ntmps31 rfl rfl ?_
   have H := zH w0
   repeat' (first | refine y1 sg ?_ | refine y3 ?_ | refine y5 sg ?_ | refine y7 sg H ?_ | (refine y9 H ?_; intro b w H) | (refine y10 sg H ?_; intro b w H) | (refine y11 sg H ?_; intro w H) | (refine' y30 ent80 ?_ ?_; rotate_left; exact ho _; intro w hcl; replace H := H.ext hcl; clear hcl) | (refine' y33 ent81 ?_ ?_; rotate_left 2; exact zLV 4 rfl (by decide) (p := ⟨0, 0, 0, false⟩) (Nat.zero_le _) (by omega) H; rintro v N w ⟨x, p1, rfl, rfl, hxs, hb1, hS1⟩ H) | (refine' y33 zGp ?_ ?_; rotate_left 2; exact zOr (Nat.le_trans hS1.inv (Nat.le_of_eq htl)) (by omega) H; rintro v N w ⟨q, p2, rfl, rfl, hq, hb2, hS2⟩ H) | (refine' y33 zGp ?_ ?_; rotate_left 2; exact zOq (Nat.le_trans hS2.inv (Nat.le_of_eq htl)) (by omega) H; rintro v N w ⟨n, p3, rfl, rfl, hn, hb3, hS3⟩ H; have hi3 := hS3.inv; rcases zKY hts hn hS1 hS2 hS3 (by rw [hb3, hb2, hb1]) with ⟨⟨k1, k2, k3, k4⟩, g4, g5, g6⟩|⟨hno, kb⟩) | (refine zY rfl rfl (Yq.strLo sg (i := 16) rfl rfl rfl rfl rfl rfl (by decide) (by omega)) ?_) | (refine' y32 ent28 ?_ ?_; rotate_left; exact zLb (t.extract 16 t.size) (by rw [← zP, h16, List.length_drop]; omega) (by rw [h16]; exact hW q _ g4 rfl) _; intro v M w hR hS; replace H := H.addR hS; clear hS; (try simp only [List.cons_append, List.nil_append] at H); obtain ⟨x, pt, y, qt, e, rfl, hxm, hym, hra⟩ := hR; rw [h16] at hra; rcases hra with ⟨rfl, r1, r2⟩|⟨rfl, r1, rfl, rfl, r2⟩|⟨rfl, r1, rfl, rfl⟩) | (refine zw mixed 8 ?_ ?_; exact rfl; intro w hcl; replace H := H.ext hcl; clear hcl) | ((with_reducible apply zBD); decide +kernel) | (refine' z8 0 ?_ ?_; rotate_left; first | exact z9 sg) | (refine' z8 1 ?_ ?_; rotate_left; first | exact z9 sg) | refine z10 2 ?_ | refine z10 3 ?_ | refine z10 4 ?_ | refine z10 5 ?_ | refine z10 6 ?_ | refine z10 7 ?_ | refine z11 2 3 ?_ ?_ | refine z11 2 4 ?_ ?_ | refine z11 3 4 ?_ ?_ | refine z11 3 5 ?_ ?_ | ((with_reducible apply RA.c3 2 3 4); exact rfl; decide +kernel; exact rfl; exact rfl; exact rfl) | refine y13 ?_ | refine y14 ?_ | (refine y17 ?_ ?_; all_goals (intro h; try (exfalso; first | ((rw [hd] at h; cases h); done) | ((rw [k1] at h; cases h); done) | ((rw [k2] at h; cases h); done) | ((rw [k3] at h; cases h); done) | ((rw [k4] at h; cases h); done) | ((exact kb ‹_› ‹_› ‹_› h); done)))) | (with_reducible first | apply zB | apply zD | apply zC | apply zF | apply zG | apply zO) | refine zA ?_ | refine y21 ?_ | refine y22 ?_ | (refine y23 ?_ ?_; all_goals (intro h; try (exfalso; first | ((rw [hd] at h; cases h); done) | ((rw [k1] at h; cases h); done) | ((rw [k2] at h; cases h); done) | ((rw [k3] at h; cases h); done) | ((rw [k4] at h; cases h); done) | ((exact kb ‹_› ‹_› ‹_› h); done)))) | fail)
   all_goals first
    | exact zU (vs := [_, _, _, _]) ⟨zZ rfl, zAF sg rfl H.mem (by repeat (first | exact List.Mem.head _ | exact List.mem_append_right _ (List.Mem.head _) | refine List.Mem.tail _ ?_)) rfl rfl, zAF sg rfl H.mem (by repeat (first | exact List.Mem.head _ | exact List.mem_append_right _ (List.Mem.head _) | refine List.Mem.tail _ ?_)) rfl rfl, zZ rfl, trivial⟩ H ⟨0, Sta.zero, SPt.zero, Vws.zero, VPt.zero, 4, rfl, StaM.zero, VwM.zero, .inr ⟨rfl, rfl, rfl, .inr (.inr ⟨rfl, by omega, by rw [hx], fun q b x y hh => by rw [hx] at hh; exact (hno q b hh).elim⟩)⟩⟩
    | exact zU (vs := [_, _, _, _]) ⟨zZ rfl, zAF sg rfl H.mem (by repeat (first | exact List.Mem.head _ | exact List.mem_append_right _ (List.Mem.head _) | refine List.Mem.tail _ ?_)) rfl rfl, zAF sg rfl H.mem (by repeat (first | exact List.Mem.head _ | exact List.mem_append_right _ (List.Mem.head _) | refine List.Mem.tail _ ?_)) rfl rfl, zZ rfl, trivial⟩ H ⟨0, Sta.zero, SPt.zero, Vws.zero, VPt.zero, 4, rfl, StaM.zero, VwM.zero, .inr ⟨rfl, rfl, rfl, .inr (.inr ⟨rfl, by omega, by rw [hx], fun q b x y hh => by rw [hx] at hh; rw [hh.inj g4]; exact r2 x y⟩)⟩⟩
    | (exfalso; rw [List.length_drop] at r1; omega)
    | exact zU (vs := [_, _, _, _]) ⟨zZ rfl, zAF sg rfl H.mem (by repeat (first | exact List.Mem.head _ | exact List.mem_append_right _ (List.Mem.head _) | refine List.Mem.tail _ ?_)) rfl rfl, zAF sg rfl H.mem (by repeat (first | exact List.Mem.head _ | exact List.mem_append_right _ (List.Mem.head _) | refine List.Mem.tail _ ?_)) rfl rfl, zZ rfl, trivial⟩ H ⟨(q : Int), x, pt, y, qt, 0, congrArg (fun i => Value.tuple #[.int .i64 i, .agg (x.cells pt).toArray, .agg (y.cells qt).toArray, .int .i64 0]) (w64 (by omega) (by omega)), hxm.mono (by intro p hp; simp [hp]), hym.mono (by intro p hp; simp [hp]), .inl ⟨rfl, by omega, q, _, rfl, by rw [hx]; exact g4, by rw [hx], r1, r2⟩⟩
  ·have hd2 : (e != 0) = true := by simp [he]
   refine enter [.tmp 2, .cell 3 29, .cell 4 35, .tmp 5] Tryz.func31 rfl Tryz.ntmps31 rfl rfl ?_
   have H := zH w0
   repeat' (first | refine y1 sg ?_ | refine y3 ?_ | (refine y10 sg H ?_; intro b w H) | (refine y11 sg H ?_; intro w H) | (refine' y30 ent80 ?_ ?_; rotate_left; exact ho _; intro w hcl; replace H := H.ext hcl; clear hcl) | (with_reducible first | apply zB | apply zD | apply zC | apply zF | apply zG | apply zO) | refine zA ?_ | (refine y23 ?_ ?_; all_goals (intro h; try (exfalso; first | ((rw [hd] at h; cases h); done) | ((rw [hd2] at h; cases h); done)))) | fail)
   exact zU (vs := [_, _, _, _]) ⟨zZ rfl, zAF sg rfl H.mem (by repeat (first | exact List.Mem.head _ | exact List.mem_append_right _ (List.Mem.head _) | refine List.Mem.tail _ ?_)) rfl rfl, zAF sg rfl H.mem (by repeat (first | exact List.Mem.head _ | exact List.mem_append_right _ (List.Mem.head _) | refine List.Mem.tail _ ?_)) rfl rfl, zZ rfl, trivial⟩ H ⟨0, Sta.zero, SPt.zero, Vws.zero, VPt.zero, e, rfl, StaM.zero, VwM.zero, .inr ⟨rfl, rfl, rfl, .inr (.inl ⟨he, by omega, by rw [hx]⟩)⟩⟩
end Go.Proofs.YtggolnppckpdlaaGreat
