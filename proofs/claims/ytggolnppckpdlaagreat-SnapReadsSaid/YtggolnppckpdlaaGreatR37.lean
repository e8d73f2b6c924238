/- Texts of ours, joined: the steps of the proof, or the claim's theorem. -/
import Derived.Test.YtggolnppckpdlaaGreatR02
import Derived.Test.YtggolnppckpdlaaGreatR33
import Derived.Test.YtggolnppckpdlaaGreatR35
import Derived.Test.YtggolnppckpdlaaGreatR36
set_option linter.unusedSimpArgs false
set_option linter.unusedVariables false
namespace Go.Proofs.YtggolnppckpdlaaGreat
open Go Go.Sk Go.RowKit
attribute [local irreducible] Go.Calls
def zCy (n c i : Nat) : List Value := List.replicate i (Value.int .u8 (c : Int)) ++ List.replicate (n - i) (Value.int .u8 0)
theorem zMQ {n c i : Nat} (h : i ≤ n) : (zCy n c i).length = n := by simp [zCy]; omega
theorem zKC {n c i : Nat} (h : i < n) : wr (zCy n c i) i [Value.int .u8 (c : Int)] = zCy n c (i + 1) := by
 obtain ⟨m, rfl⟩ : ∃ m, n = i + 1 + m := ⟨n - i - 1, by omega⟩
 unfold wr zCy
 rw [show i + 1 + m - i = m + 1 by omega, show i + 1 + m - (i + 1) = m by omega, List.replicate_succ]
 rw [List.take_left' (by simp), List.drop_append]
 simp [List.replicate_succ', List.append_assoc]
theorem zLT (n c : Nat) (hn : n ≤ 16777216) (w0 : World) : Calls Tryz.prog 19 [.int .i64 (n : Int), .int .u8 (c : Int)].toArray w0 (Ret (.string (bytesOf (List.replicate n c))) w0) := by
 refine enter [.tmp 4] Tryz.func19 rfl Tryz.ntmps19 rfl rfl ?_
 have H := zH w0
 repeat' (first | refine y1 sg ?_ | refine y3 ?_ | (refine OX.makeB sg H rfl hn rfl rfl rfl rfl rfl rfl rfl rfl rfl rfl rfl ?_; intro b w H) | (with_reducible first | apply zB | apply zD | apply zC | apply zE) | refine zA ?_ | fail)
 refine zK [(6, 6), (9, 17)] (fun i : Nat => [(6, .int .i64 (i : Int))]) (fun i w => St w0 [cb b (zCy n c i) 5] w ∧ i ≤ n) (fun i => n - i) 0 ⟨rfl, trivial⟩ ⟨H, Nat.zero_le _⟩ ?_
 clear H
 rintro i gh w ⟨H, hi⟩
 have hlen := zMQ (c := c) hi
 by_cases hin : i < n
 ·have d1 : decide ((i : Int) < (n : Int)) = true := decide_eq_true (by omega)
  have hs : SlB [cb b (zCy n c i) 5] 1 (some ⟨b, 0, none⟩) n b 0 (zCy n c i) 5 (0, 0) (fun j => ((zCy n c i).drop (0 + j * 1)).take 1) := fun _ => ⟨rfl, List.Mem.head _, fun j hj => ⟨by omega, rfl⟩⟩
  repeat' (first | refine y1 sg ?_ | refine y3 ?_ | (refine y40 sg (hs) ?_ ?_ ?_; (omega); (omega)) | (refine OX.storeX sg (vs := [Value.int .u8 (c : Int)]) H rfl rfl rfl rfl rfl rfl rfl Up.here (by simp only [List.length_singleton]; omega) (zAh rfl) ?_; intro w H) | (with_reducible first | apply zB | apply zD | apply zC | apply zE | apply zG) | refine zA ?_ | (refine y23 ?_ ?_; all_goals (intro h; try (exfalso; first | ((rw [d1] at h; cases h); done)))) | fail)
  rw [Nat.zero_add, Nat.mul_one, zKC hin] at H
  exact zJ (i + 1) rfl ⟨zT (by omega), trivial⟩ ⟨H, hin⟩ (by omega)
 ·have d1 : decide ((i : Int) < (n : Int)) = false := decide_eq_false (by omega)
  obtain rfl : i = n := by omega
  have hc : zCy i c i = List.replicate i (Value.int .u8 (c : Int)) := by simp [zCy]
  have hs : SlB [cb b (zCy i c i) 5] 1 (some ⟨b, 0, none⟩) i b 0 (zCy i c i) 5 (0, 0) (u8c (List.replicate i c)) := fun _ => ⟨rfl, List.Mem.head _, fun j hj => ⟨by omega, by rw [hc, Nat.zero_add, Nat.mul_one, List.drop_replicate, List.take_replicate, Nat.min_eq_left (by omega)]; simp [u8c, List.getD_eq_getElem?_getD, hj]⟩⟩
  repeat' (first | refine y1 sg ?_ | refine y3 ?_ | (refine zY rfl rfl (zET sg hs (by simp) H.mem rfl rfl rfl rfl rfl rfl rfl rfl) ?_) | (with_reducible first | apply zB | apply zD | apply zC | apply zF | apply zL | apply zS) | refine zA ?_ | refine y24 ?_ | (refine y23 ?_ ?_; all_goals (intro h; try (exfalso; first | ((rw [d1] at h; cases h); done)))) | fail)
  exact zQ rfl H.cl rfl
theorem zHJ (l : List Nat) : zAe (zA4 l) = (l, 0) := by
 have h1 : (zA4 l).length = l.length + 4 := by simp [zA4, le4]
 have h2 : (zA4 l).take ((zA4 l).length - 4) = l := by rw [h1]; simp [zA4]
 unfold zAe
 rw [if_neg (by omega), h2, if_pos rfl]
theorem OpenA.file {l : List Nat} {q : Nat} {b : List Nat} {n : Int} {x : Sta} {y : Vws} {e : Int} {s : Sta} {v : Vws} (h : OpenA (zA4 l) n x y e) (hl : l.length ≤ 1048572) (hh : HdOk l q b) (hr : RdOk b s v) : e = 0 ∧ n = (q : Nat) ∧ x = s ∧ y = v := by
 have h4 : (zA4 l).length = l.length + 4 := by simp [zA4, le4]
 unfold OpenA at h
 rw [zHJ] at h
 rcases h with ⟨rfl, _, q', b', rfl, h1, _, _, h2⟩ | ⟨_, _, _, ⟨_, h1⟩ | ⟨h1, _, h2⟩ | ⟨_, _, _, h1⟩⟩
 ·obtain rfl := h1.inj hh
  have hq : q' = q := by
   have e := h1.2.symm.trans hh.2
   unfold zBu at e
   obtain ⟨_, e1⟩ := List.append_inj e rfl
   obtain ⟨e2, _⟩ := List.append_inj e1 rfl
   have a := zGr (n := q') (by have := h1.1; omega)
   have b := zGr (n := q) (by have := hh.1; omega)
   rw [← a, ← b]
   exact congrArg beV e2
  obtain ⟨rfl, rfl⟩ := h2.uniq hr
  exact ⟨rfl, by rw [hq], rfl, rfl⟩
 ·omega
 ·exact absurd h2.symm h1
 ·exact absurd hr (h1 q b s v hh)
end Go.Proofs.YtggolnppckpdlaaGreat
set_option linter.unusedSimpArgs false
set_option linter.unusedVariables false
namespace Go.Proofs.YtggolnppckpdlaaGreat
open Go Go.Sk Go.RowKit
attribute [local irreducible] Go.Calls
def Sta.at (n : Int) : Sta := ⟨n, 0, 1, 1, [], [], [], [], []⟩
theorem zKD (n : Int) : SnW (Sta.at n) Vws.zero := by
 have no : ∀ {p : Nat → Prop} (k : Nat), k < 0 → p k := fun k hk => absurd hk (Nat.not_lt_zero k)
 exact ⟨⟨Nat.zero_le _, no, Nat.zero_le _, no, no⟩, fun _ => ⟨Nat.zero_le _, no, Nat.zero_le _, no, Nat.zero_le _, Nat.zero_le _, no, Nat.zero_le _, no⟩, ⟨Nat.zero_le _, no, Nat.zero_le _, Nat.zero_le _, Nat.zero_le _, no⟩, no⟩
theorem zKE (n : Int) (h0 : 0 ≤ n) (h1 : n ≤ 1099511627776) : zDb (Sta.at n) = true := by
 have h7 : ∀ k, k < 7 → zDa (Sta.at n) k = true := by
  intro k hk
  match k, hk with
  | 0, _ => show zDz (Sta.at n) = true; unfold zDz; simp only [Bool.and_eq_true, zAC]; simp only [Sta.at]; omega
  | 1, _ => exact (by decide +kernel : zCn [] = true)
  | 2, _ => exact (by decide +kernel : zBs [] = true)
  | 3, _ => show zCE (Sta.at n) = true; exact (by decide +kernel : zCE (Sta.at 0) = true)
  | 4, _ => show zAp (Sta.at n) = true; exact (by decide +kernel : zAp (Sta.at 0) = true)
  | 5, _ => show zBi (Sta.at n) = true; exact (by decide +kernel : zBi (Sta.at 0) = true)
  | 6, _ => show zDX (Sta.at n) = true; exact (by decide +kernel : zDX (Sta.at 0) = true)
 unfold zDb
 exact List.all_eq_true.2 fun k hk => h7 k (List.mem_range.1 hk)
theorem zKF : zBP Vws.zero = true := by decide +kernel
theorem zHw (n : Nat) : zCx (Sta.at (n : Int)) Vws.zero = short (zAu n) ++ [0, 1, 1, 0, 0, 0, 0, 0, 0, 0, 0, 0] := by
 have h0 : short 0 = [0] := zAP (by decide)
 have h1 : short 1 = [1] := zAP (by decide)
 have u0 : zAu 0 = 0 := zAv (by decide) (by decide)
 have u1 : zAu 1 = 1 := zAv (by decide) (by decide)
 simp [zCx, zBL, zBh, zr, zAT, Sta.at, Vws.zero, h0, h1, u0, u1]
theorem kind0 : zIs Vws.zero := fun k hk => absurd hk (Nat.not_lt_zero k)
theorem zOl (n : Nat) (h : n ≤ 1099511627776) : zBb (Sta.at (n : Int)) Vws.zero = (short n ++ [0, 1, 1, 0, 0, 0, 0, 0, 0, 0, 0, 0], 0) := by
 have hl := zHw n
 rw [show zAu (n : Int) = n by rw [zAv (by omega) (by omega)]; simp] at hl
 have hs := zl (n := n) (by omega)
 unfold zBb
 rw [zKE _ (by omega) (by omega), zKF, Bool.and_true, if_pos rfl, hl, if_neg (by simp; omega)]
theorem body0 : zBb (Sta.at 0) Vws.zero = ([0, 0, 1, 1, 0, 0, 0, 0, 0, 0, 0, 0, 0], 0) := by
 have := zOl 0 (by decide)
 rw [zAP (by decide)] at this
 exact this
theorem zQc : zBb (Sta.at 300) Vws.zero = ([172, 2, 0, 1, 1, 0, 0, 0, 0, 0, 0, 0, 0, 0], 0) := by
 have := zOl 300 (by decide)
 rw [zA0 (by decide), zAP (by decide)] at this
 exact this
theorem rd0 : RdOk [0, 0, 1, 1, 0, 0, 0, 0, 0, 0, 0, 0, 0] (Sta.at 0) Vws.zero := by
 have h := RdOk.of (zKE 0 (by decide) (by decide)) zKF kind0
 have e : zCx (Sta.at 0) Vws.zero = [0, 0, 1, 1, 0, 0, 0, 0, 0, 0, 0, 0, 0] := by
  have := zHw 0
  rw [show zAu ((0 : Nat) : Int) = 0 from zAv (by decide) (by decide), zAP (by decide)] at this
  exact this
 rw [e] at h; exact h
theorem rd300 : RdOk [172, 2, 0, 1, 1, 0, 0, 0, 0, 0, 0, 0, 0, 0] (Sta.at 300) Vws.zero := by
 have h := RdOk.of (zKE 300 (by decide) (by decide)) zKF kind0
 have e : zCx (Sta.at 300) Vws.zero = [172, 2, 0, 1, 1, 0, 0, 0, 0, 0, 0, 0, 0, 0] := by
  have := zHw 300
  rw [show zAu ((300 : Nat) : Int) = 300 from zAv (by decide) (by decide), zA0 (by decide), zAP (by decide)] at this
  exact this
 rw [e] at h; exact h
theorem file7 : zGR 7 (Sta.at 0) Vws.zero = (zA4 (zBu 7 [0, 0, 1, 1, 0, 0, 0, 0, 0, 0, 0, 0, 0]), 0) := by
 unfold zGR
 rw [if_neg (by decide), body0, if_pos rfl]; rfl
theorem no13 (x : Sta) (y : Vws) : ¬ RdOk (List.replicate 13 0) x y := by
 rintro ⟨⟨l, m, h1, h2, h3⟩, h4, _⟩
 have hz : zDd Sta.zero (List.replicate 9 0) := by
  have h0 : short 0 = [0] := zAP (by decide)
  have u0 : zAu 0 = 0 := zAv (by decide) (by decide)
  have e : zBL Sta.zero = List.replicate 9 0 := by simp [zBL, zr, zAT, Sta.zero, h0, u0, List.replicate]
  have n0 : ∀ most : Nat, ze most 0 [0] := fun most => ⟨Int.le_refl _, by omega, by rw [u0, h0]⟩
  have l0 : ∀ {α : Type} (P : α → List Nat → Prop), zy P [] [0] := fun P => ⟨[], rfl, by rw [List.length_nil, h0]; rfl⟩
  exact ⟨_, _, ⟨_, _, ⟨_, _, ⟨_, _, ⟨_, _, ⟨_, _, ⟨_, _, ⟨_, _, ⟨[], _, rfl, n0 _, rfl⟩, n0 _, rfl⟩, n0 _, rfl⟩, n0 _, rfl⟩, l0 _, rfl⟩, l0 _, rfl⟩, l0 _, rfl⟩, l0 _, rfl⟩, l0 _, rfl⟩
 obtain ⟨rfl, _⟩ := zOR _ _ _ _ _ (List.replicate 4 0) h1 hz (h3.symm.trans rfl)
 have h5 : zDz Sta.zero = true := zDJ h4 0 (by decide)
 exact absurd h5 (by decide)
end Go.Proofs.YtggolnppckpdlaaGreat
set_option linter.unusedSimpArgs false
set_option linter.unusedVariables false
namespace Go.Proofs.YtggolnppckpdlaaGreat
open Go Go.Sk Go.RowKit
attribute [local irreducible] Go.Calls
def L0 : List Nat := [0, 0, 1, 1, 0, 0, 0, 0, 0, 0, 0, 0, 0]
def zGm : List Nat := [172, 2, 0, 1, 1, 0, 0, 0, 0, 0, 0, 0, 0, 0]
theorem zFm {F : zI} (n : Int) : StaM F (Sta.at n) SPt.zero := ⟨zDI, zDI, zDI, zDI, zDI, fun j hj => absurd hj (Nat.not_lt_zero _)⟩
theorem byt0 : Byt L0 := by intro b hb; simp [L0] at hb; omega
theorem zOm : Byt zGm := by intro b hb; simp [zGm] at hb; omega
theorem bodyC0 (w : World) : Calls Tryz.prog 10 [.agg ((Sta.at 0).cells SPt.zero).toArray, .agg (Vws.zero.cells VPt.zero).toArray].toArray w (Ret (.tuple #[.string (bytesOf L0), .int .i64 0]) w) := by
 have := zJt (F := []) (Sta.at 0) SPt.zero Vws.zero VPt.zero (zKD 0) w (fun _ h => by cases h) (zFm 0) VwM.zero
 rw [body0] at this
 exact this
theorem zOn (w : World) : Calls Tryz.prog 10 [.agg ((Sta.at 300).cells SPt.zero).toArray, .agg (Vws.zero.cells VPt.zero).toArray].toArray w (Ret (.tuple #[.string (bytesOf zGm), .int .i64 0]) w) := by
 have := zJt (F := []) (Sta.at 300) SPt.zero Vws.zero VPt.zero (zKD 300) w (fun _ h => by cases h) (zFm 300) VwM.zero
 rw [zQc] at this
 exact this
def F7 : List Nat := zA4 (zBu 7 L0)
theorem zOo : F7.length = 33 := by simp [F7, zA4, le4, zBu, be8, be4, L0]
theorem F7_byt : Byt F7 := zHB (zHC byt0)
theorem fileC (w : World) : Calls Tryz.prog 11 [.int .i64 7, .agg ((Sta.at 0).cells SPt.zero).toArray, .agg (Vws.zero.cells VPt.zero).toArray].toArray w (Ret (.tuple #[.string (bytesOf F7), .int .i64 0]) w) := by
 have := c_File (F := []) 7 (Sta.at 0) SPt.zero Vws.zero VPt.zero (zKD 0) w (fun _ h => by cases h) (zFm 0) VwM.zero
 rw [file7] at this
 exact this
theorem hd7 : HdOk (zBu 7 L0) 7 L0 := ⟨by decide, rfl⟩
theorem openC (w : World) : Calls Tryz.prog 12 [.string (bytesOf F7)].toArray w (zf (fun N v => ∃ p q, v = .tuple #[.int .i64 7, .agg ((Sta.at 0).cells p).toArray, .agg (Vws.zero.cells q).toArray, .int .i64 0] ∧ StaM N (Sta.at 0) p ∧ VwM N Vws.zero q) w) := by
 have hs : zN (bytesOf F7) = F7 := zx F7_byt
 have h := zQZ (bytesOf F7) (by rw [zAc, zOo]; decide) (by
  rw [hs, show F7 = zA4 (zBu 7 L0) from rfl, zHJ]
  intro q b hh _
  rw [hh.inj hd7]
  exact RdW.short (by decide)) w
 rw [hs] at h
 refine Calls.mono h ?_
 rintro e w' ⟨v, N, he, ⟨n, x, p, y, q, e', rfl, hx, hy, ha⟩, hst⟩
 obtain ⟨rfl, rfl, rfl, rfl⟩ := ha.file (l := zBu 7 L0) (by decide) hd7 rd0
 exact ⟨_, N, he, ⟨p, q, rfl, hx, hy⟩, hst⟩
theorem sameC {F : zI} (p : SPt) (w0 : World) (hF : Mem w0 F) (hs : StaM F (Sta.at 0) p) : Calls Tryz.prog 13 [.agg ((Sta.at 0).cells p).toArray, .agg (Sta.empty.cells SPt.zero).toArray].toArray w0 (Ret (.bool true) w0) := by
 have := zGU (Sta.at 0) Sta.empty p SPt.zero w0 hF hs StaM.empty
 rw [zn.2 (show Sta.at 0 = Sta.empty from rfl)] at this
 exact this
theorem vsameC {F : zI} (p : VPt) (w0 : World) (hF : Mem w0 F) (hs : VwM F Vws.zero p) : Calls Tryz.prog 14 [.agg (Vws.zero.cells p).toArray, .agg (Vws.zero.cells VPt.zero).toArray].toArray w0 (Ret (.bool true) w0) := by
 have := zGV Vws.zero Vws.zero p VPt.zero w0 hF hs VwM.zero
 rw [zn.2 rfl] at this
 exact this
theorem isC (w0 : World) : Calls Tryz.prog 15 [.string (bytesOf zGm), .agg ((Sta.at 300).cells SPt.zero).toArray, .agg (Vws.zero.cells VPt.zero).toArray].toArray w0 (Ret (.bool true) w0) := by
 have hs : zN (bytesOf zGm) = zGm := zx zOm
 have := c_is (F := []) (bytesOf zGm) (by rw [zAc]; decide) (Sta.at 300) SPt.zero Vws.zero VPt.zero (by rw [hs]; exact RdW.short (by decide)) w0 (fun _ h => by cases h) (zFm 300) VwM.zero
 rw [hs, zLS.2 (show zGm.length ≤ 1048556 ∧ RdOk zGm (Sta.at 300) Vws.zero from ⟨by decide, rd300⟩)] at this
 exact this
theorem noneC (w0 : World) : Calls Tryz.prog 18 [.string (bytesOf (List.replicate 13 0)), .int .i64 4].toArray w0 (Ret (.bool true) w0) := by
 have hs : zN (bytesOf (List.replicate 13 0)) = List.replicate 13 0 := zx (by intro b hb; have := List.eq_of_mem_replicate hb; omega)
 have := c_none (bytesOf (List.replicate 13 0)) (by rw [zAc]; decide) 4 (by decide) (by rw [hs]; exact RdW.short (by decide)) w0
 rw [hs, zHI.2 (.inl ⟨rfl, by decide, no13⟩)] at this
 exact this
set_option maxRecDepth 20000 in
set_option maxHeartbeats 8000000 in
theorem zLU (w0 : World) : Calls Tryz.prog 8 [].toArray w0 (Ret (.bool true) w0) := by
 have k1 : ((bytesOf L0).toList == ((⟨#[0, 0, 1, 1]⟩ : ByteArray) ++ bytesOf (List.replicate 9 0)).toList) = true := by
  rw [zD8, decide_eq_true_iff, zII, zx byt0, zx (by intro b hb; have := List.eq_of_mem_replicate hb; omega)]; decide
 have k2 : (((bytesOf F7).size : Int) == 33) = true := by rw [zAc, zOo]; rfl
 have k3 : ((bytesOf zGm).toList == ((⟨#[172, 2, 0, 1, 1]⟩ : ByteArray) ++ bytesOf (List.replicate 9 0)).toList) = true := by
  rw [zD8, decide_eq_true_iff, zII, zx zOm, zx (by intro b hb; have := List.eq_of_mem_replicate hb; omega)]; decide
 refine enter [.tmp 0] Tryz.func8 rfl Tryz.ntmps8 rfl rfl ?_
 have H := zH w0
 repeat' (first | refine y1 sg ?_ | refine y3 ?_ | refine y7 sg H ?_ | (refine y10 sg H ?_; intro b w H) | (refine y11 sg H ?_; intro w H) | (refine' y30 ent34 ?_ ?_; rotate_left; exact zLR _; intro w hcl; replace H := H.ext hcl; clear hcl) | (refine' y30 zKn ?_ ?_; rotate_left; exact bodyC0 _; intro w hcl; replace H := H.ext hcl; clear hcl) | (refine' y30 zKn ?_ ?_; rotate_left; exact zOn _; intro w hcl; replace H := H.ext hcl; clear hcl) | (refine' y30 ent11 ?_ ?_; rotate_left; exact fileC _; intro w hcl; replace H := H.ext hcl; clear hcl) | (refine' y32 ent12 ?_ ?_; rotate_left; exact openC _; intro vv M w hR hS; replace H := H.addR hS; clear hS; (try simp only [List.cons_append, List.nil_append] at H); obtain ⟨po, qo, rfl, hsm, hvm⟩ := hR) | (with_reducible first | apply zB | apply zD | apply zC) | refine zA ?_ | fail)
 repeat' (first | refine y2 sg ?_ | refine y6 sg ?_ | refine y8 sg H ?_ | (refine' y31 ent34 ?_ ?_; rotate_left; exact (fun _ hcl => zLR _)) | (refine' y31 zMm ?_ ?_; rotate_left; exact (fun _ hcl => sameC po _ (H.ext hcl).mem (hsm.mono (by intro p hp; simp [hp])))) | (refine' y31 zMn ?_ ?_; rotate_left; exact (fun _ hcl => vsameC qo _ (H.ext hcl).mem (hvm.mono (by intro p hp; simp [hp])))) | (refine' y31 ent19 ?_ ?_; rotate_left; exact (fun _ hcl => zLT 9 0 (by decide) _)) | (refine' y31 ent19 ?_ ?_; rotate_left; exact (fun _ hcl => zLT 13 0 (by decide) _)) | (refine' y31 ent15 ?_ ?_; rotate_left; exact (fun _ hcl => isC _)) | (refine' y31 ent18 ?_ ?_; rotate_left; exact (fun _ hcl => noneC _)) | ((with_reducible apply zo); exact rfl; exact rfl; exact zNF rfl rfl rfl (by rw [zAc, List.length_replicate]; decide)) | refine y15 ?_ | (refine y18 ?_ ?_; all_goals (intro h; try (exfalso; first | ((rw [k1] at h; cases h); done) | ((rw [k2] at h; cases h); done) | ((rw [k3] at h; cases h); done)))) | (with_reducible apply zV; intro w hcl; replace H := H.ext hcl; clear hcl) | (with_reducible first | apply zD | apply zF) | refine y20 mixed ?_ | fail)
 all_goals exact zQ rfl H.cl rfl
end Go.Proofs.YtggolnppckpdlaaGreat
set_option linter.unusedSimpArgs false
set_option linter.unusedVariables false
namespace Go.Proofs.YtggolnppckpdlaaGreat
open Go Go.Sk Go.RowKit
theorem zMR {l : List Auc} (h : zAf l = true) : l.length ≤ 32 ∧ ∀ k, k < l.length → (l.getD k default).bids.length ≤ 16 := by
 unfold zAf at h
 simp only [Bool.and_eq_true, decide_eq_true_eq] at h
 refine ⟨by omega, fun k hk => ?_⟩
 have hm : zBX (l.getD k default) = true := by
  rcases z7 (zA7 l) l.length with ⟨j, h1, h2, h3, h4⟩ | ⟨h1, h2⟩
  ·omega
  ·have := h1 k hk
   unfold zA7 at this
   simp only [Bool.or_eq_false_iff, Bool.not_eq_false'] at this
   exact this.2
 have a7 := (zCL hm).2.2.2.2.2.2.1
 unfold zAn at a7
 split at a7
 ·unfold zEb at a7
  simp only [Bool.and_eq_true, decide_eq_true_eq] at a7
  omega
 ·unfold zDw at a7
  simp only [Bool.and_eq_true, decide_eq_true_eq] at a7
  omega
end Go.Proofs.YtggolnppckpdlaaGreat
set_option linter.unusedSimpArgs false
set_option linter.unusedVariables false
namespace Go.Proofs.YtggolnppckpdlaaGreat
open Go Go.Sk Go.RowKit
structure StaA (s : Sta) : Prop where
 acN : ∀ k, k < s.accts.length → (ac_ s.accts k).name.size ≤ 140737488355328
 insN : ∀ k, k < s.insts.length → (in_ s.insts k).name.size ≤ 140737488355328
 rw : ∀ j, j < s.rows.length → (rw_ s.rows j).wf
 od : ∀ k, k < s.orders.length → 0 ≤ (od_ s.orders k).side ∧ (od_ s.orders k).side < 256
structure VwA (v : Vws) : Prop where
 op : ∀ k, k < v.opn.length → 0 ≤ (op_ v.opn k).side ∧ (op_ v.opn k).side < 256
 kd : zIs v
 ln : ∀ k, k < v.lins.length → (ln_ v.lins k).wf
end Go.Proofs.YtggolnppckpdlaaGreat
set_option linter.unusedSimpArgs false
set_option linter.unusedVariables false
namespace Go.Proofs.YtggolnppckpdlaaGreat
open Go Go.Sk Go.RowKit Go.ChangeShapes
section
variable {H : Type} {enc : TypeId × Value → H} {w : World}
set_option maxRecDepth 20000 in
theorem zQd {t : TypeId} {v : Value} {d : DataW H} {p : List MemPlace} (ht : Tryz.prog.underlying t = some .string) (h : DataW.Trod enc Tryz.prog w 0 (fun _ => true) true t v d p) (hz : ∀ n ∈ d.weights Tryz.prog t, n ≤ reachBytes) (hv : Value.okWide Tryz.prog w .any 0 t v) :
  ∃ s : ByteArray, v = .string s ∧ s.size ≤ 140737488355328 := by
 obtain ⟨s, rfl⟩ := Go.WideShapes.okWide_string ht hv
 obtain ⟨s', e, hs⟩ := (Rz.of h hz).string ht
 cases e
 exact ⟨s, rfl, hs⟩
end
end Go.Proofs.YtggolnppckpdlaaGreat
