/- Texts of ours, joined: the steps of the proof, or the claim's theorem. -/
import Derived.Test.YtggolnppckpdlaaGreatT02
import Derived.Test.YtggolnppckpdlaaGreatT29
import Derived.Test.YtggolnppckpdlaaGreatT34
import Derived.Test.YtggolnppckpdlaaGreatT36
import Derived.Test.YtggolnppckpdlaaGreatT37
set_option linter.unusedSimpArgs false
set_option linter.unusedVariables false
namespace Go.Proofs.YtggolnppckpdlaaGreat
open Go Go.Sk Go.RowKit
attribute [local irreducible] Go.Calls
def zDA (n c i : Nat) : List Value := List.replicate i (Value.int .u8 (c : Int)) ++ List.replicate (n - i) (Value.int .u8 0)
theorem zML {n c i : Nat} (h : i ≤ n) : (zDA n c i).length = n := by simp [zDA]; omega
theorem zKH {n c i : Nat} (h : i < n) : wr (zDA n c i) i [Value.int .u8 (c : Int)] = zDA n c (i + 1) := by
 obtain ⟨m, rfl⟩ : ∃ m, n = i + 1 + m := ⟨n - i - 1, by omega⟩
 unfold wr zDA
 rw [show i + 1 + m - i = m + 1 by omega, show i + 1 + m - (i + 1) = m by omega, List.replicate_succ]
 rw [List.take_left' (by simp), List.drop_append]
 simp [List.replicate_succ', List.append_assoc]
theorem zLO (n c : Nat) (hn : n ≤ 16777216) (w0 : World) : Calls Tryz.prog 19 [.int .i64 (n : Int), .int .u8 (c : Int)].toArray w0 (Ret (.string (bytesOf (List.replicate n c))) w0) := by
 refine enter [.tmp 4] Tryz.func19 rfl Tryz.ntmps19 rfl rfl ?_
 have H := zE w0
 repeat' (first | refine y1 sg ?_ | refine y3 ?_ | (refine OX.makeB sg H rfl hn rfl rfl rfl rfl rfl rfl rfl rfl rfl rfl rfl ?_; intro b w H) | (with_reducible first | apply zB | apply zD | apply zC | apply zF) | refine zA ?_ | fail)
 refine zK [(6, 6), (9, 17)] (fun i : Nat => [(6, .int .i64 (i : Int))]) (fun i w => St w0 [cb b (zDA n c i) 5] w ∧ i ≤ n) (fun i => n - i) 0 ⟨rfl, trivial⟩ ⟨H, Nat.zero_le _⟩ ?_
 clear H
 rintro i gh w ⟨H, hi⟩
 have hlen := zML (c := c) hi
 by_cases hin : i < n
 ·have d1 : decide ((i : Int) < (n : Int)) = true := decide_eq_true (by omega)
  have hs : SlB [cb b (zDA n c i) 5] 1 (some ⟨b, 0, none⟩) n b 0 (zDA n c i) 5 (0, 0) (fun j => ((zDA n c i).drop (0 + j * 1)).take 1) := fun _ => ⟨rfl, List.Mem.head _, fun j hj => ⟨by omega, rfl⟩⟩
  repeat' (first | refine y1 sg ?_ | refine y3 ?_ | (refine y40 sg (hs) ?_ ?_ ?_; (omega); (omega)) | (refine OX.storeX sg (vs := [Value.int .u8 (c : Int)]) H rfl rfl rfl rfl rfl rfl rfl Up.here (by simp only [List.length_singleton]; omega) (zAd rfl) ?_; intro w H) | (with_reducible first | apply zB | apply zD | apply zC | apply zF | apply zH) | refine zA ?_ | (refine y23 ?_ ?_; all_goals (intro h; try (exfalso; first | ((rw [d1] at h; cases h); done)))) | fail)
  rw [Nat.zero_add, Nat.mul_one, zKH hin] at H
  exact zM (i + 1) rfl ⟨zV (by omega), trivial⟩ ⟨H, hin⟩ (by omega)
 ·have d1 : decide ((i : Int) < (n : Int)) = false := decide_eq_false (by omega)
  obtain rfl : i = n := by omega
  have hc : zDA i c i = List.replicate i (Value.int .u8 (c : Int)) := by simp [zDA]
  have hs : SlB [cb b (zDA i c i) 5] 1 (some ⟨b, 0, none⟩) i b 0 (zDA i c i) 5 (0, 0) (u8c (List.replicate i c)) := fun _ => ⟨rfl, List.Mem.head _, fun j hj => ⟨by omega, by rw [hc, Nat.zero_add, Nat.mul_one, List.drop_replicate, List.take_replicate, Nat.min_eq_left (by omega)]; simp [u8c, List.getD_eq_getElem?_getD, hj]⟩⟩
  repeat' (first | refine y1 sg ?_ | refine y3 ?_ | (refine zf rfl rfl (zBP sg hs (by simp) H.mem rfl rfl rfl rfl rfl rfl rfl rfl) ?_) | (with_reducible first | apply zB | apply zD | apply zC | apply zG | apply zN | apply zW) | refine zA ?_ | refine y24 ?_ | (refine y23 ?_ ?_; all_goals (intro h; try (exfalso; first | ((rw [d1] at h; cases h); done)))) | fail)
  exact zO rfl H.cl rfl
theorem zHW (l : List Nat) : zBb (zA1 l) = (l, 0) := by
 have h1 : (zA1 l).length = l.length + 4 := by simp [zA1, le4]
 have h2 : (zA1 l).take ((zA1 l).length - 4) = l := by rw [h1]; simp [zA1]
 unfold zBb
 rw [if_neg (by omega), h2, if_pos rfl]
theorem OpenA.file {l : List Nat} {q : Nat} {b : List Nat} {n : Int} {x : Sta} {y : Vws} {e : Int} {s : Sta} {v : Vws} (h : OpenA (zA1 l) n x y e) (hl : l.length ≤ 1048572) (hh : HdOk l q b) (hr : RdOk b s v) : e = 0 ∧ n = (q : Nat) ∧ x = s ∧ y = v := by
 have h4 : (zA1 l).length = l.length + 4 := by simp [zA1, le4]
 unfold OpenA at h
 rw [zHW] at h
 rcases h with ⟨rfl, _, q', b', rfl, h1, _, _, h2⟩ | ⟨_, _, _, ⟨_, h1⟩ | ⟨h1, _, h2⟩ | ⟨_, _, _, h1⟩⟩
 ·obtain rfl := h1.inj hh
  have hq : q' = q := by
   have e := h1.2.symm.trans hh.2
   unfold zBV at e
   obtain ⟨_, e1⟩ := List.append_inj e rfl
   obtain ⟨e2, _⟩ := List.append_inj e1 rfl
   have a := zNP (n := q') (by have := h1.1; omega)
   have b := zNP (n := q) (by have := hh.1; omega)
   rw [← a, ← b]
   exact congrArg beV e2
  obtain ⟨rfl, rfl⟩ := h2.uniq hr
  exact ⟨rfl, by rw [hq], rfl, rfl⟩
 ·omega
 ·exact absurd h2.symm h1
 ·exact absurd hr (h1 q b s v hh)
end Go.Proofs.YtggolnppckpdlaaGreat
set_option linter.unusedSimpArgs false
set_option linter.unusedVariables false
namespace Go.Proofs.YtggolnppckpdlaaGreat
open Go Go.Sk Go.RowKit
attribute [local irreducible] Go.Calls
def Sta.at (n : Int) : Sta := ⟨n, 0, 1, 1, [], [], [], [], []⟩
theorem zKI (n : Int) : SnW (Sta.at n) Vws.zero := by
 have no : ∀ {p : Nat → Prop} (k : Nat), k < 0 → p k := fun k hk => absurd hk (Nat.not_lt_zero k)
 exact ⟨⟨Nat.zero_le _, no, Nat.zero_le _, no, no⟩, fun _ => ⟨Nat.zero_le _, no, Nat.zero_le _, no, Nat.zero_le _, Nat.zero_le _, no, Nat.zero_le _, no⟩, ⟨Nat.zero_le _, no, Nat.zero_le _, Nat.zero_le _, Nat.zero_le _, no⟩, no⟩
theorem zKJ (n : Int) (h0 : 0 ≤ n) (h1 : n ≤ 1099511627776) : zC8 (Sta.at n) = true := by
 have h7 : ∀ k, k < 7 → zDf (Sta.at n) k = true := by
  intro k hk
  match k, hk with
  | 0, _ => show zEH (Sta.at n) = true; unfold zEH; simp only [Bool.and_eq_true, zAF]; simp only [Sta.at]; omega
  | 1, _ => exact (by decide +kernel : zCd [] = true)
  | 2, _ => exact (by decide +kernel : zBp [] = true)
  | 3, _ => show zCN (Sta.at n) = true; exact (by decide +kernel : zCN (Sta.at 0) = true)
  | 4, _ => show zAs (Sta.at n) = true; exact (by decide +kernel : zAs (Sta.at 0) = true)
  | 5, _ => show zBq (Sta.at n) = true; exact (by decide +kernel : zBq (Sta.at 0) = true)
  | 6, _ => show zDq (Sta.at n) = true; exact (by decide +kernel : zDq (Sta.at 0) = true)
 unfold zC8
 exact List.all_eq_true.2 fun k hk => h7 k (List.mem_range.1 hk)
theorem zKK : zBU Vws.zero = true := by decide +kernel
theorem zID (n : Nat) : zBs (Sta.at (n : Int)) Vws.zero = short (zAX n) ++ [0, 1, 1, 0, 0, 0, 0, 0, 0, 0, 0, 0] := by
 have h0 : short 0 = [0] := zAO (by decide)
 have h1 : short 1 = [1] := zAO (by decide)
 have u0 : zAX 0 = 0 := zAx (by decide) (by decide)
 have u1 : zAX 1 = 1 := zAx (by decide) (by decide)
 simp [zBs, zAz, zBA, zX, zAV, Sta.at, Vws.zero, h0, h1, u0, u1]
theorem kind0 : zLK Vws.zero := fun k hk => absurd hk (Nat.not_lt_zero k)
theorem zOa (n : Nat) (h : n ≤ 1099511627776) : zAj (Sta.at (n : Int)) Vws.zero = (short n ++ [0, 1, 1, 0, 0, 0, 0, 0, 0, 0, 0, 0], 0) := by
 have hl := zID n
 rw [show zAX (n : Int) = n by rw [zAx (by omega) (by omega)]; simp] at hl
 have hs := zY (n := n) (by omega)
 unfold zAj
 rw [zKJ _ (by omega) (by omega), zKK, Bool.and_true, if_pos rfl, hl, if_neg (by simp; omega)]
theorem body0 : zAj (Sta.at 0) Vws.zero = ([0, 0, 1, 1, 0, 0, 0, 0, 0, 0, 0, 0, 0], 0) := by
 have := zOa 0 (by decide)
 rw [zAO (by decide)] at this
 exact this
theorem zQP : zAj (Sta.at 300) Vws.zero = ([172, 2, 0, 1, 1, 0, 0, 0, 0, 0, 0, 0, 0, 0], 0) := by
 have := zOa 300 (by decide)
 rw [zAw (by decide), zAO (by decide)] at this
 exact this
theorem rd0 : RdOk [0, 0, 1, 1, 0, 0, 0, 0, 0, 0, 0, 0, 0] (Sta.at 0) Vws.zero := by
 have h := RdOk.of (zKJ 0 (by decide) (by decide)) zKK kind0
 have e : zBs (Sta.at 0) Vws.zero = [0, 0, 1, 1, 0, 0, 0, 0, 0, 0, 0, 0, 0] := by
  have := zID 0
  rw [show zAX ((0 : Nat) : Int) = 0 from zAx (by decide) (by decide), zAO (by decide)] at this
  exact this
 rw [e] at h; exact h
theorem rd300 : RdOk [172, 2, 0, 1, 1, 0, 0, 0, 0, 0, 0, 0, 0, 0] (Sta.at 300) Vws.zero := by
 have h := RdOk.of (zKJ 300 (by decide) (by decide)) zKK kind0
 have e : zBs (Sta.at 300) Vws.zero = [172, 2, 0, 1, 1, 0, 0, 0, 0, 0, 0, 0, 0, 0] := by
  have := zID 300
  rw [show zAX ((300 : Nat) : Int) = 300 from zAx (by decide) (by decide), zAw (by decide), zAO (by decide)] at this
  exact this
 rw [e] at h; exact h
theorem file7 : zCh 7 (Sta.at 0) Vws.zero = (zA1 (zBV 7 [0, 0, 1, 1, 0, 0, 0, 0, 0, 0, 0, 0, 0]), 0) := by
 unfold zCh
 rw [if_neg (by decide), body0, if_pos rfl]; rfl
theorem no13 (x : Sta) (y : Vws) : ¬ RdOk (List.replicate 13 0) x y := by
 rintro ⟨⟨l, m, h1, h2, h3⟩, h4, _⟩
 have hz : zD9 Sta.zero (List.replicate 9 0) := by
  have h0 : short 0 = [0] := zAO (by decide)
  have u0 : zAX 0 = 0 := zAx (by decide) (by decide)
  have e : zAz Sta.zero = List.replicate 9 0 := by simp [zAz, zX, zAV, Sta.zero, h0, u0, List.replicate]
  have n0 : ∀ most : Nat, zAn most 0 [0] := fun most => ⟨Int.le_refl _, by omega, by rw [u0, h0]⟩
  have l0 : ∀ {α : Type} (P : α → List Nat → Prop), zA0 P [] [0] := fun P => ⟨[], rfl, by rw [List.length_nil, h0]; rfl⟩
  exact ⟨_, _, ⟨_, _, ⟨_, _, ⟨_, _, ⟨_, _, ⟨_, _, ⟨_, _, ⟨_, _, ⟨[], _, rfl, n0 _, rfl⟩, n0 _, rfl⟩, n0 _, rfl⟩, n0 _, rfl⟩, l0 _, rfl⟩, l0 _, rfl⟩, l0 _, rfl⟩, l0 _, rfl⟩, l0 _, rfl⟩
 obtain ⟨rfl, _⟩ := zOG _ _ _ _ _ (List.replicate 4 0) h1 hz (h3.symm.trans rfl)
 have h5 : zEH Sta.zero = true := zCS h4 0 (by decide)
 exact absurd h5 (by decide)
end Go.Proofs.YtggolnppckpdlaaGreat
set_option linter.unusedSimpArgs false
set_option linter.unusedVariables false
namespace Go.Proofs.YtggolnppckpdlaaGreat
open Go Go.Sk Go.RowKit
attribute [local irreducible] Go.Calls
def L0 : List Nat := [0, 0, 1, 1, 0, 0, 0, 0, 0, 0, 0, 0, 0]
def zG5 : List Nat := [172, 2, 0, 1, 1, 0, 0, 0, 0, 0, 0, 0, 0, 0]
theorem zF6 {F : zI} (n : Int) : StaM F (Sta.at n) SPt.zero := ⟨zDU, zDU, zDU, zDU, zDU, fun j hj => absurd hj (Nat.not_lt_zero _)⟩
theorem byt0 : Byt L0 := by intro b hb; simp [L0] at hb; omega
theorem zOb : Byt zG5 := by intro b hb; simp [zG5] at hb; omega
theorem bodyC0 (w : World) : Calls Tryz.prog 10 [.agg ((Sta.at 0).cells SPt.zero).toArray, .agg (Vws.zero.cells VPt.zero).toArray].toArray w (Ret (.tuple #[.string (bytesOf L0), .int .i64 0]) w) := by
 have := zH7 (F := []) (Sta.at 0) SPt.zero Vws.zero VPt.zero (zKI 0) w (fun _ h => by cases h) (zF6 0) VwM.zero
 rw [body0] at this
 exact this
theorem zOc (w : World) : Calls Tryz.prog 10 [.agg ((Sta.at 300).cells SPt.zero).toArray, .agg (Vws.zero.cells VPt.zero).toArray].toArray w (Ret (.tuple #[.string (bytesOf zG5), .int .i64 0]) w) := by
 have := zH7 (F := []) (Sta.at 300) SPt.zero Vws.zero VPt.zero (zKI 300) w (fun _ h => by cases h) (zF6 300) VwM.zero
 rw [zQP] at this
 exact this
def F7 : List Nat := zA1 (zBV 7 L0)
theorem zOd : F7.length = 33 := by simp [F7, zA1, le4, zBV, be8, be4, L0]
theorem F7_byt : Byt F7 := zHS (zFT byt0)
theorem fileC (w : World) : Calls Tryz.prog 11 [.int .i64 7, .agg ((Sta.at 0).cells SPt.zero).toArray, .agg (Vws.zero.cells VPt.zero).toArray].toArray w (Ret (.tuple #[.string (bytesOf F7), .int .i64 0]) w) := by
 have := zN9 (F := []) 7 (Sta.at 0) SPt.zero Vws.zero VPt.zero (zKI 0) w (fun _ h => by cases h) (zF6 0) VwM.zero
 rw [file7] at this
 exact this
theorem hd7 : HdOk (zBV 7 L0) 7 L0 := ⟨by decide, rfl⟩
theorem openC (w : World) : Calls Tryz.prog 12 [.string (bytesOf F7)].toArray w (zy (fun N v => ∃ p q, v = .tuple #[.int .i64 7, .agg ((Sta.at 0).cells p).toArray, .agg (Vws.zero.cells q).toArray, .int .i64 0] ∧ StaM N (Sta.at 0) p ∧ VwM N Vws.zero q) w) := by
 have hs : zT (bytesOf F7) = F7 := zu F7_byt
 have h := zQL (bytesOf F7) (by rw [zj, zOd]; decide) (by
  rw [hs, show F7 = zA1 (zBV 7 L0) from rfl, zHW]
  intro q b hh _
  rw [hh.inj hd7]
  exact RdW.short (by decide)) w
 rw [hs] at h
 refine Calls.mono h ?_
 rintro e w' ⟨v, N, he, ⟨n, x, p, y, q, e', rfl, hx, hy, ha⟩, hst⟩
 obtain ⟨rfl, rfl, rfl, rfl⟩ := ha.file (l := zBV 7 L0) (by decide) hd7 rd0
 exact ⟨_, N, he, ⟨p, q, rfl, hx, hy⟩, hst⟩
theorem sameC {F : zI} (p : SPt) (w0 : World) (hF : Mem w0 F) (hs : StaM F (Sta.at 0) p) : Calls Tryz.prog 13 [.agg ((Sta.at 0).cells p).toArray, .agg (Sta.empty.cells SPt.zero).toArray].toArray w0 (Ret (.bool true) w0) := by
 have := zGh (Sta.at 0) Sta.empty p SPt.zero w0 hF hs StaM.empty
 rw [zq.2 (show Sta.at 0 = Sta.empty from rfl)] at this
 exact this
theorem vsameC {F : zI} (p : VPt) (w0 : World) (hF : Mem w0 F) (hs : VwM F Vws.zero p) : Calls Tryz.prog 14 [.agg (Vws.zero.cells p).toArray, .agg (Vws.zero.cells VPt.zero).toArray].toArray w0 (Ret (.bool true) w0) := by
 have := zGi Vws.zero Vws.zero p VPt.zero w0 hF hs VwM.zero
 rw [zq.2 rfl] at this
 exact this
theorem isC (w0 : World) : Calls Tryz.prog 15 [.string (bytesOf zG5), .agg ((Sta.at 300).cells SPt.zero).toArray, .agg (Vws.zero.cells VPt.zero).toArray].toArray w0 (Ret (.bool true) w0) := by
 have hs : zT (bytesOf zG5) = zG5 := zu zOb
 have := c_is (F := []) (bytesOf zG5) (by rw [zj]; decide) (Sta.at 300) SPt.zero Vws.zero VPt.zero (by rw [hs]; exact RdW.short (by decide)) w0 (fun _ h => by cases h) (zF6 300) VwM.zero
 rw [hs, zLN.2 (show zG5.length ≤ 1048556 ∧ RdOk zG5 (Sta.at 300) Vws.zero from ⟨by decide, rd300⟩)] at this
 exact this
theorem noneC (w0 : World) : Calls Tryz.prog 18 [.string (bytesOf (List.replicate 13 0)), .int .i64 4].toArray w0 (Ret (.bool true) w0) := by
 have hs : zT (bytesOf (List.replicate 13 0)) = List.replicate 13 0 := zu (by intro b hb; have := List.eq_of_mem_replicate hb; omega)
 have := c_none (bytesOf (List.replicate 13 0)) (by rw [zj]; decide) 4 (by decide) (by rw [hs]; exact RdW.short (by decide)) w0
 rw [hs, zHV.2 (.inl ⟨rfl, by decide, no13⟩)] at this
 exact this
set_option maxRecDepth 20000 in
set_option maxHeartbeats 8000000 in
theorem zLP (w0 : World) : Calls Tryz.prog 8 [].toArray w0 (Ret (.bool true) w0) := by
 have k1 : ((bytesOf L0).toList == ((⟨#[0, 0, 1, 1]⟩ : ByteArray) ++ bytesOf (List.replicate 9 0)).toList) = true := by
  rw [zGF, decide_eq_true_iff, zIX, zu byt0, zu (by intro b hb; have := List.eq_of_mem_replicate hb; omega)]; decide
 have k2 : (((bytesOf F7).size : Int) == 33) = true := by rw [zj, zOd]; rfl
 have k3 : ((bytesOf zG5).toList == ((⟨#[172, 2, 0, 1, 1]⟩ : ByteArray) ++ bytesOf (List.replicate 9 0)).toList) = true := by
  rw [zGF, decide_eq_true_iff, zIX, zu zOb, zu (by intro b hb; have := List.eq_of_mem_replicate hb; omega)]; decide
 refine enter [.tmp 0] Tryz.func8 rfl Tryz.ntmps8 rfl rfl ?_
 have H := zE w0
 repeat' (first | refine y1 sg ?_ | refine y3 ?_ | refine y7 sg H ?_ | (refine y10 sg H ?_; intro b w H) | (refine y11 sg H ?_; intro w H) | (refine' y30 ent34 ?_ ?_; rotate_left; exact zLM _; intro w hcl; replace H := H.ext hcl; clear hcl) | (refine' y30 zIU ?_ ?_; rotate_left; exact bodyC0 _; intro w hcl; replace H := H.ext hcl; clear hcl) | (refine' y30 zIU ?_ ?_; rotate_left; exact zOc _; intro w hcl; replace H := H.ext hcl; clear hcl) | (refine' y30 ent11 ?_ ?_; rotate_left; exact fileC _; intro w hcl; replace H := H.ext hcl; clear hcl) | (refine' y32 ent12 ?_ ?_; rotate_left; exact openC _; intro vv M w hR hS; replace H := H.addR hS; clear hS; (try simp only [List.cons_append, List.nil_append] at H); obtain ⟨po, qo, rfl, hsm, hvm⟩ := hR) | (with_reducible first | apply zB | apply zD | apply zC) | refine zA ?_ | fail)
 repeat' (first | refine y2 sg ?_ | refine y6 sg ?_ | refine y8 sg H ?_ | (refine' y31 ent34 ?_ ?_; rotate_left; exact (fun _ hcl => zLM _)) | (refine' y31 zMj ?_ ?_; rotate_left; exact (fun _ hcl => sameC po _ (H.ext hcl).mem (hsm.mono (by intro p hp; simp [hp])))) | (refine' y31 zMk ?_ ?_; rotate_left; exact (fun _ hcl => vsameC qo _ (H.ext hcl).mem (hvm.mono (by intro p hp; simp [hp])))) | (refine' y31 ent19 ?_ ?_; rotate_left; exact (fun _ hcl => zLO 9 0 (by decide) _)) | (refine' y31 ent19 ?_ ?_; rotate_left; exact (fun _ hcl => zLO 13 0 (by decide) _)) | (refine' y31 ent15 ?_ ?_; rotate_left; exact (fun _ hcl => isC _)) | (refine' y31 ent18 ?_ ?_; rotate_left; exact (fun _ hcl => noneC _)) | ((with_reducible apply zAD); exact rfl; exact rfl; exact zAA rfl rfl rfl (by rw [zj, List.length_replicate]; decide)) | refine y15 ?_ | (refine y18 ?_ ?_; all_goals (intro h; try (exfalso; first | ((rw [k1] at h; cases h); done) | ((rw [k2] at h; cases h); done) | ((rw [k3] at h; cases h); done)))) | (with_reducible apply zb; intro w hcl; replace H := H.ext hcl; clear hcl) | (with_reducible first | apply zD | apply zG) | refine y20 zZ ?_ | fail)
 all_goals exact zO rfl H.cl rfl
end Go.Proofs.YtggolnppckpdlaaGreat
set_option linter.unusedSimpArgs false
set_option linter.unusedVariables false
namespace Go.Proofs.YtggolnppckpdlaaGreat
open Go Go.Sk Go.RowKit
theorem zMM {l : List Auc} (h : zAi l = true) : l.length ≤ 32 ∧ ∀ k, k < l.length → (l.getD k default).bids.length ≤ 16 := by
 unfold zAi at h
 simp only [Bool.and_eq_true, decide_eq_true_eq] at h
 refine ⟨by omega, fun k hk => ?_⟩
 have hm : zBg (l.getD k default) = true := by
  rcases zAC (zA9 l) l.length with ⟨j, h1, h2, h3, h4⟩ | ⟨h1, h2⟩
  ·omega
  ·have := h1 k hk
   unfold zA9 at this
   simp only [Bool.or_eq_false_iff, Bool.not_eq_false'] at this
   exact this.2
 have a7 := (zCU hm).2.2.2.2.2.2.1
 unfold zAr at a7
 split at a7
 ·unfold zEq at a7
  simp only [Bool.and_eq_true, decide_eq_true_eq] at a7
  omega
 ·unfold zEE at a7
  simp only [Bool.and_eq_true, decide_eq_true_eq] at a7
  omega
end Go.Proofs.YtggolnppckpdlaaGreat
set_option linter.unusedSimpArgs false
set_option linter.unusedVariables false
namespace Go.Proofs.YtggolnppckpdlaaGreat
open Go Go.Sk Go.RowKit
structure StaA (s : Sta) : Prop where
 acN : ∀ k, k < s.accts.length → (ac_ s.accts k).name.size ≤ 140737488355328
 insN : ∀ k, k < s.insts.length → (in_ s.insts k).name.size ≤ 140737488355328
 rw : ∀ j, j < s.rows.length → (rw_ s.rows j).wf
 od : ∀ k, k < s.orders.length → 0 ≤ (od_ s.orders k).side ∧ (od_ s.orders k).side < 256
structure VwA (v : Vws) : Prop where
 op : ∀ k, k < v.opn.length → 0 ≤ (op_ v.opn k).side ∧ (op_ v.opn k).side < 256
 kd : zLK v
 ln : ∀ k, k < v.lins.length → (ln_ v.lins k).wf
theorem zKL {s : Sta} (hL : Light s) (ha : StaA s) : StaW s := by
 refine ⟨?_, ha.acN, ?_, ha.insN, ha.rw⟩
 ·have := hL.ac; omega
 ·have := hL.ins; omega
theorem zKM {s : Sta} (hL : Light s) (ha : StaA s) (h1 : zC8 s = true) : StaB s := by
 have a1 : zCd s.accts = true := zCS h1 1 (by decide)
 have a2 : zBp s.insts = true := zCS h1 2 (by decide)
 have b1 := (zCe.1 a1)
 have b2 := (zB7.1 a2)
 refine ⟨?_, fun k hk => Nat.le_trans (zFw (b1.2 k hk).1) (by decide), ?_, fun k hk => Nat.le_trans (zFw (b2.2 k hk).1) (by decide), ?_, ?_, ha.od, ?_, ?_⟩
 ·have := hL.ac; omega
 ·have := hL.ins; omega
 ·have := hL.rw; omega
 ·have := hL.od; omega
 ·have := hL.au; omega
 ·intro k hk
  have := hL.bd k hk; omega
theorem zMN {s : Sta} {v : Vws} (hL : Light s) (ha : StaA s) (hv : VwA v) (hb : v.opn.length + v.lots.length + v.poss.length + v.lins.length < 600) : SnW s v := by
 refine ⟨zKL hL ha, zKM hL ha, ⟨?_, hv.op, ?_, ?_, ?_, hv.kd⟩, hv.ln⟩
 ·omega
 ·omega
 ·omega
 ·omega
end Go.Proofs.YtggolnppckpdlaaGreat
set_option linter.unusedSimpArgs false
set_option linter.unusedVariables false
namespace Go.Proofs.YtggolnppckpdlaaGreat
open Go Go.Sk Go.RowKit Go.ChangeShapes
theorem zGk {i : Int} (h : (Lit.int .i64 i).wf = true) : -9223372036854775808 ≤ i ∧ i ≤ 9223372036854775807 := by
 simpa [Lit.wf, IntKind.min, IntKind.max, IntKind.signed, IntKind.bits] using h
theorem zOe {i : Int} (h : (Lit.int .u8 i).wf = true) : 0 ≤ i ∧ i < 256 := by
 have : 0 ≤ i ∧ i ≤ 255 := by simpa [Lit.wf, IntKind.min, IntKind.max, IntKind.signed, IntKind.bits] using h
 omega
section
variable {H : Type} {enc : TypeId × Value → H} {w : World}
set_option maxRecDepth 20000 in
theorem rz_ac {cs : List Value} (h : Rz enc Tryz.prog w 70 cs) : ∃ x : Ac, cs = x.cells ∧ x.name.size ≤ 140737488355328 := by
 have h := h.struct (sg.desc rfl rfl) (by kernel_rfl)
 obtain ⟨x0, cs, rfl, b0, h⟩ := h.string (sg.desc rfl rfl) (sg.ncells rfl rfl)
 obtain ⟨x1, cs, rfl, _, h⟩ := h.bool (sg.desc rfl rfl) (sg.ncells rfl rfl)
 obtain rfl := h.nil
 exact ⟨⟨x0, x1⟩, rfl, b0⟩
set_option maxRecDepth 20000 in
theorem rz_ins {cs : List Value} (h : Rz enc Tryz.prog w 72 cs) : ∃ x : Ins, cs = x.cells ∧ x.name.size ≤ 140737488355328 := by
 have h := h.struct (sg.desc rfl rfl) (by kernel_rfl)
 obtain ⟨x0, cs, rfl, b0, h⟩ := h.string (sg.desc rfl rfl) (sg.ncells rfl rfl)
 obtain ⟨x1, cs, rfl, _, h⟩ := h.int (sg.desc rfl rfl) (sg.ncells rfl rfl)
 obtain ⟨x2, cs, rfl, _, h⟩ := h.bool (sg.desc rfl rfl) (sg.ncells rfl rfl)
 obtain rfl := h.nil
 exact ⟨⟨x0, x1, x2⟩, rfl, b0⟩
set_option maxRecDepth 20000 in
theorem rz_row {cs : List Value} (h : Rz enc Tryz.prog w 74 cs) : ∃ x : Row4, cs = x.cells ∧ x.wf := by
 have h := h.struct (sg.desc rfl rfl) (by kernel_rfl)
 obtain ⟨x0, cs, rfl, _, h⟩ := h.int (sg.desc rfl rfl) (sg.ncells rfl rfl)
 obtain ⟨x1, cs, rfl, _, h⟩ := h.int (sg.desc rfl rfl) (sg.ncells rfl rfl)
 obtain ⟨x2, cs, rfl, b2, h⟩ := h.int (sg.desc rfl rfl) (sg.ncells rfl rfl)
 obtain ⟨x3, cs, rfl, b3, h⟩ := h.int (sg.desc rfl rfl) (sg.ncells rfl rfl)
 obtain rfl := h.nil
 exact ⟨⟨x0, x1, x2, x3⟩, rfl, zGk b2, zGk b3⟩
set_option maxRecDepth 20000 in
theorem rz_odr {cs : List Value} (h : Rz enc Tryz.prog w 76 cs) : ∃ x : Odr, cs = x.cells ∧ (0 ≤ x.side ∧ x.side < 256) := by
 have h := h.struct (sg.desc rfl rfl) (by kernel_rfl)
 obtain ⟨x0, cs, rfl, _, h⟩ := h.int (sg.desc rfl rfl) (sg.ncells rfl rfl)
 obtain ⟨x1, cs, rfl, _, h⟩ := h.int (sg.desc rfl rfl) (sg.ncells rfl rfl)
 obtain ⟨x2, cs, rfl, _, h⟩ := h.int (sg.desc rfl rfl) (sg.ncells rfl rfl)
 obtain ⟨x3, cs, rfl, b3, h⟩ := h.int (sg.desc rfl rfl) (sg.ncells rfl rfl)
 obtain ⟨x4, cs, rfl, _, h⟩ := h.int (sg.desc rfl rfl) (sg.ncells rfl rfl)
 obtain ⟨x5, cs, rfl, _, h⟩ := h.int (sg.desc rfl rfl) (sg.ncells rfl rfl)
 obtain rfl := h.nil
 exact ⟨⟨x0, x1, x2, x3, x4, x5⟩, rfl, zOe b3⟩
set_option maxRecDepth 20000 in
theorem rz_bid {cs : List Value} (h : Rz enc Tryz.prog w 78 cs) : ∃ x : Bid, cs = x.cells ∧ True := by
 have h := h.struct (sg.desc rfl rfl) (by kernel_rfl)
 obtain ⟨x0, cs, rfl, _, h⟩ := h.int (sg.desc rfl rfl) (sg.ncells rfl rfl)
 obtain ⟨x1, cs, rfl, _, h⟩ := h.int (sg.desc rfl rfl) (sg.ncells rfl rfl)
 obtain rfl := h.nil
 exact ⟨⟨x0, x1⟩, rfl, trivial⟩
set_option maxRecDepth 20000 in
theorem rz_auc {cs : List Value} (h : Rz enc Tryz.prog w 81 cs) : ∃ x : Auc × (Option Addr × Nat), cs = x.1.cells x.2.1 x.2.2 ∧ Bids (zFF w) x.2.1 x.2.2 x.1.bids := by
 have h := h.struct (sg.desc rfl rfl) (by kernel_rfl)
 obtain ⟨x0, cs, rfl, _, h⟩ := h.int (sg.desc rfl rfl) (sg.ncells rfl rfl)
 obtain ⟨x1, cs, rfl, _, h⟩ := h.int (sg.desc rfl rfl) (sg.ncells rfl rfl)
 obtain ⟨x2, cs, rfl, _, h⟩ := h.int (sg.desc rfl rfl) (sg.ncells rfl rfl)
 obtain ⟨x3, cs, rfl, _, h⟩ := h.bool (sg.desc rfl rfl) (sg.ncells rfl rfl)
 obtain ⟨x4, cs, rfl, _, h⟩ := h.int (sg.desc rfl rfl) (sg.ncells rfl rfl)
 obtain ⟨x5, cs, rfl, _, h⟩ := h.int (sg.desc rfl rfl) (sg.ncells rfl rfl)
 obtain ⟨x6, cs, rfl, _, h⟩ := h.int (sg.desc rfl rfl) (sg.ncells rfl rfl)
 obtain ⟨x7, cs, rfl, _, h⟩ := h.int (sg.desc rfl rfl) (sg.ncells rfl rfl)
 obtain ⟨a, len, cap, cs, rfl, hs, h⟩ := h.slice (sg.desc rfl rfl) (sg.ncells rfl rfl) (sg.ncells rfl rfl) (sg.nbytes rfl rfl)
 obtain rfl := h.nil
 obtain ⟨l, rfl, hl, _⟩ := hs.named (el := Bid.cells) (fun _ => rz_bid)
 exact ⟨⟨⟨x0, x1, x2, x3, x4, x5, x6, x7, l⟩, a, cap⟩, rfl, hl⟩
set_option maxRecDepth 20000 in
theorem rz_opn {cs : List Value} (h : Rz enc Tryz.prog w 83 cs) : ∃ x : Opn, cs = x.cells ∧ (0 ≤ x.side ∧ x.side < 256) := by
 have h := h.struct (sg.desc rfl rfl) (by kernel_rfl)
 obtain ⟨x0, cs, rfl, _, h⟩ := h.int (sg.desc rfl rfl) (sg.ncells rfl rfl)
 obtain ⟨x1, cs, rfl, _, h⟩ := h.int (sg.desc rfl rfl) (sg.ncells rfl rfl)
 obtain ⟨x2, cs, rfl, _, h⟩ := h.int (sg.desc rfl rfl) (sg.ncells rfl rfl)
 obtain ⟨x3, cs, rfl, b3, h⟩ := h.int (sg.desc rfl rfl) (sg.ncells rfl rfl)
 obtain ⟨x4, cs, rfl, _, h⟩ := h.int (sg.desc rfl rfl) (sg.ncells rfl rfl)
 obtain ⟨x5, cs, rfl, _, h⟩ := h.int (sg.desc rfl rfl) (sg.ncells rfl rfl)
 obtain rfl := h.nil
 exact ⟨⟨x0, x1, x2, x3, x4, x5⟩, rfl, zOe b3⟩
set_option maxRecDepth 20000 in
theorem rz_lot {cs : List Value} (h : Rz enc Tryz.prog w 85 cs) : ∃ x : Lt, cs = x.cells ∧ True := by
 have h := h.struct (sg.desc rfl rfl) (by kernel_rfl)
 obtain ⟨x0, cs, rfl, _, h⟩ := h.int (sg.desc rfl rfl) (sg.ncells rfl rfl)
 obtain ⟨x1, cs, rfl, _, h⟩ := h.int (sg.desc rfl rfl) (sg.ncells rfl rfl)
 obtain ⟨x2, cs, rfl, _, h⟩ := h.int (sg.desc rfl rfl) (sg.ncells rfl rfl)
 obtain ⟨x3, cs, rfl, _, h⟩ := h.int (sg.desc rfl rfl) (sg.ncells rfl rfl)
 obtain rfl := h.nil
 exact ⟨⟨x0, x1, x2, x3⟩, rfl, trivial⟩
set_option maxRecDepth 20000 in
theorem rz_pos {cs : List Value} (h : Rz enc Tryz.prog w 87 cs) : ∃ x : Psn, cs = x.cells ∧ True := by
 have h := h.struct (sg.desc rfl rfl) (by kernel_rfl)
 obtain ⟨x0, cs, rfl, _, h⟩ := h.int (sg.desc rfl rfl) (sg.ncells rfl rfl)
 obtain ⟨x1, cs, rfl, _, h⟩ := h.int (sg.desc rfl rfl) (sg.ncells rfl rfl)
 obtain ⟨x2, cs, rfl, _, h⟩ := h.int (sg.desc rfl rfl) (sg.ncells rfl rfl)
 obtain ⟨x3, cs, rfl, _, h⟩ := h.int (sg.desc rfl rfl) (sg.ncells rfl rfl)
 obtain ⟨x4, cs, rfl, _, h⟩ := h.int (sg.desc rfl rfl) (sg.ncells rfl rfl)
 obtain ⟨x5, cs, rfl, _, h⟩ := h.int (sg.desc rfl rfl) (sg.ncells rfl rfl)
 obtain rfl := h.nil
 exact ⟨⟨x0, x1, x2, x3, x4, x5⟩, rfl, trivial⟩
set_option maxRecDepth 20000 in
theorem rz_lin {cs : List Value} (h : Rz enc Tryz.prog w 52 cs) : ∃ x : Ln, cs = x.cells ∧ ((0 ≤ x.kind ∧ x.kind < 256) ∧ x.wf) := by
 have h := h.struct (sg.desc rfl rfl) (by kernel_rfl)
 obtain ⟨x0, cs, rfl, _, h⟩ := h.int (sg.desc rfl rfl) (sg.ncells rfl rfl)
 obtain ⟨x1, cs, rfl, _, h⟩ := h.int (sg.desc rfl rfl) (sg.ncells rfl rfl)
 obtain ⟨x2, cs, rfl, b2, h⟩ := h.int (sg.desc rfl rfl) (sg.ncells rfl rfl)
 obtain ⟨x3, cs, rfl, b3, h⟩ := h.int (sg.desc rfl rfl) (sg.ncells rfl rfl)
 obtain ⟨x4, cs, rfl, b4, h⟩ := h.int (sg.desc rfl rfl) (sg.ncells rfl rfl)
 obtain rfl := h.nil
 exact ⟨⟨x0, x1, x2, x3, x4⟩, rfl, zOe b2, zGk b3, zGk b4⟩
set_option maxRecDepth 20000 in
theorem rz_sta {cs : List Value} (h : Rz enc Tryz.prog w 29 cs) : ∃ (s : Sta) (p : SPt), cs = s.cells p ∧ StaM (zFF w) s p ∧ StaA s := by
 have h := h.struct (sg.desc rfl rfl) (by kernel_rfl)
 obtain ⟨x0, cs, rfl, _, h⟩ := h.int (sg.desc rfl rfl) (sg.ncells rfl rfl)
 obtain ⟨x1, cs, rfl, _, h⟩ := h.int (sg.desc rfl rfl) (sg.ncells rfl rfl)
 obtain ⟨x2, cs, rfl, _, h⟩ := h.int (sg.desc rfl rfl) (sg.ncells rfl rfl)
 obtain ⟨x3, cs, rfl, _, h⟩ := h.int (sg.desc rfl rfl) (sg.ncells rfl rfl)
 obtain ⟨a4, n4, c4, cs, rfl, h4, h⟩ := h.slice (sg.desc rfl rfl) (sg.ncells rfl rfl) (sg.ncells rfl rfl) (sg.nbytes rfl rfl)
 obtain ⟨a5, n5, c5, cs, rfl, h5, h⟩ := h.slice (sg.desc rfl rfl) (sg.ncells rfl rfl) (sg.ncells rfl rfl) (sg.nbytes rfl rfl)
 obtain ⟨a6, n6, c6, cs, rfl, h6, h⟩ := h.slice (sg.desc rfl rfl) (sg.ncells rfl rfl) (sg.ncells rfl rfl) (sg.nbytes rfl rfl)
 obtain ⟨a7, n7, c7, cs, rfl, h7, h⟩ := h.slice (sg.desc rfl rfl) (sg.ncells rfl rfl) (sg.ncells rfl rfl) (sg.nbytes rfl rfl)
 obtain ⟨a8, n8, c8, cs, rfl, h8, h⟩ := h.slice (sg.desc rfl rfl) (sg.ncells rfl rfl) (sg.ncells rfl rfl) (sg.nbytes rfl rfl)
 obtain rfl := h.nil
 obtain ⟨l4, rfl, m4, w4⟩ := h4.named (el := Ac.cells) (fun _ => rz_ac)
 obtain ⟨l5, rfl, m5, w5⟩ := h5.named (el := Ins.cells) (fun _ => rz_ins)
 obtain ⟨l6, rfl, m6, w6⟩ := h6.named (el := Row4.cells) (fun _ => rz_row)
 obtain ⟨l7, rfl, m7, w7⟩ := h7.named (el := Odr.cells) (fun _ => rz_odr)
 obtain ⟨l8, rfl, m8, w8⟩ := h8.named (α := Auc × (Option Addr × Nat)) (el := fun x => x.1.cells x.2.1 x.2.2) (fun _ => rz_auc)
 have hg : ∀ j, (l8.map (·.1)).getD j default = (l8.getD j default).1 := fun j => by
  simp only [List.getD_eq_getElem?_getD, List.getElem?_map]
  cases l8[j]? <;> rfl
 refine ⟨⟨x0, x1, x2, x3, l4, l5, l6, l7, l8.map (·.1)⟩, ⟨a4, c4, a5, c5, a6, c6, a7, c7, a8, c8, fun j => (l8.getD j default).2⟩, ?_, ⟨m4, m5, m6, m7, ?_, ?_⟩, w4, w5, w6, w7⟩
 ·simp [Sta.cells]
 ·simp only [List.length_map]
  have : ael (l8.map (·.1)) (fun j => (l8.getD j default).2) = fun j => (l8.getD j default).1.cells (l8.getD j default).2.1 (l8.getD j default).2.2 := by
   funext j
   unfold ael
   rw [hg]
  rw [this]
  exact m8
 ·intro j hj
  simp only [List.length_map] at hj
  simp only [hg]
  exact w8 j hj
set_option maxRecDepth 20000 in
theorem rz_vws {cs : List Value} (h : Rz enc Tryz.prog w 35 cs) : ∃ (v : Vws) (p : VPt), cs = v.cells p ∧ VwM (zFF w) v p ∧ VwA v := by
 have h := h.struct (sg.desc rfl rfl) (by kernel_rfl)
 obtain ⟨a4, n4, c4, cs, rfl, h4, h⟩ := h.slice (sg.desc rfl rfl) (sg.ncells rfl rfl) (sg.ncells rfl rfl) (sg.nbytes rfl rfl)
 obtain ⟨a5, n5, c5, cs, rfl, h5, h⟩ := h.slice (sg.desc rfl rfl) (sg.ncells rfl rfl) (sg.ncells rfl rfl) (sg.nbytes rfl rfl)
 obtain ⟨a6, n6, c6, cs, rfl, h6, h⟩ := h.slice (sg.desc rfl rfl) (sg.ncells rfl rfl) (sg.ncells rfl rfl) (sg.nbytes rfl rfl)
 obtain ⟨a7, n7, c7, cs, rfl, h7, h⟩ := h.slice (sg.desc rfl rfl) (sg.ncells rfl rfl) (sg.ncells rfl rfl) (sg.nbytes rfl rfl)
 obtain rfl := h.nil
 obtain ⟨l4, rfl, m4, w4⟩ := h4.named (el := Opn.cells) (fun _ => rz_opn)
 obtain ⟨l5, rfl, m5, w5⟩ := h5.named (el := Lt.cells) (fun _ => rz_lot)
 obtain ⟨l6, rfl, m6, w6⟩ := h6.named (el := Psn.cells) (fun _ => rz_pos)
 obtain ⟨l7, rfl, m7, w7⟩ := h7.named (el := Ln.cells) (fun _ => rz_lin)
 exact ⟨⟨l4, l5, l6, l7⟩, ⟨a4, c4, a5, c5, a6, c6, a7, c7⟩, rfl, ⟨m4, m5, m6, m7⟩, w4, fun k hk => (w7 k hk).1, fun k hk => (w7 k hk).2⟩
set_option maxRecDepth 20000 in
theorem zQQ {v : Value} {d : DataW H} {p : List MemPlace} (h : DataW.Trod enc Tryz.prog w 0 (fun _ => true) true 29 v d p) (hz : ∀ n ∈ d.weights Tryz.prog 29, n ≤ reachBytes) (hv : Value.okWide Tryz.prog w .any 0 29 v) :
  ∃ (s : Sta) (p : SPt), v = .agg (s.cells p).toArray ∧ StaM (zFF w) s p ∧ StaA s := by
 obtain ⟨cs, rfl, _⟩ := Go.WideShapes.okWide_struct (sg.desc rfl rfl) hv
 obtain ⟨s, p, e, hM, hA⟩ := rz_sta (Rz.of h hz)
 refine ⟨s, p, ?_, hM, hA⟩
 have : cs.toList = s.cells p := e
 rw [← this]
set_option maxRecDepth 20000 in
theorem zQR {v : Value} {d : DataW H} {p : List MemPlace} (h : DataW.Trod enc Tryz.prog w 0 (fun _ => true) true 35 v d p) (hz : ∀ n ∈ d.weights Tryz.prog 35, n ≤ reachBytes) (hv : Value.okWide Tryz.prog w .any 0 35 v) :
  ∃ (s : Vws) (p : VPt), v = .agg (s.cells p).toArray ∧ VwM (zFF w) s p ∧ VwA s := by
 obtain ⟨cs, rfl, _⟩ := Go.WideShapes.okWide_struct (sg.desc rfl rfl) hv
 obtain ⟨s, p, e, hM, hA⟩ := rz_vws (Rz.of h hz)
 refine ⟨s, p, ?_, hM, hA⟩
 have : cs.toList = s.cells p := e
 rw [← this]
set_option maxRecDepth 20000 in
theorem zQS {t : TypeId} {v : Value} {d : DataW H} {p : List MemPlace} (ht : Tryz.prog.underlying t = some (.int .i64)) (h : DataW.Trod enc Tryz.prog w 0 (fun _ => true) true t v d p) (hv : Value.okWide Tryz.prog w .any 0 t v) :
  ∃ i : Int, v = .int .i64 i ∧ -9223372036854775808 ≤ i ∧ i ≤ 9223372036854775807 := by
 obtain ⟨i, rfl, _, _, hw⟩ := open_int ht hv h
 exact ⟨i, rfl, zGk hw⟩
end
end Go.Proofs.YtggolnppckpdlaaGreat
set_option linter.unusedSimpArgs false
set_option linter.unusedVariables false
namespace Go.Proofs.YtggolnppckpdlaaGreat
open Go Go.Sk Go.RowKit
theorem zIx (a b : Nat) : (a ^^^ b) / 2 = (a / 2) ^^^ (b / 2) := by
 apply Nat.eq_of_testBit_eq
 intro i
 rw [Nat.testBit_xor, Nat.testBit_div_two, Nat.testBit_div_two, Nat.testBit_div_two, Nat.testBit_xor]
theorem zLQ (a b : Nat) : ((a ^^^ b) % 2 = 1) ↔ ¬ (a % 2 = 1 ↔ b % 2 = 1) := by
 have h := Nat.testBit_xor a b 0
 simp only [Nat.testBit_zero] at h
 by_cases ha : a % 2 = 1 <;> by_cases hb : b % 2 = 1 <;> simp [ha, hb] at h ⊢ <;> omega
theorem zMO (a b : Nat) : zBj (a ^^^ b) = zBj a ^^^ zBj b := by
 unfold zBj
 rw [zIx]
 have h := zLQ a b
 by_cases ha : a % 2 = 1 <;> by_cases hb : b % 2 = 1
 ·rw [if_neg (by rw [h]; simp [ha, hb]), if_pos ha, if_pos hb]
  rw [Nat.xor_assoc, Nat.xor_comm 3988292384, Nat.xor_assoc, Nat.xor_self, Nat.xor_zero]
 ·rw [if_pos (h.2 (by simp [ha, hb])), if_pos ha, if_neg hb]
  rw [Nat.xor_assoc, Nat.xor_assoc, Nat.xor_comm (b / 2)]
 ·rw [if_pos (h.2 (by simp [ha, hb])), if_neg ha, if_pos hb, Nat.xor_assoc]
 ·rw [if_neg (by rw [h]; simp [ha, hb]), if_neg ha, if_neg hb]
theorem zGl : ∀ (k a b : Nat), zAJ k (a ^^^ b) = zAJ k a ^^^ zAJ k b := by
 intro k
 induction k with
 | zero => intro a b; rfl
 | succ k ih => intro a b; simp only [zAJ, zMO, ih]
theorem zGm (k : Nat) {c : Nat} (h : c < 4294967296) : zAJ k c < 4294967296 := by
 induction k with
 | zero => exact h
 | succ k ih => exact zIs ih
theorem zKN (j k c : Nat) : zAJ (j + k) c = zAJ j (zAJ k c) := by
 induction j with
 | zero => rw [Nat.zero_add]; rfl
 | succ j ih => rw [Nat.succ_add]; show zBj (zAJ (j + k) c) = zBj (zAJ j (zAJ k c)); rw [ih]
theorem zFh : ∀ (k x : Nat), zAJ k (2 ^ k * x) = x := by
 intro k
 induction k with
 | zero => intro x; simp [zAJ]
 | succ k ih =>
   intro x
   rw [show k + 1 = 1 + k by omega, zKN]
   rw [show 2 ^ (1 + k) * x = 2 ^ k * (2 * x) by rw [Nat.pow_add, Nat.pow_one, Nat.mul_comm 2, Nat.mul_assoc], ih]
   show zBj (2 * x) = x
   unfold zBj
   rw [if_neg (by omega)]; omega
theorem zKO (c b : Nat) (hb : b < 256) : zFo ((c % 256) ^^^ b) ^^^ (c / 256) = zAJ 8 (c ^^^ b) := by
 have h : c ^^^ b = ((c % 256) ^^^ b) ^^^ (2 ^ 8 * (c / 256)) := by
  have h1 : c = 2 ^ 8 * (c / 256) + c % 256 := by omega
  have h2 := Nat.two_pow_add_eq_or_of_lt (i := 8) (b := c % 256) (by omega) (c / 256)
  have h3 : 2 ^ 8 * (c / 256) + c % 256 = (2 ^ 8 * (c / 256)) ^^^ (c % 256) := by
   apply Nat.eq_of_testBit_eq
   intro i
   rw [h2, Nat.testBit_or, Nat.testBit_xor]
   by_cases hi : i < 8
   ·rw [Nat.testBit_two_pow_mul]; simp [show ¬ 8 ≤ i by omega]
   ·rw [show (c % 256).testBit i = false from Nat.testBit_lt_two_pow (Nat.lt_of_lt_of_le (show c % 256 < 2 ^ 8 by omega) (Nat.pow_le_pow_right (by decide) (by omega)))]
    simp
  rw [Nat.xor_comm, Nat.xor_comm (c % 256), Nat.xor_assoc, Nat.xor_comm (c % 256), ← h3, ← h1]
 rw [h, zGl, zFh]; rfl
theorem zQT (l : List Nat) (hl : ∀ b ∈ l, b < 256) : ∀ c, zEW c l = l.foldl (fun c b => zAJ 8 (c ^^^ b)) c := by
 unfold zEW
 induction l with
 | nil => intro c; rfl
 | cons x xs ih =>
   intro c
   rw [List.foldl_cons, List.foldl_cons, zKO c x (hl x (List.mem_cons_self)), ih fun b hb => hl b (List.mem_cons_of_mem _ hb)]
def zIE (c : Nat) (l : List Nat) : Nat := l.foldl (fun c b => zAJ 8 (c ^^^ b)) c
end Go.Proofs.YtggolnppckpdlaaGreat
set_option linter.unusedSimpArgs false
set_option linter.unusedVariables false
namespace Go.Proofs.YtggolnppckpdlaaGreat
open Go Go.Sk Go.RowKit
theorem zQU (l : List Nat) (hl : Byt l) : ∀ c, c < 4294967296 → zIE c l < 4294967296 := by
 induction l with
 | nil => intro c h; exact h
 | cons a l ih =>
   intro c h
   exact ih (fun b hb => hl b (List.mem_cons_of_mem _ hb)) _ (zGm 8 (lt32 h (Nat.lt_trans (hl a (List.mem_cons_self)) (by decide))))
theorem zQV {l : List Nat} (hl : Byt l) : zEJ l = 4294967295 - zIE 4294967295 l := by
 unfold zEJ zJw
 rw [Nat.sub_zero, zQT l hl]; rfl
end Go.Proofs.YtggolnppckpdlaaGreat
