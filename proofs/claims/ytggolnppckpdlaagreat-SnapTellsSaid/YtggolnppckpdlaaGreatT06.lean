/- Texts of ours, joined: the steps of the proof, or the claim's theorem. -/
import Derived.Test.YtggolnppckpdlaaGreatT03
import Derived.Test.YtggolnppckpdlaaGreatT05
set_option linter.unusedSimpArgs false
set_option linter.unusedVariables false
namespace Go.Proofs.YtggolnppckpdlaaGreat
open Go Go.Sk Go.RowKit
attribute [local irreducible] Go.Calls
def beV (l : List Nat) : Nat := l.foldl (fun n b => n * 256 + b) 0
theorem zEl (l : List Nat) (b : Nat) : beV (l ++ [b]) = beV l * 256 + b := by simp [beV]
theorem zGJ {l : List Nat} (h : Byt l) : ∀ k, beV (l.take k) < 256 ^ k
 | 0 => by simp [beV]
 | k + 1 => by
   have ih := zGJ h k
   rw [Nat.pow_succ]
   by_cases g : k < l.length
   ·rw [List.take_succ_eq_append_getElem g, zEl]
    have := h l[k] (List.getElem_mem g)
    omega
   ·rw [List.take_of_length_le (by omega)] at ih ⊢; omega
def beK : Nat → Nat → List Nat
 | 1, n => [n % 256]
 | 4, n => be4 n
 | _, n => be8 n
theorem be1_V {a : Nat} (ha : a < 256) : beK 1 (beV [a]) = [a] := by simp [beK, beV]; omega
theorem be4_V {a b c d : Nat} (ha : a < 256) (hb : b < 256) (hc : c < 256) (hd : d < 256) : beK 4 (beV [a, b, c, d]) = [a, b, c, d] := by simp [beK, be4, beV]; omega
theorem be8_V {a b c d e f g h : Nat} (ha : a < 256) (hb : b < 256) (hc : c < 256) (hd : d < 256) (he : e < 256) (hf : f < 256) (hg : g < 256) (hh : h < 256) : beK 8 (beV [a, b, c, d, e, f, g, h]) = [a, b, c, d, e, f, g, h] := by simp [beK, be8, beV]; omega
theorem V_be1 {n : Nat} (h : n < 256) : beV (beK 1 n) = n := by simp [beK, beV]; omega
theorem V_be4 {n : Nat} (h : n < 4294967296) : beV (beK 4 n) = n := by simp [beK, be4, beV]; omega
theorem zNP {n : Nat} (h : n < 18446744073709551616) : beV (beK 8 n) = n := by simp [beK, be8, beV]; omega
theorem len1 {l : List Nat} (h : l.length = 1) : ∃ a, l = [a] := List.length_eq_one_iff.1 h
theorem len4 {l : List Nat} (h : l.length = 4) : ∃ a b c d, l = [a, b, c, d] := by
 match l, h with
 | [a, b, c, d], _ => exact ⟨a, b, c, d, rfl⟩
theorem len8 {l : List Nat} (h : l.length = 8) : ∃ a b c d e f g i, l = [a, b, c, d, e, f, g, i] := by
 match l, h with
 | [a, b, c, d, e, f, g, i], _ => exact ⟨a, b, c, d, e, f, g, i, rfl⟩
theorem beK_V1 {l : List Nat} (hb : Byt l) (h : l.length = 1) : beK 1 (beV l) = l := by
 obtain ⟨a, rfl⟩ := len1 h
 exact be1_V (hb a (by simp))
theorem beK_V4 {l : List Nat} (hb : Byt l) (h : l.length = 4) : beK 4 (beV l) = l := by
 obtain ⟨a, b, c, d, rfl⟩ := len4 h
 exact be4_V (hb a (by simp)) (hb b (by simp)) (hb c (by simp)) (hb d (by simp))
theorem beK_V8 {l : List Nat} (hb : Byt l) (h : l.length = 8) : beK 8 (beV l) = l := by
 obtain ⟨a, b, c, d, e, f, g, i, rfl⟩ := len8 h
 exact be8_V (hb a (by simp)) (hb b (by simp)) (hb c (by simp)) (hb d (by simp)) (hb e (by simp)) (hb f (by simp)) (hb g (by simp)) (hb i (by simp))
theorem or8 {n b : Nat} (hn : n < 72057594037927936) (hb : b < 256) :
  IntKind.u64.wrap ((BitVec.ofInt IntKind.u64.bits (IntKind.u64.wrap ((n : Int) * 2 ^ (min 8 IntKind.u64.bits))) ||| BitVec.ofInt IntKind.u64.bits (b : Int)).toNat : Int) = ((n * 256 + b : Nat) : Int) := by
 have h1 : (n : Int) * 2 ^ (min 8 IntKind.u64.bits) = ((n * 256 : Nat) : Int) := by
  rw [show min 8 IntKind.u64.bits = 8 from by decide, Int.natCast_mul]; rfl
 rw [h1, zCH (n := n * 256) (by omega), BitVec.ofInt_natCast, BitVec.ofInt_natCast, BitVec.toNat_or, BitVec.toNat_ofNat, BitVec.toNat_ofNat, show n * 256 % 2 ^ IntKind.u64.bits = n * 256 from Nat.mod_eq_of_lt (show n * 256 < 2 ^ 64 by omega), show b % 2 ^ IntKind.u64.bits = b from Nat.mod_eq_of_lt (show b < 2 ^ 64 by omega)]
 have := Nat.two_pow_add_eq_or_of_lt (i := 8) (b := b) (by omega) n
 rw [Nat.mul_comm] at this
 rw [← this, zCH (by omega)]
def zGv (K : Nat) (x : Nat) (l : List Nat) : Prop := x < 256 ^ K ∧ l = beK K x
def FixR (pr : Nat) (s : ByteArray) (G : zI) (p : Rs) (K : Nat) (q : IntKind) : zI → Value → Prop := fun N v => ∃ (x : Nat) (p' : Rs), v = .int q (x : Int) ∧ N = rd pr s p' :: G ∧ x < 256 ^ K ∧ p'.bad = p.bad ∧ Step (zT s) (zGv K) p p' x
theorem zNQ {l : List Nat} (h : Byt l) {K : Nat} (hK : l.length = K) : beV l < 256 ^ K := by
 have := zGJ h l.length
 rw [List.take_length] at this
 rw [← hK]; exact this
theorem wrK8 {n : Nat} (h : n < 256 ^ 1) : IntKind.u8.wrap (n : Int) = (n : Int) := by rw [w8, Nat.mod_eq_of_lt (by omega)]
theorem wrK32 {n : Nat} (h : n < 256 ^ 4) : IntKind.u32.wrap (n : Int) = (n : Int) := by
 have h' : n < 4294967296 := h
 have : IntKind.u32.wrap ((n : Nat) : Int) = ((n % 4294967296 : Nat) : Int) := by simp [IntKind.wrap, IntKind.bits, IntKind.signed]
 rw [this, Nat.mod_eq_of_lt h']
theorem zOy {w0 w : World} {G : zI} {pr : Nat} {s : ByteArray} {p : Rs} (hp : p.pos ≤ s.size) (hs : s.size ≤ 1073741824) (H : St w0 (rd pr s p :: G) w) :
  Calls Tryz.prog 191 [ptr pr, .int .i64 1].toArray w (zy (FixR pr s G p 1 .u8) w0) := by
 have hlen := zU s
 have hbt := zBM s
 by_cases he : p.e = 0
 ·by_cases hn : p.pos + 1 ≤ s.size
  ·have hxs : (s.extract p.pos (p.pos + 1)).size = 1 := by rw [← zU, zAG, List.length_take, List.length_drop]; omega
   have hL : zT (s.extract p.pos (p.pos + 1)) = ((zT s).drop p.pos).take 1 := by rw [zAG]; congr 1; omega
   obtain ⟨x, hx⟩ : ∃ x, s.extract p.pos (p.pos + 1) = x := ⟨_, rfl⟩
   have hbx := zBM x
   have hxl : (zT x).length = 1 := by rw [zU, ← hx]; exact hxs
   rw [hx] at hL hxs
   refine enter [.tmp 4] Tryz.func191 rfl Tryz.ntmps191 rfl rfl ?_
   repeat' (first | refine y1 sg ?_ | refine y3 ?_ | (refine' y33 zBd ?_ ?_; rotate_left 2; exact (hx ▸ zDJ 1 rfl he hs hn H); rintro v N w ⟨rfl, rfl⟩ H) | (with_reducible first | apply zB | apply zD | apply zC | apply zF) | refine zA ?_ | fail)
   refine zK [(7, 8), (17, 27)] (fun i : Nat => [(7, .int .u64 ((beV ((zT x).take i) : Nat) : Int)), (17, .int .i64 ((i : Nat) : Int))]) (fun i w => St w0 (rd pr s ⟨p.pos + 1, p.e, p.to, p.bad⟩ :: G) w ∧ i ≤ 1) (fun i => 1 - i) 0 ⟨rfl, rfl, trivial⟩ ⟨H, by omega⟩ ?_
   clear H
   rintro i gh w ⟨H, hi⟩
   have hV := zGJ hbx i
   by_cases hik : i < 1
   ·have hd : decide ((i : Int) < (x.size : Int)) = true := decide_eq_true (by omega)
    obtain ⟨b, hb⟩ : ∃ b, zAc x i = b := ⟨_, rfl⟩
    have hb8 : b < 256 := hb ▸ zCT x i
    have hv : IntKind.u64.wrap (b : Int) = (b : Int) := zCH (by omega)
    have hnx : beV ((zT x).take (i + 1)) = beV ((zT x).take i) * 256 + b := by
     rw [List.take_succ_eq_append_getElem (by omega), zEl, ← hb, ← zEk x (by omega)]
     simp [List.getElem?_eq_getElem (show i < (zT x).length by omega)]
    have hVs : beV ((zT x).take i) < 72057594037927936 := Nat.lt_of_lt_of_le hV (Nat.le_trans (Nat.pow_le_pow_right (by decide) (show i ≤ 7 by omega)) (by decide))
    repeat' (first | refine y1 sg ?_ | refine y3 ?_ | (refine zf rfl rfl (Yq.strIxB sg hb rfl rfl rfl rfl rfl (Int.toNat_natCast _) (by omega) (by omega)) ?_) | (with_reducible first | apply zB | apply zD | apply zC | apply zF | apply zH) | refine zA ?_ | (refine y23 ?_ ?_; all_goals (intro h; try (exfalso; first | ((rw [hd] at h; cases h); done)))) | fail)
    exact zM (i + 1) rfl ⟨congrArg (Value.int .u64) (by rw [hv, or8 hVs hb8, hnx]), congrArg (Value.int .i64) (by rw [w64 (by omega) (by omega)]; omega), trivial⟩ ⟨H, by omega⟩ (by omega)
   ·have hd : decide ((i : Int) < (x.size : Int)) = false := decide_eq_false (by omega)
    have hVK : beV (zT x) < 256 ^ 1 := zNQ hbx hxl
    have hall : (zT x).take i = zT x := List.take_of_length_le (by omega)
    have hdrop : (zT s).drop p.pos = zT x ++ (zT s).drop (p.pos + 1) := by rw [hL, ← List.drop_drop, List.take_append_drop]
    repeat' (first | refine y1 sg ?_ | (with_reducible first | apply zB | apply zD | apply zC | apply zG | apply zN | apply zW) | refine zA ?_ | refine y24 ?_ | (refine y23 ?_ ?_; all_goals (intro h; try (exfalso; first | ((rw [hd] at h; cases h); done)))) | fail)
    refine zh (vs := [_]) ⟨zp rfl, trivial⟩ H ⟨beV (zT x), _, congrArg (Value.int .u8) (by rw [hall]; rw [wrK8 hVK]), rfl, hVK, rfl, by simp only; omega, fun hl => ⟨hl, _, ⟨hVK, (beK_V1 hbx hxl).symm⟩, hdrop⟩, fun hl y l r hy hr => ?_⟩
    obtain ⟨hy1, rfl⟩ := hy
    rw [hdrop] at hr
    obtain ⟨e1, e2⟩ := List.append_inj hr (by rw [hxl]; rfl)
    exact ⟨hl, by rw [e1]; exact V_be1 (by omega), e2⟩
  ·refine enter [.tmp 4] Tryz.func191 rfl Tryz.ntmps191 rfl rfl ?_
   repeat' (first | refine y1 sg ?_ | refine y3 ?_ | (refine' y33 zBd ?_ ?_; rotate_left 2; exact zEj 1 rfl he hp hs (by omega) H; rintro v N w ⟨rfl, rfl⟩ H) | (with_reducible first | apply zB | apply zD | apply zC | apply zF) | refine zA ?_ | fail)
   refine zK [(7, 8), (17, 27)] (fun _ : Unit => [(7, .int .u64 0), (17, .int .i64 0)]) (fun _ w => St w0 (rd pr s ⟨p.pos, 8, p.pos, p.bad⟩ :: G) w) (fun _ => 0) () ⟨rfl, rfl, trivial⟩ H ?_
   clear H
   rintro _ gh w H
   repeat' (first | refine y1 sg ?_ | (with_reducible first | apply zB | apply zD | apply zC | apply zG | apply zN | apply zW) | refine zA ?_ | refine y24 ?_ | refine y22 ?_ | fail)
   exact zh (vs := [_]) ⟨zp rfl, trivial⟩ H ⟨0, _, rfl, rfl, by decide, rfl, by simp only; omega, fun h => absurd h.1 (by simp), fun _ y l r hy hr => (by have hle := congrArg List.length hr; rw [List.length_drop, List.length_append, hy.2, show (beK 1 y).length = 1 from rfl] at hle; omega)⟩
 ·refine enter [.tmp 4] Tryz.func191 rfl Tryz.ntmps191 rfl rfl ?_
  repeat' (first | refine y1 sg ?_ | refine y3 ?_ | (refine' y33 zBd ?_ ?_; rotate_left 2; exact zFs he H; rintro v N w ⟨rfl, rfl⟩ H) | (with_reducible first | apply zB | apply zD | apply zC | apply zF) | refine zA ?_ | fail)
  refine zK [(7, 8), (17, 27)] (fun _ : Unit => [(7, .int .u64 0), (17, .int .i64 0)]) (fun _ w => St w0 (rd pr s p :: G) w) (fun _ => 0) () ⟨rfl, rfl, trivial⟩ H ?_
  clear H
  rintro _ gh w H
  repeat' (first | refine y1 sg ?_ | (with_reducible first | apply zB | apply zD | apply zC | apply zG | apply zN | apply zW) | refine zA ?_ | refine y24 ?_ | refine y22 ?_ | fail)
  exact zh (vs := [_]) ⟨zp rfl, trivial⟩ H ⟨0, _, rfl, rfl, by decide, rfl, Step.dead (by omega) (fun h => he h.1) (fun h => he h.1)⟩
theorem zOz {w0 w : World} {G : zI} {pr : Nat} {s : ByteArray} {p : Rs} (hp : p.pos ≤ s.size) (hs : s.size ≤ 1073741824) (H : St w0 (rd pr s p :: G) w) :
  Calls Tryz.prog 118 [ptr pr, .int .i64 4].toArray w (zy (FixR pr s G p 4 .u32) w0) := by
 have hlen := zU s
 have hbt := zBM s
 by_cases he : p.e = 0
 ·by_cases hn : p.pos + 4 ≤ s.size
  ·have hxs : (s.extract p.pos (p.pos + 4)).size = 4 := by rw [← zU, zAG, List.length_take, List.length_drop]; omega
   have hL : zT (s.extract p.pos (p.pos + 4)) = ((zT s).drop p.pos).take 4 := by rw [zAG]; congr 1; omega
   obtain ⟨x, hx⟩ : ∃ x, s.extract p.pos (p.pos + 4) = x := ⟨_, rfl⟩
   have hbx := zBM x
   have hxl : (zT x).length = 4 := by rw [zU, ← hx]; exact hxs
   rw [hx] at hL hxs
   refine enter [.tmp 4] Tryz.func118 rfl Tryz.ntmps118 rfl rfl ?_
   repeat' (first | refine y1 sg ?_ | refine y3 ?_ | (refine' y33 zBd ?_ ?_; rotate_left 2; exact (hx ▸ zDJ 4 rfl he hs hn H); rintro v N w ⟨rfl, rfl⟩ H) | (with_reducible first | apply zB | apply zD | apply zC | apply zF) | refine zA ?_ | fail)
   refine zK [(7, 8), (17, 27)] (fun i : Nat => [(7, .int .u64 ((beV ((zT x).take i) : Nat) : Int)), (17, .int .i64 ((i : Nat) : Int))]) (fun i w => St w0 (rd pr s ⟨p.pos + 4, p.e, p.to, p.bad⟩ :: G) w ∧ i ≤ 4) (fun i => 4 - i) 0 ⟨rfl, rfl, trivial⟩ ⟨H, by omega⟩ ?_
   clear H
   rintro i gh w ⟨H, hi⟩
   have hV := zGJ hbx i
   by_cases hik : i < 4
   ·have hd : decide ((i : Int) < (x.size : Int)) = true := decide_eq_true (by omega)
    obtain ⟨b, hb⟩ : ∃ b, zAc x i = b := ⟨_, rfl⟩
    have hb8 : b < 256 := hb ▸ zCT x i
    have hv : IntKind.u64.wrap (b : Int) = (b : Int) := zCH (by omega)
    have hnx : beV ((zT x).take (i + 1)) = beV ((zT x).take i) * 256 + b := by
     rw [List.take_succ_eq_append_getElem (by omega), zEl, ← hb, ← zEk x (by omega)]
     simp [List.getElem?_eq_getElem (show i < (zT x).length by omega)]
    have hVs : beV ((zT x).take i) < 72057594037927936 := Nat.lt_of_lt_of_le hV (Nat.le_trans (Nat.pow_le_pow_right (by decide) (show i ≤ 7 by omega)) (by decide))
    repeat' (first | refine y1 sg ?_ | refine y3 ?_ | (refine zf rfl rfl (Yq.strIxB sg hb rfl rfl rfl rfl rfl (Int.toNat_natCast _) (by omega) (by omega)) ?_) | (with_reducible first | apply zB | apply zD | apply zC | apply zF | apply zH) | refine zA ?_ | (refine y23 ?_ ?_; all_goals (intro h; try (exfalso; first | ((rw [hd] at h; cases h); done)))) | fail)
    exact zM (i + 1) rfl ⟨congrArg (Value.int .u64) (by rw [hv, or8 hVs hb8, hnx]), congrArg (Value.int .i64) (by rw [w64 (by omega) (by omega)]; omega), trivial⟩ ⟨H, by omega⟩ (by omega)
   ·have hd : decide ((i : Int) < (x.size : Int)) = false := decide_eq_false (by omega)
    have hVK : beV (zT x) < 256 ^ 4 := zNQ hbx hxl
    have hall : (zT x).take i = zT x := List.take_of_length_le (by omega)
    have hdrop : (zT s).drop p.pos = zT x ++ (zT s).drop (p.pos + 4) := by rw [hL, ← List.drop_drop, List.take_append_drop]
    repeat' (first | refine y1 sg ?_ | (with_reducible first | apply zB | apply zD | apply zC | apply zG | apply zN | apply zW) | refine zA ?_ | refine y24 ?_ | (refine y23 ?_ ?_; all_goals (intro h; try (exfalso; first | ((rw [hd] at h; cases h); done)))) | fail)
    refine zh (vs := [_]) ⟨zp rfl, trivial⟩ H ⟨beV (zT x), _, congrArg (Value.int .u32) (by rw [hall]; rw [wrK32 hVK]), rfl, hVK, rfl, by simp only; omega, fun hl => ⟨hl, _, ⟨hVK, (beK_V4 hbx hxl).symm⟩, hdrop⟩, fun hl y l r hy hr => ?_⟩
    obtain ⟨hy1, rfl⟩ := hy
    rw [hdrop] at hr
    obtain ⟨e1, e2⟩ := List.append_inj hr (by rw [hxl]; rfl)
    exact ⟨hl, by rw [e1]; exact V_be4 (by omega), e2⟩
  ·refine enter [.tmp 4] Tryz.func118 rfl Tryz.ntmps118 rfl rfl ?_
   repeat' (first | refine y1 sg ?_ | refine y3 ?_ | (refine' y33 zBd ?_ ?_; rotate_left 2; exact zEj 4 rfl he hp hs (by omega) H; rintro v N w ⟨rfl, rfl⟩ H) | (with_reducible first | apply zB | apply zD | apply zC | apply zF) | refine zA ?_ | fail)
   refine zK [(7, 8), (17, 27)] (fun _ : Unit => [(7, .int .u64 0), (17, .int .i64 0)]) (fun _ w => St w0 (rd pr s ⟨p.pos, 8, p.pos, p.bad⟩ :: G) w) (fun _ => 0) () ⟨rfl, rfl, trivial⟩ H ?_
   clear H
   rintro _ gh w H
   repeat' (first | refine y1 sg ?_ | (with_reducible first | apply zB | apply zD | apply zC | apply zG | apply zN | apply zW) | refine zA ?_ | refine y24 ?_ | refine y22 ?_ | fail)
   exact zh (vs := [_]) ⟨zp rfl, trivial⟩ H ⟨0, _, rfl, rfl, by decide, rfl, by simp only; omega, fun h => absurd h.1 (by simp), fun _ y l r hy hr => (by have hle := congrArg List.length hr; rw [List.length_drop, List.length_append, hy.2, show (beK 4 y).length = 4 from rfl] at hle; omega)⟩
 ·refine enter [.tmp 4] Tryz.func118 rfl Tryz.ntmps118 rfl rfl ?_
  repeat' (first | refine y1 sg ?_ | refine y3 ?_ | (refine' y33 zBd ?_ ?_; rotate_left 2; exact zFs he H; rintro v N w ⟨rfl, rfl⟩ H) | (with_reducible first | apply zB | apply zD | apply zC | apply zF) | refine zA ?_ | fail)
  refine zK [(7, 8), (17, 27)] (fun _ : Unit => [(7, .int .u64 0), (17, .int .i64 0)]) (fun _ w => St w0 (rd pr s p :: G) w) (fun _ => 0) () ⟨rfl, rfl, trivial⟩ H ?_
  clear H
  rintro _ gh w H
  repeat' (first | refine y1 sg ?_ | (with_reducible first | apply zB | apply zD | apply zC | apply zG | apply zN | apply zW) | refine zA ?_ | refine y24 ?_ | refine y22 ?_ | fail)
  exact zh (vs := [_]) ⟨zp rfl, trivial⟩ H ⟨0, _, rfl, rfl, by decide, rfl, Step.dead (by omega) (fun h => he h.1) (fun h => he h.1)⟩
theorem zO0 {w0 w : World} {G : zI} {pr : Nat} {s : ByteArray} {p : Rs} (hp : p.pos ≤ s.size) (hs : s.size ≤ 1073741824) (H : St w0 (rd pr s p :: G) w) :
  Calls Tryz.prog 117 [ptr pr, .int .i64 8].toArray w (zy (FixR pr s G p 8 .u64) w0) := by
 have hlen := zU s
 have hbt := zBM s
 by_cases he : p.e = 0
 ·by_cases hn : p.pos + 8 ≤ s.size
  ·have hxs : (s.extract p.pos (p.pos + 8)).size = 8 := by rw [← zU, zAG, List.length_take, List.length_drop]; omega
   have hL : zT (s.extract p.pos (p.pos + 8)) = ((zT s).drop p.pos).take 8 := by rw [zAG]; congr 1; omega
   obtain ⟨x, hx⟩ : ∃ x, s.extract p.pos (p.pos + 8) = x := ⟨_, rfl⟩
   have hbx := zBM x
   have hxl : (zT x).length = 8 := by rw [zU, ← hx]; exact hxs
   rw [hx] at hL hxs
   refine enter [.tmp 4] Tryz.func117 rfl Tryz.ntmps117 rfl rfl ?_
   repeat' (first | refine y1 sg ?_ | refine y3 ?_ | (refine' y33 zBd ?_ ?_; rotate_left 2; exact (hx ▸ zDJ 8 rfl he hs hn H); rintro v N w ⟨rfl, rfl⟩ H) | (with_reducible first | apply zB | apply zD | apply zC | apply zF) | refine zA ?_ | fail)
   refine zK [(7, 8), (17, 27)] (fun i : Nat => [(7, .int .u64 ((beV ((zT x).take i) : Nat) : Int)), (17, .int .i64 ((i : Nat) : Int))]) (fun i w => St w0 (rd pr s ⟨p.pos + 8, p.e, p.to, p.bad⟩ :: G) w ∧ i ≤ 8) (fun i => 8 - i) 0 ⟨rfl, rfl, trivial⟩ ⟨H, by omega⟩ ?_
   clear H
   rintro i gh w ⟨H, hi⟩
   have hV := zGJ hbx i
   by_cases hik : i < 8
   ·have hd : decide ((i : Int) < (x.size : Int)) = true := decide_eq_true (by omega)
    obtain ⟨b, hb⟩ : ∃ b, zAc x i = b := ⟨_, rfl⟩
    have hb8 : b < 256 := hb ▸ zCT x i
    have hv : IntKind.u64.wrap (b : Int) = (b : Int) := zCH (by omega)
    have hnx : beV ((zT x).take (i + 1)) = beV ((zT x).take i) * 256 + b := by
     rw [List.take_succ_eq_append_getElem (by omega), zEl, ← hb, ← zEk x (by omega)]
     simp [List.getElem?_eq_getElem (show i < (zT x).length by omega)]
    have hVs : beV ((zT x).take i) < 72057594037927936 := Nat.lt_of_lt_of_le hV (Nat.le_trans (Nat.pow_le_pow_right (by decide) (show i ≤ 7 by omega)) (by decide))
    repeat' (first | refine y1 sg ?_ | refine y3 ?_ | (refine zf rfl rfl (Yq.strIxB sg hb rfl rfl rfl rfl rfl (Int.toNat_natCast _) (by omega) (by omega)) ?_) | (with_reducible first | apply zB | apply zD | apply zC | apply zF | apply zH) | refine zA ?_ | (refine y23 ?_ ?_; all_goals (intro h; try (exfalso; first | ((rw [hd] at h; cases h); done)))) | fail)
    exact zM (i + 1) rfl ⟨congrArg (Value.int .u64) (by rw [hv, or8 hVs hb8, hnx]), congrArg (Value.int .i64) (by rw [w64 (by omega) (by omega)]; omega), trivial⟩ ⟨H, by omega⟩ (by omega)
   ·have hd : decide ((i : Int) < (x.size : Int)) = false := decide_eq_false (by omega)
    have hVK : beV (zT x) < 256 ^ 8 := zNQ hbx hxl
    have hall : (zT x).take i = zT x := List.take_of_length_le (by omega)
    have hdrop : (zT s).drop p.pos = zT x ++ (zT s).drop (p.pos + 8) := by rw [hL, ← List.drop_drop, List.take_append_drop]
    repeat' (first | refine y1 sg ?_ | (with_reducible first | apply zB | apply zD | apply zC | apply zG | apply zN | apply zW) | refine zA ?_ | refine y24 ?_ | (refine y23 ?_ ?_; all_goals (intro h; try (exfalso; first | ((rw [hd] at h; cases h); done)))) | fail)
    refine zh (vs := [_]) ⟨zp rfl, trivial⟩ H ⟨beV (zT x), _, congrArg (Value.int .u64) (by rw [hall]; skip), rfl, hVK, rfl, by simp only; omega, fun hl => ⟨hl, _, ⟨hVK, (beK_V8 hbx hxl).symm⟩, hdrop⟩, fun hl y l r hy hr => ?_⟩
    obtain ⟨hy1, rfl⟩ := hy
    rw [hdrop] at hr
    obtain ⟨e1, e2⟩ := List.append_inj hr (by rw [hxl]; rfl)
    exact ⟨hl, by rw [e1]; exact zNP (by omega), e2⟩
  ·refine enter [.tmp 4] Tryz.func117 rfl Tryz.ntmps117 rfl rfl ?_
   repeat' (first | refine y1 sg ?_ | refine y3 ?_ | (refine' y33 zBd ?_ ?_; rotate_left 2; exact zEj 8 rfl he hp hs (by omega) H; rintro v N w ⟨rfl, rfl⟩ H) | (with_reducible first | apply zB | apply zD | apply zC | apply zF) | refine zA ?_ | fail)
   refine zK [(7, 8), (17, 27)] (fun _ : Unit => [(7, .int .u64 0), (17, .int .i64 0)]) (fun _ w => St w0 (rd pr s ⟨p.pos, 8, p.pos, p.bad⟩ :: G) w) (fun _ => 0) () ⟨rfl, rfl, trivial⟩ H ?_
   clear H
   rintro _ gh w H
   repeat' (first | refine y1 sg ?_ | (with_reducible first | apply zB | apply zD | apply zC | apply zG | apply zN | apply zW) | refine zA ?_ | refine y24 ?_ | refine y22 ?_ | fail)
   exact zh (vs := [_]) ⟨zp rfl, trivial⟩ H ⟨0, _, rfl, rfl, by decide, rfl, by simp only; omega, fun h => absurd h.1 (by simp), fun _ y l r hy hr => (by have hle := congrArg List.length hr; rw [List.length_drop, List.length_append, hy.2, show (beK 8 y).length = 8 from rfl] at hle; omega)⟩
 ·refine enter [.tmp 4] Tryz.func117 rfl Tryz.ntmps117 rfl rfl ?_
  repeat' (first | refine y1 sg ?_ | refine y3 ?_ | (refine' y33 zBd ?_ ?_; rotate_left 2; exact zFs he H; rintro v N w ⟨rfl, rfl⟩ H) | (with_reducible first | apply zB | apply zD | apply zC | apply zF) | refine zA ?_ | fail)
  refine zK [(7, 8), (17, 27)] (fun _ : Unit => [(7, .int .u64 0), (17, .int .i64 0)]) (fun _ w => St w0 (rd pr s p :: G) w) (fun _ => 0) () ⟨rfl, rfl, trivial⟩ H ?_
  clear H
  rintro _ gh w H
  repeat' (first | refine y1 sg ?_ | (with_reducible first | apply zB | apply zD | apply zC | apply zG | apply zN | apply zW) | refine zA ?_ | refine y24 ?_ | refine y22 ?_ | fail)
  exact zh (vs := [_]) ⟨zp rfl, trivial⟩ H ⟨0, _, rfl, rfl, by decide, rfl, Step.dead (by omega) (fun h => he h.1) (fun h => he h.1)⟩
end Go.Proofs.YtggolnppckpdlaaGreat
set_option linter.unusedSimpArgs false
set_option linter.unusedVariables false
namespace Go.Proofs.YtggolnppckpdlaaGreat
open Go Go.Sk Go.RowKit
attribute [local irreducible] Go.Calls
theorem zKp {w0 w : World} {G : zI} {pr : Nat} {s : ByteArray} {p : Rs} (hp : p.pos ≤ s.size) (hs : s.size ≤ 1073741824) (H : St w0 (rd pr s p :: G) w) :
  Calls Tryz.prog 132 [ptr pr].toArray w (zy (FixR pr s G p 1 .u8) w0) := by
 refine enter [.tmp 2] Tryz.func132 rfl Tryz.ntmps132 rfl rfl ?_
 repeat' (first | refine y1 sg ?_ | refine y3 ?_ | (refine' y33 ent191 ?_ ?_; rotate_left 2; exact zOy hp hs H; rintro v N w ⟨x, p', rfl, rfl, hx, hb, hS⟩ H) | (with_reducible first | apply zB | apply zD | apply zC | apply zG) | refine zA ?_ | fail)
 exact zh (vs := [_]) ⟨zp rfl, trivial⟩ H ⟨x, p', rfl, rfl, hx, hb, hS⟩
theorem c_rU32 {w0 w : World} {G : zI} {pr : Nat} {s : ByteArray} {p : Rs} (hp : p.pos ≤ s.size) (hs : s.size ≤ 1073741824) (H : St w0 (rd pr s p :: G) w) :
  Calls Tryz.prog 48 [ptr pr].toArray w (zy (FixR pr s G p 4 .u32) w0) := by
 refine enter [.tmp 2] Tryz.func48 rfl Tryz.ntmps48 rfl rfl ?_
 repeat' (first | refine y1 sg ?_ | refine y3 ?_ | (refine' y33 ent118 ?_ ?_; rotate_left 2; exact zOz hp hs H; rintro v N w ⟨x, p', rfl, rfl, hx, hb, hS⟩ H) | (with_reducible first | apply zB | apply zD | apply zC | apply zG) | refine zA ?_ | fail)
 exact zh (vs := [_]) ⟨zp rfl, trivial⟩ H ⟨x, p', rfl, rfl, hx, hb, hS⟩
theorem c_rU64 {w0 w : World} {G : zI} {pr : Nat} {s : ByteArray} {p : Rs} (hp : p.pos ≤ s.size) (hs : s.size ≤ 1073741824) (H : St w0 (rd pr s p :: G) w) :
  Calls Tryz.prog 47 [ptr pr].toArray w (zy (FixR pr s G p 8 .u64) w0) := by
 refine enter [.tmp 2] Tryz.func47 rfl Tryz.ntmps47 rfl rfl ?_
 repeat' (first | refine y1 sg ?_ | refine y3 ?_ | (refine' y33 ent117 ?_ ?_; rotate_left 2; exact zO0 hp hs H; rintro v N w ⟨x, p', rfl, rfl, hx, hb, hS⟩ H) | (with_reducible first | apply zB | apply zD | apply zC | apply zG) | refine zA ?_ | fail)
 exact zh (vs := [_]) ⟨zp rfl, trivial⟩ H ⟨x, p', rfl, rfl, hx, hb, hS⟩
theorem zCI {w0 : World} {F : zI} {pr : Nat} {s : ByteArray} {p : Rs} (hF : Mem w0 F) (hm : rd pr s p ∈ F) : Calls Tryz.prog 49 [ptr pr].toArray w0 (Ret (.tuple #[.int .i64 p.e, .int .i64 p.to]) w0) := by
 refine enter [.tmp 2, .tmp 3] Tryz.func49 rfl Tryz.ntmps49 rfl rfl ?_
 have H := zE w0
 repeat' (first | refine y1 sg ?_ | refine y2 sg ?_ | refine y4 ?_ | ((with_reducible apply zAD); exact rfl; exact rfl; exact zJ sg rfl rfl (H.memF hF) hm rfl rfl) | (with_reducible first | apply zB | apply zD | apply zC | apply zG | apply zH) | (with_reducible apply zb; intro w hcl; replace H := H.ext hcl; clear hcl) | refine zA ?_ | refine y20 zZ ?_ | refine y22 ?_ | fail)
 exact zCC rfl rfl H.cl rfl
theorem zKq {w0 : World} {F : zI} {pr : Nat} {s : ByteArray} {p : Rs} (hp : p.pos ≤ s.size) (hs : s.size ≤ 1073741824) (hF : Mem w0 F) (hm : rd pr s p ∈ F) : Calls Tryz.prog 50 [ptr pr].toArray w0 (Ret (.int .i64 ((s.size - p.pos : Nat) : Int)) w0) := by
 refine enter [.tmp 2] Tryz.func50 rfl Tryz.ntmps50 rfl rfl ?_
 have H := zE w0
 repeat' (first | refine y1 sg ?_ | refine y2 sg ?_ | refine y4 ?_ | ((with_reducible apply zAD); exact rfl; exact rfl; exact zJ sg rfl rfl (H.memF hF) hm rfl rfl) | (with_reducible first | apply zB | apply zD | apply zC | apply zG | apply zH) | (with_reducible apply zb; intro w hcl; replace H := H.ext hcl; clear hcl) | refine zA ?_ | refine y20 zZ ?_ | refine y22 ?_ | fail)
 exact zO rfl H.cl (congrArg (Value.int .i64) (by rw [w64 (by omega) (by omega)]; omega))
def zHp (p : Rs) (n : Nat) : Int := if p.e = 0 ∧ p.pos < n then 4 else p.e
theorem c_Rend {w0 : World} {F : zI} {pr : Nat} {s : ByteArray} {p : Rs} (hp : p.pos ≤ s.size) (hs : s.size ≤ 1073741824) (hF : Mem w0 F) (hm : rd pr s p ∈ F) : Calls Tryz.prog 63 [ptr pr].toArray w0 (Ret (.int .i64 (zHp p s.size)) w0) := by
 refine enter [.tmp 2] Tryz.func63 rfl Tryz.ntmps63 rfl rfl ?_
 have H := zE w0
 repeat' (first | refine y1 sg ?_ | refine y3 ?_ | refine y5 sg ?_ | (refine' y30 zDY ?_ ?_; rotate_left; exact zCI (H.memF hF) hm; intro w hcl; replace H := H.ext hcl; clear hcl) | (refine' y30 ent50 ?_ ?_; rotate_left; exact zKq hp hs (H.memF hF) hm; intro w hcl; replace H := H.ext hcl; clear hcl) | refine y13 ?_ | refine y14 ?_ | (refine y17 ?_ ?_; all_goals intro h) | (with_reducible first | apply zB | apply zD | apply zC | apply zG | apply zH | apply zP) | refine zA ?_ | refine y22 ?_ | (refine y23 ?_ ?_; all_goals intro h) | fail)
 all_goals exact zO rfl H.cl (congrArg (Value.int .i64) (by unfold zHp; simp only [beq_iff_eq, decide_eq_true_eq, decide_eq_false_iff_not, beq_eq_false_iff_ne, gt_iff_lt] at *; (first | (rw [if_pos (by omega)]; done) | (rw [if_neg (by omega)]; done))))
theorem zNR {w0 : World} (s : ByteArray) : Calls Tryz.prog 45 [.string s].toArray w0 (zy (fun N v => ∃ b, v = ptr b ∧ N = [rd b s ⟨0, 0, 0, false⟩]) w0) := by
 refine enter [.tmp 2] Tryz.func45 rfl Tryz.ntmps45 rfl rfl ?_
 have H := zE w0
 repeat' (first | refine y1 sg ?_ | refine y3 ?_ | (refine y9 H ?_; intro b w H) | (with_reducible first | apply zB | apply zD | apply zC | apply zG) | refine zA ?_ | fail)
 exact zh (vs := [_]) ⟨zp rfl, trivial⟩ H ⟨_, rfl, rfl⟩
theorem c_Raw {w0 w : World} {G : zI} {pr : Nat} {s : ByteArray} {p : Rs} {q : Int} (n : Nat) (hq : q = (n : Int)) (hn : n ≤ 4611686018427387904) (he : p.e = 0) (hp : p.pos ≤ s.size) (hs : s.size ≤ 1073741824) (hn : p.pos + n ≤ s.size) (H : St w0 (rd pr s p :: G) w) :
  Calls Tryz.prog 46 [ptr pr, .int .i64 q].toArray w (zy (RdF pr s G ⟨p.pos + n, p.e, p.to, p.bad⟩ (.string (s.extract p.pos (p.pos + n)))) w0) := by
 subst hq
 have hmx : max (n : Int) 0 = (n : Int) := by omega
 refine enter [.tmp 4] Tryz.func46 rfl Tryz.ntmps46 rfl rfl ?_
 repeat' (first | refine y1 sg ?_ | refine y3 ?_ | (refine' y33 zBd ?_ ?_; rotate_left 2; exact zDJ n (by omega) he hs hn H; rintro v N w ⟨rfl, rfl⟩ H) | (with_reducible first | apply zB | apply zD | apply zC | apply zG) | refine zA ?_ | fail)
 exact zh (vs := [_]) ⟨zp rfl, trivial⟩ H ⟨rfl, rfl⟩
def zKr (most : Nat) (x : ByteArray) (l : List Nat) : Prop := x.size ≤ most ∧ l = short x.size ++ zT x
def TextR (pr : Nat) (s : ByteArray) (G : zI) (p : Rs) (most : Nat) : zI → Value → Prop := fun N v => ∃ (x : ByteArray) (p' : Rs), v = .string x ∧ N = rd pr s p' :: G ∧ x.size ≤ most ∧ p'.bad = p.bad ∧ Step (zT s) (zKr most) p p' x
theorem zKs {w0 w : World} {G : zI} {pr : Nat} {s : ByteArray} {p : Rs} (most : Nat) (hm : most ≤ 1073741824) (hp : p.pos ≤ s.size) (hs : s.size ≤ 1073741824) (H : St w0 (rd pr s p :: G) w) :
  Calls Tryz.prog 123 [ptr pr, .int .i64 (most : Int)].toArray w (zy (TextR pr s G p most) w0) := by
 have hlen := zU s
 by_cases he : p.e = 0
 ·have hd : decide (p.e = 0) = true := decide_eq_true he
  have hmw : IntKind.u64.wrap (if 0 > (most : Int) then 0 else (most : Int)) = (most : Int) := by rw [if_neg (by omega), zCH (by omega)]
  refine enter [.tmp 4] Tryz.func123 rfl Tryz.ntmps123 rfl rfl ?_
  repeat' (first | refine y1 sg ?_ | refine y3 ?_ | refine y7 sg H ?_ | (refine' y30 zEO ?_ ?_; rotate_left; exact hd ▸ zEP H.mem (List.Mem.head _); intro w hcl; replace H := H.ext hcl; clear hcl) | (refine' y33 zJM ?_ ?_; rotate_left 2; exact zGI most hmw (by omega) hp hs H; rintro v N w ⟨n, p', rfl, rfl, hn, hb, hS⟩ H) | (with_reducible first | apply zB | apply zD | apply zC | apply zH) | refine zA ?_ | refine y22 ?_ | fail)
  obtain ⟨hi, hsnd, hcpl⟩ := hS
  by_cases he' : p'.e = 0
  ·have hd' : (p'.e != 0) = false := by simp [he']
   have hz : IntKind.u64.wrap (IntKind.i64.wrap ((s.size : Int) - (p'.pos : Int))) = ((s.size - p'.pos : Nat) : Int) := by rw [w64 (by omega) (by omega), show (s.size : Int) - (p'.pos : Int) = ((s.size - p'.pos : Nat) : Int) by omega, zCH (by omega)]
   have hnn : IntKind.i64.wrap (n : Int) = (n : Int) := w64 (by omega) (by omega)
   by_cases hl : s.size < p'.pos + n
   ·have hlt : decide (IntKind.u64.wrap (IntKind.i64.wrap ((s.size : Int) - (p'.pos : Int))) < (n : Int)) = true := decide_eq_true (by rw [hz]; omega)
    repeat' (first | refine y1 sg ?_ | refine y2 sg ?_ | refine y3 ?_ | refine y4 ?_ | refine y8 sg H ?_ | (refine' y33 zGE ?_ ?_; rotate_left 2; exact zDj p.pos rfl H; rintro v N w ⟨rfl, rfl⟩ H) | (with_reducible first | apply zB | apply zD | apply zC | apply zG | apply zH | apply zP) | (with_reducible apply zb; intro w hcl; replace H := H.ext hcl; clear hcl) | refine zA ?_ | refine y20 zZ ?_ | (refine y23 ?_ ?_; all_goals (intro h; try (exfalso; first | ((rw [hd'] at h; cases h); done) | ((rw [hlt] at h; cases h); done)))) | fail)
    exact zh (vs := [_]) ⟨zp rfl, trivial⟩ H ⟨ByteArray.empty, _, rfl, rfl, Nat.zero_le _, hb, by simp only; omega, fun h => absurd h.1 (by simp), fun hl y l r hy hr => (by
     obtain ⟨hy1, rfl⟩ := hy
     rw [List.append_assoc] at hr
     obtain ⟨e1, e2, e3⟩ := hcpl hl y.size _ _ ⟨by omega, rfl⟩ hr
     have := congrArg List.length e3
     rw [List.length_drop, List.length_append, zU, zU] at this
     omega)⟩
   ·have hlt : decide (IntKind.u64.wrap (IntKind.i64.wrap ((s.size : Int) - (p'.pos : Int))) < (n : Int)) = false := decide_eq_false (by rw [hz]; omega)
    repeat' (first | refine y1 sg ?_ | refine y2 sg ?_ | refine y3 ?_ | refine y4 ?_ | refine y8 sg H ?_ | (refine' y33 ent46 ?_ ?_; rotate_left 2; exact c_Raw n hnn (by omega) he' (by omega) hs (by omega) H; rintro v N w ⟨rfl, rfl⟩ H) | (with_reducible first | apply zB | apply zD | apply zC | apply zG | apply zH) | (with_reducible apply zb; intro w hcl; replace H := H.ext hcl; clear hcl) | refine zA ?_ | refine y20 zZ ?_ | (refine y23 ?_ ?_; all_goals (intro h; try (exfalso; first | ((rw [hd'] at h; cases h); done) | ((rw [hlt] at h; cases h); done)))) | fail)
    have hx : zT (s.extract p'.pos (p'.pos + n)) = ((zT s).drop p'.pos).take n := by rw [zAG]; congr 1; omega
    have hxs : (s.extract p'.pos (p'.pos + n)).size = n := by rw [← zU, hx, List.length_take, List.length_drop]; omega
    have hdr : (zT s).drop p'.pos = zT (s.extract p'.pos (p'.pos + n)) ++ (zT s).drop (p'.pos + n) := by rw [hx, ← List.drop_drop, List.take_append_drop]
    refine zh (vs := [_]) ⟨zp rfl, trivial⟩ H ⟨_, _, rfl, rfl, by omega, hb, by simp only; omega, fun h => ?_, fun hl y l r hy hr => ?_⟩
    ·obtain ⟨h1, l, ⟨_, rfl⟩, h2⟩ := hsnd h
     exact ⟨h1, _, ⟨by omega, rfl⟩, by rw [h2, hxs, List.append_assoc]; exact congrArg _ hdr⟩
    ·obtain ⟨hy1, rfl⟩ := hy
     rw [List.append_assoc] at hr
     obtain ⟨e1, e2, e3⟩ := hcpl hl y.size _ _ ⟨by omega, rfl⟩ hr
     rw [hdr] at e3
     obtain ⟨e4, e5⟩ := List.append_inj e3 (by rw [zU, zU]; omega)
     exact ⟨e1, zCY e4, e5⟩
  ·have hd' : (p'.e != 0) = true := by simp [he']
   repeat' (first | refine y1 sg ?_ | (with_reducible first | apply zB | apply zD | apply zC | apply zG | apply zP) | refine zA ?_ | (refine y23 ?_ ?_; all_goals (intro h; try (exfalso; first | ((rw [hd'] at h; cases h); done)))) | fail)
   exact zh (vs := [_]) ⟨zp rfl, trivial⟩ H ⟨ByteArray.empty, _, rfl, rfl, Nat.zero_le _, hb, hi, fun h => absurd h.1 he', fun hl y l r hy hr => (by
    obtain ⟨hy1, rfl⟩ := hy
    rw [List.append_assoc] at hr
    exact absurd (hcpl hl y.size _ _ ⟨by omega, rfl⟩ hr).1.1 he')⟩
 ·have hd : decide (p.e = 0) = false := decide_eq_false he
  refine enter [.tmp 4] Tryz.func123 rfl Tryz.ntmps123 rfl rfl ?_
  repeat' (first | refine y1 sg ?_ | refine y3 ?_ | (refine' y30 zEO ?_ ?_; rotate_left; exact hd ▸ zEP H.mem (List.Mem.head _); intro w hcl; replace H := H.ext hcl; clear hcl) | (with_reducible first | apply zB | apply zD | apply zC | apply zG | apply zP) | refine zA ?_ | refine y21 ?_ | fail)
  exact zh (vs := [_]) ⟨zp rfl, trivial⟩ H ⟨ByteArray.empty, p, rfl, rfl, Nat.zero_le _, rfl, Step.dead (by omega) (fun h => he h.1) (fun h => he h.1)⟩
end Go.Proofs.YtggolnppckpdlaaGreat
set_option linter.unusedSimpArgs false
set_option linter.unusedVariables false
namespace Go.Proofs.YtggolnppckpdlaaGreat
open Go Go.Sk Go.RowKit
def zr (n m : Int) : Bool := decide (n ≥ 1) && decide (n ≤ m)
theorem zDK (n m : Int) (w : World) : Calls Tryz.prog 297 [.int .i64 n, .int .i64 m].toArray w (Ret (.bool (zr n m)) w) := by
 refine enter [.tmp 4] Tryz.func297 rfl Tryz.ntmps297 rfl rfl ?_
 have H := zE w
 repeat' (first | refine y1 sg ?_ | refine y5 sg ?_ | refine y13 ?_ | refine y14 ?_ | (refine y17 ?_ ?_; all_goals intro h) | (with_reducible first | apply zB | apply zD | apply zC | apply zG) | refine zA ?_ | fail)
 all_goals exact zO rfl H.cl (by simp [zr, h])
theorem zFG (n m : Int) (w : World) : Calls Tryz.prog 298 [.int .i64 n, .int .i64 m].toArray w (Ret (.bool (zr n m)) w) := by
 refine enter [.tmp 4] Tryz.func298 rfl Tryz.ntmps298 rfl rfl ?_
 have H := zE w
 repeat' (first | refine y1 sg ?_ | refine y5 sg ?_ | refine y13 ?_ | refine y14 ?_ | (refine y17 ?_ ?_; all_goals intro h) | (with_reducible first | apply zB | apply zD | apply zC | apply zG) | refine zA ?_ | fail)
 all_goals exact zO rfl H.cl (by simp [zr, h])
theorem c_in (n m : Int) (w : World) : Calls Tryz.prog 265 [.int .i64 n, .int .i64 m].toArray w (Ret (.bool (zr n m)) w) := by
 refine enter [.tmp 4] Tryz.func265 rfl Tryz.ntmps265 rfl rfl ?_
 have H := zE w
 repeat' (first | refine y1 sg ?_ | refine y5 sg ?_ | refine y13 ?_ | refine y14 ?_ | (refine y17 ?_ ?_; all_goals intro h) | (with_reducible first | apply zB | apply zD | apply zC | apply zG) | refine zA ?_ | fail)
 all_goals exact zO rfl H.cl (by simp [zr, h])
structure Bid where
 acct : Int
 amount : Int
 deriving DecidableEq, Inhabited
def Bid.cells (b : Bid) : List Value := [.int .i64 b.acct, .int .i64 b.amount]
structure Auc where
 id : Int
 seller : Int
 inst : Int
 sealed : Bool
 qty : Int
 reserve : Int
 step : Int
 fin : Int
 bids : List Bid
 deriving DecidableEq, Inhabited
def Auc.cells (x : Auc) (a : Option Addr) (cap : Nat) : List Value :=
 [.int .i64 x.id, .int .i64 x.seller, .int .i64 x.inst, .bool x.sealed, .int .i64 x.qty, .int .i64 x.reserve, .int .i64 x.step, .int .i64 x.fin, .slice a x.bids.length cap]
def bel (l : List Bid) (j : Nat) : List Value := (l.getD j default).cells
def Bids (F : zI) (a : Option Addr) (cap : Nat) (l : List Bid) : Prop := SlA F 2 a l.length cap (bel l)
theorem c_of (x : Auc) (a : Option Addr) (cap : Nat) (w : World) : Calls Tryz.prog 299 [.agg (x.cells a cap).toArray].toArray w (Ret (.iface (if x.sealed then 326 else 327) (.agg #[])) w) := by
 refine enter [.tmp 2] Tryz.func299 rfl Tryz.ntmps299 rfl rfl ?_
 have H := zE w
 repeat' (first | refine y1 sg ?_ | refine y3 ?_ | refine y7 sg H ?_ | (refine y9 H ?_; intro b w H) | (with_reducible first | apply zB | apply zD | apply zC | apply zG | apply zH | apply zP) | refine zA ?_ | (refine y23 ?_ ?_; all_goals intro h) | fail)
 all_goals exact zO rfl H.cl (by simp [h])
theorem zO1 (c d : Bid) (T : TypeId) (b : Nat) (w : World) (F : zI) (hF : Mem w F) (hm : (b, Obj.cells d.cells.toArray T (0, 0)) ∈ F) :
  Calls Tryz.prog 311 [.agg c.cells.toArray, .pointer (some ⟨b, 0, none⟩)].toArray w (Ret (.bool (c.acct == d.acct)) w) := by
 refine enter [.tmp 3] Tryz.func311 rfl Tryz.ntmps311 rfl rfl ?_
 have H := zE w
 repeat' (first | refine y1 sg ?_ | refine y3 ?_ | refine y7 sg H ?_ | (refine y9 H ?_; intro b w H) | (refine zf rfl rfl (zJ sg rfl rfl (H.memF hF) hm rfl rfl) ?_) | (with_reducible first | apply zB | apply zD | apply zC | apply zG) | refine zA ?_ | fail)
 all_goals exact zO rfl H.cl rfl
end Go.Proofs.YtggolnppckpdlaaGreat
set_option linter.unusedSimpArgs false
set_option linter.unusedVariables false
namespace Go.Proofs.YtggolnppckpdlaaGreat
open Go Go.Sk Go.RowKit
def zDy (p : Nat → Bool) : Nat → Nat → Int
 | _, 0 => -1
 | k, n + 1 => if p k then (k : Int) else zDy p (k + 1) n
def idx (p : Nat → Bool) (n : Nat) : Int := zDy p 0 n
theorem zDL (p : Nat → Bool) : ∀ (k s m : Nat), (∀ j, j < k → p (s + j) = false) → k ≤ m → zDy p s m = zDy p (s + k) (m - k)
 | 0, s, m, _, _ => rfl
 | k + 1, s, m, h, hm => by
   obtain ⟨m', rfl⟩ : ∃ m', m = m' + 1 := ⟨m - 1, by omega⟩
   have h0 := h 0 (by omega)
   simp only [Nat.add_zero] at h0
   rw [zDy, h0]
   simp only [Bool.false_eq_true, if_false]
   rw [zDL p k (s + 1) m' (fun j hj => by have := h (j + 1) (by omega); rwa [show s + 1 + j = s + (j + 1) by omega]) (by omega)]
   congr 1 <;> omega
theorem zA7 {p : Nat → Bool} {n k : Nat} (hk : k < n) (h : ∀ j, j < k → p j = false) (h1 : p k = true) : idx p n = k := by
 unfold idx
 rw [zDL p k 0 n (by simpa using h) (by omega)]
 obtain ⟨m, hm⟩ : ∃ m, n - k = m + 1 := ⟨n - k - 1, by omega⟩
 rw [hm, zDy, Nat.zero_add, h1]; rfl
theorem zAq {p : Nat → Bool} {n : Nat} (h : ∀ j, j < n → p j = false) : idx p n = -1 := by
 unfold idx
 rw [zDL p n 0 n (by simpa using h) (Nat.le_refl _), Nat.sub_self]; rfl
theorem zAC (p : Nat → Bool) (n : Nat) : (∃ k, k < n ∧ (∀ j, j < k → p j = false) ∧ p k = true ∧ idx p n = k) ∨ ((∀ j, j < n → p j = false) ∧ idx p n = -1) := by
 by_cases h : ∃ k, k < n ∧ p k = true
 ·have : ∃ k, k < n ∧ (∀ j, j < k → p j = false) ∧ p k = true := by
   obtain ⟨k, hk⟩ := h
   induction k using Nat.strongRecOn with
   | _ k ih =>
     by_cases h2 : ∃ j, j < k ∧ p j = true
     ·obtain ⟨j, hj, hp⟩ := h2
      exact ih j hj ⟨by omega, hp⟩
     ·exact ⟨k, hk.1, fun j hj => by cases hp : p j with | false => rfl | true => exact absurd ⟨j, hj, hp⟩ h2, hk.2⟩
  obtain ⟨k, h1, h2, h3⟩ := this
  exact .inl ⟨k, h1, h2, h3, zA7 h1 h2 h3⟩
 ·have h' : ∀ j, j < n → p j = false := fun j hj => by cases hp : p j with | false => rfl | true => exact absurd ⟨j, hj, hp⟩ h
  exact .inr ⟨h', zAq h'⟩
theorem zJW {n cap : Nat} {a : Option Addr} {el : Nat → List Value} {f : FuncId} {caps : List Value} {F : zI} (p : Nat → Bool) (w0 : World) (hF : Mem w0 F) (hs : SlA F 2 a n cap el) (hf : Ent Tryz.prog f)
  (hp : ∀ j, j < n → ∀ w, Cl w0 w → Calls Tryz.prog f ([Value.agg (el j).toArray] ++ caps).toArray w (Ret (.bool (p j)) w)) :
  Calls Tryz.prog 282 [.slice a n cap, .func (.func f) #[] caps.toArray].toArray w0 (Ret (.int .i64 (idx p n)) w0) := by
 obtain ⟨hn, hc, b, off, cs, T, fr, hs⟩ := hs
 refine enter [.tmp 4] Tryz.func282 rfl Tryz.ntmps282 rfl rfl ?_
 have H := zE w0
 repeat' (first | refine y1 sg ?_ | (with_reducible first | apply zB | apply zD | apply zC | apply zF) | refine zA ?_ | fail)
 refine zK [(4, 5), (8, 18)] (fun k : Nat => [(8, .int .i64 (k : Int))]) (fun k w => k ≤ n ∧ (∀ j, j < k → p j = false) ∧ St w0 [] w) (fun k => n - k) 0 ⟨rfl, trivial⟩ ⟨Nat.zero_le _, fun j hj => by omega, H⟩ ?_
 clear H
 rintro k g w ⟨hk, hpk, H⟩
 repeat' (first | refine y1 sg ?_ | (with_reducible first | apply zB | apply zD | apply zC) | refine zA ?_ | fail)
 refine zL rfl (fun h => ?_) (fun h => ?_)
 ·have hlt : k < n := by simpa using h
  repeat' (first | refine y1 sg ?_ | refine y3 ?_ | (refine zf rfl rfl (zc sg hs rfl rfl rfl rfl rfl rfl rfl rfl (by omega) (by omega)) ?_) | (refine zf rfl rfl (zCD sg hs (H.memF hF) rfl rfl rfl rfl rfl hlt) ?_) | (refine OX.call rfl rfl (zAK hf rfl rfl rfl) (hp k hlt _ H.cl) ?_; intro w hcl; replace H := H.ext hcl; clear hcl) | (with_reducible first | apply zB | apply zD | apply zC | apply zF | apply zH) | refine zA ?_ | fail)
  refine zL rfl (fun h2 => ?_) (fun h2 => ?_)
  ·repeat' (first | refine y1 sg ?_ | (with_reducible first | apply zB | apply zD | apply zC | apply zG | apply zP | apply za) | refine zA ?_ | fail)
   exact zO rfl H.cl (by rw [zA7 hlt hpk h2])
  ·repeat' (first | refine y1 sg ?_ | (with_reducible first | apply zB | apply zD | apply zH) | refine zA ?_ | fail)
   refine zM (k + 1) rfl ⟨zV (by omega), trivial⟩ ⟨hlt, fun j hj => ?_, H⟩ (by omega)
   by_cases hj' : j = k
   ·rw [hj', h2]
   ·exact hpk j (by omega)
 ·repeat' (first | refine y1 sg ?_ | (with_reducible first | apply zB | apply zD | apply zC | apply zG | apply zN | apply zW) | refine zA ?_ | refine y24 ?_ | fail)
  have hkn : k = n := by simp at h; omega
  exact zO rfl H.cl (by rw [zAq (hkn ▸ hpk)])
theorem zEC {n cap : Nat} {a : Option Addr} {el : Nat → List Value} {f : FuncId} {caps : List Value} {F : zI} (p : Nat → Bool) (w0 : World) (hF : Mem w0 F) (hs : SlA F 2 a n cap el) (hf : Ent Tryz.prog f)
  (hp : ∀ j, j < n → ∀ w, Cl w0 w → Calls Tryz.prog f ([Value.agg (el j).toArray] ++ caps).toArray w (Ret (.bool (p j)) w)) :
  Calls Tryz.prog 245 [.slice a n cap, .func (.func f) #[] caps.toArray].toArray w0 (Ret (.bool (decide (idx p n ≥ 0))) w0) := by
 refine enter [.tmp 4] Tryz.func245 rfl Tryz.ntmps245 rfl rfl ?_
 have H := zE w0
 repeat' (first | refine y1 sg ?_ | refine y3 ?_ | (refine' y30 ent282 ?_ ?_; rotate_left; exact zJW p _ (H.memF hF) hs hf (fun j hj w' hw' => hp j hj w' (H.cl.trans hw')); intro w hcl; replace H := H.ext hcl; clear hcl) | (with_reducible first | apply zB | apply zD | apply zC | apply zG) | refine zA ?_ | fail)
 all_goals exact zO rfl H.cl rfl
theorem zJX {n cap : Nat} {a : Option Addr} {el : Nat → List Value} {f : FuncId} {caps : List Value} {F : zI} (p : Nat → Bool) (w0 : World) (hF : Mem w0 F) (hs : SlA F 9 a n cap el) (hf : Ent Tryz.prog f)
  (hp : ∀ j, j < n → ∀ w, Cl w0 w → Calls Tryz.prog f ([Value.agg (el j).toArray] ++ caps).toArray w (Ret (.bool (p j)) w)) :
  Calls Tryz.prog 284 [.slice a n cap, .func (.func f) #[] caps.toArray].toArray w0 (Ret (.int .i64 (idx p n)) w0) := by
 obtain ⟨hn, hc, b, off, cs, T, fr, hs⟩ := hs
 refine enter [.tmp 4] Tryz.func284 rfl Tryz.ntmps284 rfl rfl ?_
 have H := zE w0
 repeat' (first | refine y1 sg ?_ | (with_reducible first | apply zB | apply zD | apply zC | apply zF) | refine zA ?_ | fail)
 refine zK [(4, 5), (8, 18)] (fun k : Nat => [(8, .int .i64 (k : Int))]) (fun k w => k ≤ n ∧ (∀ j, j < k → p j = false) ∧ St w0 [] w) (fun k => n - k) 0 ⟨rfl, trivial⟩ ⟨Nat.zero_le _, fun j hj => by omega, H⟩ ?_
 clear H
 rintro k g w ⟨hk, hpk, H⟩
 repeat' (first | refine y1 sg ?_ | (with_reducible first | apply zB | apply zD | apply zC) | refine zA ?_ | fail)
 refine zL rfl (fun h => ?_) (fun h => ?_)
 ·have hlt : k < n := by simpa using h
  repeat' (first | refine y1 sg ?_ | refine y3 ?_ | (refine zf rfl rfl (zc sg hs rfl rfl rfl rfl rfl rfl rfl rfl (by omega) (by omega)) ?_) | (refine zf rfl rfl (zCD sg hs (H.memF hF) rfl rfl rfl rfl rfl hlt) ?_) | (refine OX.call rfl rfl (zAK hf rfl rfl rfl) (hp k hlt _ H.cl) ?_; intro w hcl; replace H := H.ext hcl; clear hcl) | (with_reducible first | apply zB | apply zD | apply zC | apply zF | apply zH) | refine zA ?_ | fail)
  refine zL rfl (fun h2 => ?_) (fun h2 => ?_)
  ·repeat' (first | refine y1 sg ?_ | (with_reducible first | apply zB | apply zD | apply zC | apply zG | apply zP | apply za) | refine zA ?_ | fail)
   exact zO rfl H.cl (by rw [zA7 hlt hpk h2])
  ·repeat' (first | refine y1 sg ?_ | (with_reducible first | apply zB | apply zD | apply zH) | refine zA ?_ | fail)
   refine zM (k + 1) rfl ⟨zV (by omega), trivial⟩ ⟨hlt, fun j hj => ?_, H⟩ (by omega)
   by_cases hj' : j = k
   ·rw [hj', h2]
   ·exact hpk j (by omega)
 ·repeat' (first | refine y1 sg ?_ | (with_reducible first | apply zB | apply zD | apply zC | apply zG | apply zN | apply zW) | refine zA ?_ | refine y24 ?_ | fail)
  have hkn : k = n := by simp at h; omega
  exact zO rfl H.cl (by rw [zAq (hkn ▸ hpk)])
end Go.Proofs.YtggolnppckpdlaaGreat
set_option linter.unusedSimpArgs false
set_option linter.unusedVariables false
namespace Go.Proofs.YtggolnppckpdlaaGreat
open Go Go.Sk Go.RowKit
theorem zJY {n cap : Nat} {a : Option Addr} {el : Nat → List Value} {f : FuncId} {caps : List Value} {F : zI} (p : Nat → Bool) (w0 : World) (hF : Mem w0 F) (hs : SlA F 6 a n cap el) (hf : Ent Tryz.prog f)
  (hp : ∀ j, j < n → ∀ w, Cl w0 w → Calls Tryz.prog f ([Value.agg (el j).toArray] ++ caps).toArray w (Ret (.bool (p j)) w)) :
  Calls Tryz.prog 281 [.slice a n cap, .func (.func f) #[] caps.toArray].toArray w0 (Ret (.int .i64 (idx p n)) w0) := by
 obtain ⟨hn, hc, b, off, cs, T, fr, hs⟩ := hs
 refine enter [.tmp 4] Tryz.func281 rfl Tryz.ntmps281 rfl rfl ?_
 have H := zE w0
 repeat' (first | refine y1 sg ?_ | (with_reducible first | apply zB | apply zD | apply zC | apply zF) | refine zA ?_ | fail)
 refine zK [(4, 5), (8, 18)] (fun k : Nat => [(8, .int .i64 (k : Int))]) (fun k w => k ≤ n ∧ (∀ j, j < k → p j = false) ∧ St w0 [] w) (fun k => n - k) 0 ⟨rfl, trivial⟩ ⟨Nat.zero_le _, fun j hj => by omega, H⟩ ?_
 clear H
 rintro k g w ⟨hk, hpk, H⟩
 repeat' (first | refine y1 sg ?_ | (with_reducible first | apply zB | apply zD | apply zC) | refine zA ?_ | fail)
 refine zL rfl (fun h => ?_) (fun h => ?_)
 ·have hlt : k < n := by simpa using h
  repeat' (first | refine y1 sg ?_ | refine y3 ?_ | (refine zf rfl rfl (zc sg hs rfl rfl rfl rfl rfl rfl rfl rfl (by omega) (by omega)) ?_) | (refine zf rfl rfl (zCD sg hs (H.memF hF) rfl rfl rfl rfl rfl hlt) ?_) | (refine OX.call rfl rfl (zAK hf rfl rfl rfl) (hp k hlt _ H.cl) ?_; intro w hcl; replace H := H.ext hcl; clear hcl) | (with_reducible first | apply zB | apply zD | apply zC | apply zF | apply zH) | refine zA ?_ | fail)
  refine zL rfl (fun h2 => ?_) (fun h2 => ?_)
  ·repeat' (first | refine y1 sg ?_ | (with_reducible first | apply zB | apply zD | apply zC | apply zG | apply zP | apply za) | refine zA ?_ | fail)
   exact zO rfl H.cl (by rw [zA7 hlt hpk h2])
  ·repeat' (first | refine y1 sg ?_ | (with_reducible first | apply zB | apply zD | apply zH) | refine zA ?_ | fail)
   refine zM (k + 1) rfl ⟨zV (by omega), trivial⟩ ⟨hlt, fun j hj => ?_, H⟩ (by omega)
   by_cases hj' : j = k
   ·rw [hj', h2]
   ·exact hpk j (by omega)
 ·repeat' (first | refine y1 sg ?_ | (with_reducible first | apply zB | apply zD | apply zC | apply zG | apply zN | apply zW) | refine zA ?_ | refine y24 ?_ | fail)
  have hkn : k = n := by simp at h; omega
  exact zO rfl H.cl (by rw [zAq (hkn ▸ hpk)])
theorem zED {n cap : Nat} {a : Option Addr} {el : Nat → List Value} {f : FuncId} {caps : List Value} {F : zI} (p : Nat → Bool) (w0 : World) (hF : Mem w0 F) (hs : SlA F 6 a n cap el) (hf : Ent Tryz.prog f)
  (hp : ∀ j, j < n → ∀ w, Cl w0 w → Calls Tryz.prog f ([Value.agg (el j).toArray] ++ caps).toArray w (Ret (.bool (p j)) w)) :
  Calls Tryz.prog 241 [.slice a n cap, .func (.func f) #[] caps.toArray].toArray w0 (Ret (.bool (decide (idx p n ≥ 0))) w0) := by
 refine enter [.tmp 4] Tryz.func241 rfl Tryz.ntmps241 rfl rfl ?_
 have H := zE w0
 repeat' (first | refine y1 sg ?_ | refine y3 ?_ | (refine' y30 ent281 ?_ ?_; rotate_left; exact zJY p _ (H.memF hF) hs hf (fun j hj w' hw' => hp j hj w' (H.cl.trans hw')); intro w hcl; replace H := H.ext hcl; clear hcl) | (with_reducible first | apply zB | apply zD | apply zC | apply zG) | refine zA ?_ | fail)
 all_goals exact zO rfl H.cl rfl
theorem zJZ {n cap : Nat} {a : Option Addr} {el : Nat → List Value} {f : FuncId} {caps : List Value} {F : zI} (p : Nat → Bool) (w0 : World) (hF : Mem w0 F) (hs : SlA F 4 a n cap el) (hf : Ent Tryz.prog f)
  (hp : ∀ j, j < n → ∀ w, Cl w0 w → Calls Tryz.prog f ([Value.agg (el j).toArray] ++ caps).toArray w (Ret (.bool (p j)) w)) :
  Calls Tryz.prog 277 [.slice a n cap, .func (.func f) #[] caps.toArray].toArray w0 (Ret (.int .i64 (idx p n)) w0) := by
 obtain ⟨hn, hc, b, off, cs, T, fr, hs⟩ := hs
 refine enter [.tmp 4] Tryz.func277 rfl Tryz.ntmps277 rfl rfl ?_
 have H := zE w0
 repeat' (first | refine y1 sg ?_ | (with_reducible first | apply zB | apply zD | apply zC | apply zF) | refine zA ?_ | fail)
 refine zK [(4, 5), (8, 18)] (fun k : Nat => [(8, .int .i64 (k : Int))]) (fun k w => k ≤ n ∧ (∀ j, j < k → p j = false) ∧ St w0 [] w) (fun k => n - k) 0 ⟨rfl, trivial⟩ ⟨Nat.zero_le _, fun j hj => by omega, H⟩ ?_
 clear H
 rintro k g w ⟨hk, hpk, H⟩
 repeat' (first | refine y1 sg ?_ | (with_reducible first | apply zB | apply zD | apply zC) | refine zA ?_ | fail)
 refine zL rfl (fun h => ?_) (fun h => ?_)
 ·have hlt : k < n := by simpa using h
  repeat' (first | refine y1 sg ?_ | refine y3 ?_ | (refine zf rfl rfl (zc sg hs rfl rfl rfl rfl rfl rfl rfl rfl (by omega) (by omega)) ?_) | (refine zf rfl rfl (zCD sg hs (H.memF hF) rfl rfl rfl rfl rfl hlt) ?_) | (refine OX.call rfl rfl (zAK hf rfl rfl rfl) (hp k hlt _ H.cl) ?_; intro w hcl; replace H := H.ext hcl; clear hcl) | (with_reducible first | apply zB | apply zD | apply zC | apply zF | apply zH) | refine zA ?_ | fail)
  refine zL rfl (fun h2 => ?_) (fun h2 => ?_)
  ·repeat' (first | refine y1 sg ?_ | (with_reducible first | apply zB | apply zD | apply zC | apply zG | apply zP | apply za) | refine zA ?_ | fail)
   exact zO rfl H.cl (by rw [zA7 hlt hpk h2])
  ·repeat' (first | refine y1 sg ?_ | (with_reducible first | apply zB | apply zD | apply zH) | refine zA ?_ | fail)
   refine zM (k + 1) rfl ⟨zV (by omega), trivial⟩ ⟨hlt, fun j hj => ?_, H⟩ (by omega)
   by_cases hj' : j = k
   ·rw [hj', h2]
   ·exact hpk j (by omega)
 ·repeat' (first | refine y1 sg ?_ | (with_reducible first | apply zB | apply zD | apply zC | apply zG | apply zN | apply zW) | refine zA ?_ | refine y24 ?_ | fail)
  have hkn : k = n := by simp at h; omega
  exact zO rfl H.cl (by rw [zAq (hkn ▸ hpk)])
theorem zGw {n cap : Nat} {a : Option Addr} {el : Nat → List Value} {f : FuncId} {caps : List Value} {F : zI} (p : Nat → Bool) (w0 : World) (hF : Mem w0 F) (hs : SlA F 4 a n cap el) (hf : Ent Tryz.prog f)
  (hp : ∀ j, j < n → ∀ w, Cl w0 w → Calls Tryz.prog f ([Value.agg (el j).toArray] ++ caps).toArray w (Ret (.bool (p j)) w)) :
  Calls Tryz.prog 237 [.slice a n cap, .func (.func f) #[] caps.toArray].toArray w0 (Ret (.bool (decide (idx p n ≥ 0))) w0) := by
 refine enter [.tmp 4] Tryz.func237 rfl Tryz.ntmps237 rfl rfl ?_
 have H := zE w0
 repeat' (first | refine y1 sg ?_ | refine y3 ?_ | (refine' y30 ent277 ?_ ?_; rotate_left; exact zJZ p _ (H.memF hF) hs hf (fun j hj w' hw' => hp j hj w' (H.cl.trans hw')); intro w hcl; replace H := H.ext hcl; clear hcl) | (with_reducible first | apply zB | apply zD | apply zC | apply zG) | refine zA ?_ | fail)
 all_goals exact zO rfl H.cl rfl
theorem zJa {n cap : Nat} {a : Option Addr} {el : Nat → List Value} {f : FuncId} {caps : List Value} {F : zI} (p : Nat → Bool) (w0 : World) (hF : Mem w0 F) (hs : SlA F 4 a n cap el) (hf : Ent Tryz.prog f)
  (hp : ∀ j, j < n → ∀ w, Cl w0 w → Calls Tryz.prog f ([Value.agg (el j).toArray] ++ caps).toArray w (Ret (.bool (p j)) w)) :
  Calls Tryz.prog 220 [.slice a n cap, .func (.func f) #[] caps.toArray].toArray w0 (Ret (.int .i64 (idx p n)) w0) := by
 obtain ⟨hn, hc, b, off, cs, T, fr, hs⟩ := hs
 refine enter [.tmp 4] Tryz.func220 rfl Tryz.ntmps220 rfl rfl ?_
 have H := zE w0
 repeat' (first | refine y1 sg ?_ | (with_reducible first | apply zB | apply zD | apply zC | apply zF) | refine zA ?_ | fail)
 refine zK [(4, 5), (8, 18)] (fun k : Nat => [(8, .int .i64 (k : Int))]) (fun k w => k ≤ n ∧ (∀ j, j < k → p j = false) ∧ St w0 [] w) (fun k => n - k) 0 ⟨rfl, trivial⟩ ⟨Nat.zero_le _, fun j hj => by omega, H⟩ ?_
 clear H
 rintro k g w ⟨hk, hpk, H⟩
 repeat' (first | refine y1 sg ?_ | (with_reducible first | apply zB | apply zD | apply zC) | refine zA ?_ | fail)
 refine zL rfl (fun h => ?_) (fun h => ?_)
 ·have hlt : k < n := by simpa using h
  repeat' (first | refine y1 sg ?_ | refine y3 ?_ | (refine zf rfl rfl (zc sg hs rfl rfl rfl rfl rfl rfl rfl rfl (by omega) (by omega)) ?_) | (refine zf rfl rfl (zCD sg hs (H.memF hF) rfl rfl rfl rfl rfl hlt) ?_) | (refine OX.call rfl rfl (zAK hf rfl rfl rfl) (hp k hlt _ H.cl) ?_; intro w hcl; replace H := H.ext hcl; clear hcl) | (with_reducible first | apply zB | apply zD | apply zC | apply zF | apply zH) | refine zA ?_ | fail)
  refine zL rfl (fun h2 => ?_) (fun h2 => ?_)
  ·repeat' (first | refine y1 sg ?_ | (with_reducible first | apply zB | apply zD | apply zC | apply zG | apply zP | apply za) | refine zA ?_ | fail)
   exact zO rfl H.cl (by rw [zA7 hlt hpk h2])
  ·repeat' (first | refine y1 sg ?_ | (with_reducible first | apply zB | apply zD | apply zH) | refine zA ?_ | fail)
   refine zM (k + 1) rfl ⟨zV (by omega), trivial⟩ ⟨hlt, fun j hj => ?_, H⟩ (by omega)
   by_cases hj' : j = k
   ·rw [hj', h2]
   ·exact hpk j (by omega)
 ·repeat' (first | refine y1 sg ?_ | (with_reducible first | apply zB | apply zD | apply zC | apply zG | apply zN | apply zW) | refine zA ?_ | refine y24 ?_ | fail)
  have hkn : k = n := by simp at h; omega
  exact zO rfl H.cl (by rw [zAq (hkn ▸ hpk)])
theorem zGx {n cap : Nat} {a : Option Addr} {el : Nat → List Value} {f : FuncId} {caps : List Value} {F : zI} (p : Nat → Bool) (w0 : World) (hF : Mem w0 F) (hs : SlA F 4 a n cap el) (hf : Ent Tryz.prog f)
  (hp : ∀ j, j < n → ∀ w, Cl w0 w → Calls Tryz.prog f ([Value.agg (el j).toArray] ++ caps).toArray w (Ret (.bool (p j)) w)) :
  Calls Tryz.prog 176 [.slice a n cap, .func (.func f) #[] caps.toArray].toArray w0 (Ret (.bool (decide (idx p n ≥ 0))) w0) := by
 refine enter [.tmp 4] Tryz.func176 rfl Tryz.ntmps176 rfl rfl ?_
 have H := zE w0
 repeat' (first | refine y1 sg ?_ | refine y3 ?_ | (refine' y30 ent220 ?_ ?_; rotate_left; exact zJa p _ (H.memF hF) hs hf (fun j hj w' hw' => hp j hj w' (H.cl.trans hw')); intro w hcl; replace H := H.ext hcl; clear hcl) | (with_reducible first | apply zB | apply zD | apply zC | apply zG) | refine zA ?_ | fail)
 all_goals exact zO rfl H.cl rfl
theorem zGy {n cap : Nat} {a : Option Addr} {el : Nat → List Value} {f : FuncId} {caps : List Value} {F : zI} (p : Nat → Bool) (w0 : World) (hF : Mem w0 F) (hs : SlA F 9 a n cap el) (hf : Ent Tryz.prog f)
  (hp : ∀ j, j < n → ∀ w, Cl w0 w → Calls Tryz.prog f ([Value.agg (el j).toArray] ++ caps).toArray w (Ret (.bool (p j)) w)) :
  Calls Tryz.prog 247 [.slice a n cap, .func (.func f) #[] caps.toArray].toArray w0 (Ret (.bool (decide (idx p n ≥ 0))) w0) := by
 refine enter [.tmp 4] Tryz.func247 rfl Tryz.ntmps247 rfl rfl ?_
 have H := zE w0
 repeat' (first | refine y1 sg ?_ | refine y3 ?_ | (refine' y30 ent284 ?_ ?_; rotate_left; exact zJX p _ (H.memF hF) hs hf (fun j hj w' hw' => hp j hj w' (H.cl.trans hw')); intro w hcl; replace H := H.ext hcl; clear hcl) | (with_reducible first | apply zB | apply zD | apply zC | apply zG) | refine zA ?_ | fail)
 all_goals exact zO rfl H.cl rfl
end Go.Proofs.YtggolnppckpdlaaGreat
set_option linter.unusedSimpArgs false
set_option linter.unusedVariables false
namespace Go.Proofs.YtggolnppckpdlaaGreat
open Go Go.Sk Go.RowKit
def zFH (x y : Int) : Int := if x < y then -1 else if x > y then 1 else 0
theorem zKt (x : Int) (w : World) : Calls Tryz.prog 250 [.int .i64 x].toArray w (Ret (.bool false) w) := by
 refine enter [.tmp 2] Tryz.func250 rfl Tryz.ntmps250 rfl rfl ?_
 have H := zE w
 repeat' (first | refine y1 sg ?_ | refine y2 sg ?_ | refine y3 ?_ | refine y4 ?_ | refine y5 sg ?_ | refine y6 sg ?_ | refine y7 sg H ?_ | refine y8 sg H ?_ | (refine y9 H ?_; intro b w H) | (refine y10 sg H ?_; intro b w H) | (refine y11 sg H ?_; intro w H) | refine y12 ?_ | refine y13 ?_ | refine y14 ?_ | refine y15 ?_ | refine y16 ?_ | (refine y17 ?_ ?_; all_goals intro h) | (refine y18 ?_ ?_; all_goals intro h) | (with_reducible first | apply OW.app | apply OW.app0 | apply QW.app | apply QW.app0 | apply zB | apply zD | apply zC | apply zF | apply zG | apply zN | apply zH | apply zP | apply zW | apply zDX | apply za) | (with_reducible apply zb; intro w hcl; replace H := H.ext hcl; clear hcl) | refine y19 ?_ | refine zA ?_ | refine y20 zZ ?_ | refine y24 ?_ | refine y25 ?_ | refine y21 ?_ | refine y22 ?_ | (refine y23 ?_ ?_; all_goals intro h) | fail)
 exact zO rfl H.cl (by simp)
theorem zFI (x y : Int) (w : World) : Calls Tryz.prog 215 [.int .i64 x, .int .i64 y].toArray w (Ret (.int .i64 (zFH x y)) w) := by
 refine enter [.tmp 4] Tryz.func215 rfl Tryz.ntmps215 rfl rfl ?_
 have H := zE w
 repeat' (first | refine y1 sg ?_ | refine y2 sg ?_ | refine y3 ?_ | refine y4 ?_ | refine y5 sg ?_ | refine y6 sg ?_ | refine y7 sg H ?_ | refine y8 sg H ?_ | (refine y9 H ?_; intro b w H) | (refine y10 sg H ?_; intro b w H) | (refine y11 sg H ?_; intro w H) | refine y12 ?_ | (refine' y30 zM8 ?_ ?_; rotate_left; exact zKt _ _; intro w hcl; replace H := H.ext hcl; clear hcl) | (refine' y31 zM8 ?_ ?_; rotate_left; exact (fun _ hcl => zKt _ _)) | refine y13 ?_ | refine y14 ?_ | refine y15 ?_ | refine y16 ?_ | (refine y17 ?_ ?_; all_goals intro h) | (refine y18 ?_ ?_; all_goals intro h) | (with_reducible first | apply OW.app | apply OW.app0 | apply QW.app | apply QW.app0 | apply zB | apply zD | apply zC | apply zF | apply zG | apply zN | apply zH | apply zP | apply zW | apply zDX | apply za) | (with_reducible apply zb; intro w hcl; replace H := H.ext hcl; clear hcl) | refine y19 ?_ | refine zA ?_ | refine y20 zZ ?_ | refine y24 ?_ | refine y25 ?_ | refine y21 ?_ | refine y22 ?_ | (refine y23 ?_ ?_; all_goals intro h) | fail)
 all_goals simp only [decide_eq_true_eq, decide_eq_false_iff_not] at *
 all_goals exact zO rfl H.cl (congrArg (Value.int .i64) (by unfold zFH; split <;> (try split) <;> omega))
theorem zIa (x : Int) (w : World) : Calls Tryz.prog 249 [.int .i64 x].toArray w (Ret (.bool false) w) := by
 refine enter [.tmp 2] Tryz.func249 rfl Tryz.ntmps249 rfl rfl ?_
 have H := zE w
 repeat' (first | refine y1 sg ?_ | refine y2 sg ?_ | refine y3 ?_ | refine y4 ?_ | refine y5 sg ?_ | refine y6 sg ?_ | refine y7 sg H ?_ | refine y8 sg H ?_ | (refine y9 H ?_; intro b w H) | (refine y10 sg H ?_; intro b w H) | (refine y11 sg H ?_; intro w H) | refine y12 ?_ | refine y13 ?_ | refine y14 ?_ | refine y15 ?_ | refine y16 ?_ | (refine y17 ?_ ?_; all_goals intro h) | (refine y18 ?_ ?_; all_goals intro h) | (with_reducible first | apply OW.app | apply OW.app0 | apply QW.app | apply QW.app0 | apply zB | apply zD | apply zC | apply zF | apply zG | apply zN | apply zH | apply zP | apply zW | apply zDX | apply za) | (with_reducible apply zb; intro w hcl; replace H := H.ext hcl; clear hcl) | refine y19 ?_ | refine zA ?_ | refine y20 zZ ?_ | refine y24 ?_ | refine y25 ?_ | refine y21 ?_ | refine y22 ?_ | (refine y23 ?_ ?_; all_goals intro h) | fail)
 exact zO rfl H.cl (by simp)
theorem zEQ (x y : Int) (w : World) : Calls Tryz.prog 214 [.int .i64 x, .int .i64 y].toArray w (Ret (.int .i64 (zFH x y)) w) := by
 refine enter [.tmp 4] Tryz.func214 rfl Tryz.ntmps214 rfl rfl ?_
 have H := zE w
 repeat' (first | refine y1 sg ?_ | refine y2 sg ?_ | refine y3 ?_ | refine y4 ?_ | refine y5 sg ?_ | refine y6 sg ?_ | refine y7 sg H ?_ | refine y8 sg H ?_ | (refine y9 H ?_; intro b w H) | (refine y10 sg H ?_; intro b w H) | (refine y11 sg H ?_; intro w H) | refine y12 ?_ | (refine' y30 zM7 ?_ ?_; rotate_left; exact zIa _ _; intro w hcl; replace H := H.ext hcl; clear hcl) | (refine' y31 zM7 ?_ ?_; rotate_left; exact (fun _ hcl => zIa _ _)) | refine y13 ?_ | refine y14 ?_ | refine y15 ?_ | refine y16 ?_ | (refine y17 ?_ ?_; all_goals intro h) | (refine y18 ?_ ?_; all_goals intro h) | (with_reducible first | apply OW.app | apply OW.app0 | apply QW.app | apply QW.app0 | apply zB | apply zD | apply zC | apply zF | apply zG | apply zN | apply zH | apply zP | apply zW | apply zDX | apply za) | (with_reducible apply zb; intro w hcl; replace H := H.ext hcl; clear hcl) | refine y19 ?_ | refine zA ?_ | refine y20 zZ ?_ | refine y24 ?_ | refine y25 ?_ | refine y21 ?_ | refine y22 ?_ | (refine y23 ?_ ?_; all_goals intro h) | fail)
 all_goals simp only [decide_eq_true_eq, decide_eq_false_iff_not] at *
 all_goals exact zO rfl H.cl (congrArg (Value.int .i64) (by unfold zFH; split <;> (try split) <;> omega))
end Go.Proofs.YtggolnppckpdlaaGreat
