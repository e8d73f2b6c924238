/- Texts of ours, joined: the steps of the proof, or the claim's theorem. -/
import Derived.Test.YtggolnppckpdlaaGreatT03
import Derived.Test.YtggolnppckpdlaaGreatT04
set_option linter.unusedSimpArgs false
set_option linter.unusedVariables false
namespace Go.Proofs.YtggolnppckpdlaaGreat
open Go Go.Sk Go.RowKit
attribute [local irreducible] Go.Calls
def Wr (M : zI) (pw : Nat) (l : List Nat) : Prop := ∃ a cap M2, M = cb pw [.slice a l.length cap] 90 :: M2 ∧ Own M2 5 1 a l.length cap (wrB l)
def WrR (G : zI) (pw : Nat) (l : List Nat) : zI → Value → Prop := fun N v => v = .tuple #[] ∧ ∃ M', N = M' ++ G ∧ Wr M' pw l
abbrev ptr (b : Nat) : Value := .pointer (some ⟨b, 0, none⟩)
theorem Wr.mk {pw : Nat} {a : Option Addr} {cap n : Nat} {M2 : zI} {l : List Nat} {xs : List Value} (hO : Own M2 5 1 a n cap xs) (hx : xs = wrB l) (hn : n = l.length) : Wr (cb pw [.slice a n cap] 90 :: M2) pw l := by
 subst hn; subst hx; exact ⟨a, cap, M2, rfl, hO⟩
theorem w8 (n : Nat) : IntKind.u8.wrap ((n : Nat) : Int) = ((n % 256 : Nat) : Int) := by
 simp [IntKind.wrap, IntKind.bits, IntKind.signed]
theorem zNH {w0 w : World} {M G : zI} {pw : Nat} {l : List Nat} {q : Int} (n : Nat) (hq : q = (n : Int)) (H : St w0 (M ++ G) w) (hM : Wr M pw l) (hl : l.length ≤ 70368744177664) :
  Calls Tryz.prog 113 [ptr pw, .int .u64 q, .int .i64 1].toArray w (zy (WrR G pw (l ++ [n % 256])) w0) := by
 subst hq
 obtain ⟨a, cap, M2, rfl, hO⟩ := hM
 replace H : St w0 (cb pw [.slice a l.length cap] 90 :: (M2 ++ G)) w := H
 refine enter [] Tryz.func113 rfl Tryz.ntmps113 rfl rfl ?_
 repeat' (first | refine y1 sg ?_ | refine y3 ?_ | refine y7 sg H ?_ | (refine y11 sg H ?_; intro w H) | (refine z14 sg H ?_; intro b w H) | (have hp := H.perm (zw M2 G); refine zm sg 1 1 (M := M2) hp rfl rfl rfl rfl rfl rfl rfl rfl rfl rfl rfl hO (zAZ hp.mem (List.mem_append_right _ (List.Mem.head _))) rfl (zAd rfl) (by unfold maxLen; omega) (by omega) ?_; clear hp hO; intro a cap M2 w hO H; replace H := (H.perm (zw M2 G).symm).sub (List.sublist_cons_self _ _)) | (with_reducible first | apply zB | apply zD | apply zC | apply zF | apply zN | apply zH | apply zW) | refine zA ?_ | refine y24 ?_ | refine y25 ?_ | refine y22 ?_ | fail)
 exact zAI (vs := []) trivial H ⟨rfl, _, rfl, Wr.mk hO (by rw [← zEh]; simp [wrB, w8]) (by simp)⟩
theorem zGG (n m : Nat) : (n : Int).fdiv (2 ^ m) = ((n / 2 ^ m : Nat) : Int) := by
 rw [Int.fdiv_eq_ediv_of_nonneg _ (by exact Int.pow_nonneg (by decide))]
 push_cast
 rfl
theorem zIY (n m : Nat) : IntKind.u8.wrap ((n : Int).fdiv (2 ^ m)) = ((n / 2 ^ m % 256 : Nat) : Int) := by
 rw [← w8]
 congr 1
 rw [Int.fdiv_eq_ediv_of_nonneg _ (by exact Int.pow_nonneg (by decide))]
 push_cast
 rfl
def be4 (n : Nat) : List Nat := [n / 2 ^ 24 % 256, n / 2 ^ 16 % 256, n / 2 ^ 8 % 256, n % 256]
def be8 (n : Nat) : List Nat := [n / 2 ^ 56 % 256, n / 2 ^ 48 % 256, n / 2 ^ 40 % 256, n / 2 ^ 32 % 256, n / 2 ^ 24 % 256, n / 2 ^ 16 % 256, n / 2 ^ 8 % 256, n % 256]
theorem zNI {w0 w : World} {M G : zI} {pw : Nat} {l : List Nat} {q : Int} (n : Nat) (hq : q = (n : Int)) (H : St w0 (M ++ G) w) (hM : Wr M pw l) (hl : l.length ≤ 70368744177664) :
  Calls Tryz.prog 113 [ptr pw, .int .u64 q, .int .i64 4].toArray w (zy (WrR G pw (l ++ be4 n)) w0) := by
 subst hq
 obtain ⟨a, cap, M2, rfl, hO⟩ := hM
 replace H : St w0 (cb pw [.slice a l.length cap] 90 :: (M2 ++ G)) w := H
 refine enter [] Tryz.func113 rfl Tryz.ntmps113 rfl rfl ?_
 repeat' (first | refine y1 sg ?_ | refine y3 ?_ | refine y7 sg H ?_ | (refine y11 sg H ?_; intro w H) | (refine z14 sg H ?_; intro b w H) | (have hp := H.perm (zw M2 G); refine zm sg 1 1 (M := M2) hp rfl rfl rfl rfl rfl rfl rfl rfl rfl rfl rfl hO (zAZ hp.mem (List.mem_append_right _ (List.Mem.head _))) rfl (zAd rfl) (by unfold maxLen; omega) (by omega) ?_; clear hp hO; intro a cap M2 w hO H; replace H := (H.perm (zw M2 G).symm).sub (List.sublist_cons_self _ _)) | (with_reducible first | apply zB | apply zD | apply zC | apply zF | apply zN | apply zH | apply zDX) | refine zA ?_ | refine y24 ?_ | refine y21 ?_ | refine y22 ?_ | fail)
 exact zAI (vs := []) trivial H ⟨rfl, _, rfl, Wr.mk hO (by rw [← zEh]; simp [wrB, w8, zIY, be4]; repeat (first | exact rfl | refine ⟨rfl, ?_⟩)) (by simp [be4])⟩
theorem zNJ {w0 w : World} {M G : zI} {pw : Nat} {l : List Nat} {q : Int} (n : Nat) (hq : q = (n : Int)) (H : St w0 (M ++ G) w) (hM : Wr M pw l) (hl : l.length ≤ 70368744177664) :
  Calls Tryz.prog 113 [ptr pw, .int .u64 q, .int .i64 8].toArray w (zy (WrR G pw (l ++ be8 n)) w0) := by
 subst hq
 obtain ⟨a, cap, M2, rfl, hO⟩ := hM
 replace H : St w0 (cb pw [.slice a l.length cap] 90 :: (M2 ++ G)) w := H
 refine enter [] Tryz.func113 rfl Tryz.ntmps113 rfl rfl ?_
 repeat' (first | refine y1 sg ?_ | refine y3 ?_ | refine y7 sg H ?_ | (refine y11 sg H ?_; intro w H) | (refine z14 sg H ?_; intro b w H) | (have hp := H.perm (zw M2 G); refine zm sg 1 1 (M := M2) hp rfl rfl rfl rfl rfl rfl rfl rfl rfl rfl rfl hO (zAZ hp.mem (List.mem_append_right _ (List.Mem.head _))) rfl (zAd rfl) (by unfold maxLen; omega) (by omega) ?_; clear hp hO; intro a cap M2 w hO H; replace H := (H.perm (zw M2 G).symm).sub (List.sublist_cons_self _ _)) | (with_reducible first | apply zB | apply zD | apply zC | apply zF | apply zN | apply zH | apply zDX) | refine zA ?_ | refine y24 ?_ | refine y21 ?_ | refine y22 ?_ | fail)
 exact zAI (vs := []) trivial H ⟨rfl, _, rfl, Wr.mk hO (by rw [← zEh]; simp [wrB, w8, zIY, be8]; repeat (first | exact rfl | refine ⟨rfl, ?_⟩)) (by simp [be8])⟩
theorem zCH {n : Nat} (h : n < 18446744073709551616) : IntKind.u64.wrap (n : Int) = (n : Int) := zEN (by omega) (by omega)
theorem zJU {w0 w : World} {M G : zI} {pw : Nat} {l : List Nat} {q : Int} (n : Nat) (hn : n < 256) (hq : q = (n : Int)) (H : St w0 (M ++ G) w) (hM : Wr M pw l) (hl : l.length ≤ 70368744177664) :
  Calls Tryz.prog 99 [ptr pw, .int .u8 q].toArray w (zy (WrR G pw (l ++ [n])) w0) := by
 subst hq
 refine enter [] Tryz.func99 rfl Tryz.ntmps99 rfl rfl ?_
 repeat' (first | refine y1 sg ?_ | refine y3 ?_ | (refine' y33 zJJ ?_ ?_; rotate_left 2; exact zNH n (zCH (by omega)) H hM hl; rintro v N w ⟨rfl, M, rfl, hM⟩ H) | with_reducible apply zB | refine zA ?_ | fail)
 exact zAI (vs := []) trivial H ⟨rfl, _, rfl, by rw [Nat.mod_eq_of_lt hn] at hM; exact hM⟩
theorem c_U32 {w0 w : World} {M G : zI} {pw : Nat} {l : List Nat} {q : Int} (n : Nat) (hn : n < 4294967296) (hq : q = (n : Int)) (H : St w0 (M ++ G) w) (hM : Wr M pw l) (hl : l.length ≤ 70368744177664) :
  Calls Tryz.prog 41 [ptr pw, .int .u32 q].toArray w (zy (WrR G pw (l ++ be4 n)) w0) := by
 subst hq
 refine enter [] Tryz.func41 rfl Tryz.ntmps41 rfl rfl ?_
 repeat' (first | refine y1 sg ?_ | refine y3 ?_ | (refine' y33 zJJ ?_ ?_; rotate_left 2; exact zNI n (zCH (by omega)) H hM hl; rintro v N w ⟨rfl, M, rfl, hM⟩ H) | with_reducible apply zB | refine zA ?_ | fail)
 exact zAI (vs := []) trivial H ⟨rfl, _, rfl, hM⟩
theorem c_U64 {w0 w : World} {M G : zI} {pw : Nat} {l : List Nat} {q : Int} (n : Nat) (hq : q = (n : Int)) (H : St w0 (M ++ G) w) (hM : Wr M pw l) (hl : l.length ≤ 70368744177664) :
  Calls Tryz.prog 40 [ptr pw, .int .u64 q].toArray w (zy (WrR G pw (l ++ be8 n)) w0) := by
 subst hq
 refine enter [] Tryz.func40 rfl Tryz.ntmps40 rfl rfl ?_
 repeat' (first | refine y1 sg ?_ | refine y3 ?_ | (refine' y33 zJJ ?_ ?_; rotate_left 2; exact zNJ n rfl H hM hl; rintro v N w ⟨rfl, M, rfl, hM⟩ H) | with_reducible apply zB | refine zA ?_ | fail)
 exact zAI (vs := []) trivial H ⟨rfl, _, rfl, hM⟩
def short (n : Nat) : List Nat := if h : n < 128 then [n] else (n % 128 + 128) :: short (n / 128)
termination_by n
decreasing_by omega
theorem zAO {n : Nat} (h : n < 128) : short n = [n] := by rw [short, dif_pos h]
theorem zAw {n : Nat} (h : ¬ n < 128) : short n = (n % 128 + 128) :: short (n / 128) := by rw [short, dif_neg h]
theorem or128 (n : Nat) : IntKind.u8.wrap ((BitVec.ofInt IntKind.u8.bits (IntKind.u8.wrap (n : Int)) ||| BitVec.ofInt IntKind.u8.bits 128).toNat : Int) = ((n % 128 + 128 : Nat) : Int) := by
 rw [w8, w8]
 congr 1
 have h1 : (BitVec.ofInt IntKind.u8.bits ((n % 256 : Nat) : Int)) = BitVec.ofNat 8 (n % 256) := by
  apply BitVec.eq_of_toNat_eq
  simp [IntKind.bits]
  omega
 have h2 : (BitVec.ofInt IntKind.u8.bits 128) = BitVec.ofNat 8 128 := rfl
 rw [h1, h2]
 have : ∀ x : Fin 256, (BitVec.ofNat 8 x.1 ||| BitVec.ofNat 8 128).toNat % 256 = x.1 % 128 + 128 := by decide +kernel
 have h3 := this ⟨n % 256, by omega⟩
 refine Eq.trans h3 ?_
 simp only
 omega
theorem zG7 : ∀ (k n : Nat), n < 128 ^ (k + 1) → (short n).length ≤ k + 1
 | 0, n, h => by rw [zAO (by simpa using h)]; simp
 | k + 1, n, h => by
   by_cases g : n < 128
   ·rw [zAO g]; simp
   ·rw [zAw g, List.length_cons]
    have := zG7 k (n / 128) (by rw [Nat.div_lt_iff_lt_mul (by decide)]; rw [Nat.pow_succ] at h; exact h)
    omega
theorem zY {n : Nat} (h : n < 18446744073709551616) : (short n).length ≤ 10 := zG7 9 n (by rw [show 128 ^ (9 + 1) = 1180591620717411303424 from by decide]; omega)
theorem zBn {w0 w : World} {M G : zI} {pw : Nat} {l : List Nat} {q : Int} (n : Nat) (hn : n < 18446744073709551616) (hq : q = (n : Int)) (H : St w0 (M ++ G) w) (hM : Wr M pw l) (hl : l.length ≤ 35184372088832) :
  Calls Tryz.prog 186 [ptr pw, .int .u64 q].toArray w (zy (WrR G pw (l ++ short n)) w0) := by
 subst hq
 have h10 := zY hn
 refine enter [] Tryz.func186 rfl Tryz.ntmps186 rfl rfl ?_
 repeat' (first | (with_reducible first | apply zC | apply zF) | fail)
 refine zK [(1, 1), (4, 12)] (fun x : Nat × List Nat × zI => [(1, .int .u64 (x.1 : Int))]) (fun x w => St w0 (x.2.2 ++ G) w ∧ Wr x.2.2 pw x.2.1 ∧ x.1 ≤ n ∧ x.2.1 ++ short x.1 = l ++ short n) (fun x => x.1) (n, l, M) ⟨rfl, trivial⟩ ⟨H, hM, Nat.le_refl _, rfl⟩ ?_
 clear H hM
 rintro ⟨k, lk, M⟩ gh w ⟨H, hM, hkn, he⟩
 simp only at H hM hkn he ⊢
 have hb : lk.length + (short k).length = l.length + (short n).length := by rw [← List.length_append, he, List.length_append]
 repeat' (first | refine y1 sg ?_ | (with_reducible first | apply zB | apply zD | apply zC) | refine zA ?_ | fail)
 refine zL rfl (fun h => ?_) (fun h => ?_)
 ·have hge : ¬ k < 128 := by have := of_decide_eq_true h; omega
  clear h
  repeat' (first | refine y1 sg ?_ | refine y3 ?_ | (refine' y33 zGC ?_ ?_; rotate_left 2; exact zJU (k % 128 + 128) (by omega) (or128 k) H hM (by omega); rintro v N w ⟨rfl, M, rfl, hM⟩ H) | (with_reducible first | apply zB | apply zD | apply zC | apply zF | apply zH) | refine zA ?_ | fail)
  rw [zAw hge] at he
  exact zM (k / 128, lk ++ [k % 128 + 128], M) rfl ⟨congrArg (Value.int .u64) (zGG k 7), trivial⟩ ⟨H, hM, by simp only; omega, by rw [← he]; simp⟩ (by simp only; omega)
 ·have hlt : k < 128 := by have := of_decide_eq_false h; omega
  clear h
  rw [zAO hlt] at he
  repeat' (first | refine y1 sg ?_ | refine y3 ?_ | (refine' y33 zGC ?_ ?_; rotate_left 2; exact zJU k (by omega) (by rw [w8, Nat.mod_eq_of_lt (by omega)]) H hM (by omega); rintro v N w ⟨rfl, M, rfl, hM⟩ H) | (with_reducible first | apply zB | apply zN) | refine zA ?_ | fail)
  exact zAI (vs := []) trivial H ⟨rfl, _, rfl, by rw [he] at hM; exact hM⟩
theorem zJV {w0 w : World} {M G : zI} {pw : Nat} {l : List Nat} (s : ByteArray) (hs : s.size ≤ 35184372088832) (H : St w0 (M ++ G) w) (hM : Wr M pw l) (hl : l.length ≤ 35184372088832) :
  Calls Tryz.prog 39 [ptr pw, .string s].toArray w (zy (WrR G pw (l ++ zT s)) w0) := by
 obtain ⟨a, cap, M2, rfl, hO⟩ := hM
 replace H : St w0 (cb pw [.slice a l.length cap] 90 :: (M2 ++ G)) w := H
 refine enter [] Tryz.func39 rfl Tryz.ntmps39 rfl rfl ?_
 repeat' (first | refine y1 sg ?_ | refine y3 ?_ | refine y7 sg H ?_ | (refine y11 sg H ?_; intro w H) | (have hp := H.perm (zAM M2 G); refine OX.appendS sg (M := M2) hp rfl rfl rfl rfl rfl rfl rfl rfl rfl rfl rfl rfl rfl hO (by omega) ?_; clear hp hO; intro a cap M2 w hO H; replace H := H.perm (zAM M2 G).symm) | (with_reducible first | apply zB | apply zD | apply zC) | refine zA ?_ | refine y21 ?_ | fail)
 exact zAI (vs := []) trivial H ⟨rfl, _, rfl, Wr.mk hO (zEh _ _) (by rw [List.length_append, zU])⟩
theorem zKo {w0 w : World} {M G : zI} {pw : Nat} {l : List Nat} (s : ByteArray) (hs : s.size ≤ 35184372088832) (H : St w0 (M ++ G) w) (hM : Wr M pw l) (hl : l.length ≤ 17592186044416) :
  Calls Tryz.prog 90 [ptr pw, .string s].toArray w (zy (WrR G pw (l ++ (short s.size ++ zT s))) w0) := by
 have h10 := zY (n := s.size) (by omega)
 refine enter [] Tryz.func90 rfl Tryz.ntmps90 rfl rfl ?_
 repeat' (first | refine y1 sg ?_ | refine y3 ?_ | (refine' y33 zCG ?_ ?_; rotate_left 2; exact zBn s.size (by omega) (zCH (by omega)) H hM (by omega); rintro v N w ⟨rfl, M, rfl, hM⟩ H) | (refine' y33 zMo ?_ ?_; rotate_left 2; exact zJV s hs H hM (by rw [List.length_append]; omega); rintro v N w ⟨rfl, M, rfl, hM⟩ H) | (with_reducible first | apply zB | apply zD | apply zC) | refine zA ?_ | fail)
 exact zAI (vs := []) trivial H ⟨rfl, _, rfl, by rw [← List.append_assoc]; exact hM⟩
theorem zNK (l : List Nat) : (List.range l.length).flatMap (u8c l) = wrB l := by
 have : ∀ k, k ≤ l.length → (List.range k).flatMap (u8c l) = wrB (l.take k) := by
  intro k
  induction k with
  | zero => intro _; rfl
  | succ k ih =>
    intro hk
    rw [List.range_succ, List.flatMap_append, ih (by omega), List.flatMap_singleton, List.take_succ_eq_append_getElem (by omega), ← zEh]
    congr 1
    simp [u8c, wrB, List.getElem?_eq_getElem (show k < l.length by omega)]
 rw [this _ (Nat.le_refl _), List.take_length]
theorem zGH {F : zI} {pw : Nat} {l : List Nat} {M : zI} (w0 : World) (hF : Mem w0 F) (hs : M ⊆ F) (hM : Wr M pw l) (hl : l.length ≤ 140737488355328) :
  Calls Tryz.prog 38 [ptr pw].toArray w0 (Ret (.string (bytesOf l)) w0) := by
 obtain ⟨a, cap, M2, rfl, hO⟩ := hM
 rw [← zNK] at hO
 obtain ⟨_, _, b, off, cs, T, fr, hB⟩ := Own.sl hO (F := F) (fun x hx => hs (List.Mem.tail _ hx)) (fun j _ => rfl) hl
 refine enter [.tmp 2] Tryz.func38 rfl Tryz.ntmps38 rfl rfl ?_
 have H := zE w0
 repeat' (first | refine y1 sg ?_ | refine y3 ?_ | refine z13 (zJ sg rfl rfl (H.memF hF) (hs (List.Mem.head _)) rfl rfl) ?_ | (refine zf rfl rfl (zBP sg hB rfl (H.memF hF) rfl rfl rfl rfl rfl rfl rfl rfl) ?_) | (with_reducible first | apply zB | apply zD | apply zC | apply zG | apply zH) | refine zA ?_ | refine y22 ?_ | fail)
 exact zO rfl H.cl rfl
theorem zHo (l : List Nat) : (bytesOf l).size = l.length := by simp [bytesOf, ByteArray.size]
theorem zNL {F : zI} {pw : Nat} {l : List Nat} {M : zI} (w0 : World) (hF : Mem w0 F) (hs : M ⊆ F) (hM : Wr M pw l) (hl : l.length ≤ 140737488355328) :
  Calls Tryz.prog 37 [ptr pw].toArray w0 (Ret (.int .i64 l.length) w0) := by
 refine enter [.tmp 2] Tryz.func37 rfl Tryz.ntmps37 rfl rfl ?_
 have H := zE w0
 repeat' (first | refine y1 sg ?_ | refine y3 ?_ | (refine' y30 zMn ?_ ?_; rotate_left; exact zGH _ (H.memF hF) hs hM hl; intro w hcl; replace H := H.ext hcl; clear hcl) | (with_reducible first | apply zB | apply zD | apply zC | apply zG) | refine zA ?_ | fail)
 exact zO rfl H.cl (congrArg (Value.int .i64) (by rw [zHo]))
end Go.Proofs.YtggolnppckpdlaaGreat
set_option linter.unusedSimpArgs false
set_option linter.unusedVariables false
namespace Go.Proofs.YtggolnppckpdlaaGreat
open Go Go.Sk Go.RowKit
attribute [local irreducible] Go.Calls
structure Rs where
 pos : Nat
 e : Int
 to : Nat
 bad : Bool
def Rs.live (p : Rs) : Prop := p.e = 0 ∧ p.bad = false
structure Step {α : Type} (B : List Nat) (P : α → List Nat → Prop) (p p' : Rs) (x : α) : Prop where
 inv : p'.pos ≤ B.length
 snd : p'.live → p.live ∧ ∃ l, P x l ∧ B.drop p.pos = l ++ B.drop p'.pos
 cpl : p.live → ∀ y l r, P y l → B.drop p.pos = l ++ r → p'.live ∧ x = y ∧ B.drop p'.pos = r
theorem Step.dead {α : Type} {B : List Nat} {P : α → List Nat → Prop} {p p' : Rs} {x : α} (hi : p'.pos ≤ B.length) (h : ¬ p.live) (h' : ¬ p'.live) : Step B P p p' x :=
 ⟨hi, fun k => absurd k h', fun k => absurd k h⟩
abbrev rd (pr : Nat) (s : ByteArray) (p : Rs) : Nat × Obj := cb pr [.string s, .int .i64 (p.pos : Int), .int .i64 p.e, .int .i64 (p.to : Int)] 166
def RdF (pr : Nat) (s : ByteArray) (G : zI) (p : Rs) (v0 : Value) : zI → Value → Prop := fun N v => v = v0 ∧ N = rd pr s p :: G
theorem zEP {w0 : World} {F : zI} {pr : Nat} {s : ByteArray} {p : Rs} (hF : Mem w0 F) (hm : rd pr s p ∈ F) : Calls Tryz.prog 188 [ptr pr].toArray w0 (Ret (.bool (decide (p.e = 0))) w0) := by
 refine enter [.tmp 2] Tryz.func188 rfl Tryz.ntmps188 rfl rfl ?_
 have H := zE w0
 repeat' (first | refine y1 sg ?_ | refine y5 sg ?_ | refine z13 (zJ sg rfl rfl (H.memF hF) hm rfl rfl) ?_ | refine y13 ?_ | (with_reducible first | apply zB | apply zD | apply zC | apply zG) | refine zA ?_ | fail)
 exact zO rfl H.cl (congrArg Value.bool (by by_cases h : p.e = 0 <;> simp [h]))
theorem zDj {w0 w : World} {G : zI} {pr : Nat} {s : ByteArray} {p : Rs} {e : Int} {q : Int} (n : Nat) (hq : q = (n : Int)) (H : St w0 (rd pr s p :: G) w) : Calls Tryz.prog 189 [ptr pr, .int .i64 e, .int .i64 q].toArray w (zy (RdF pr s G ⟨n, e, n, p.bad⟩ (.tuple #[])) w0) := by
 subst hq
 refine enter [] Tryz.func189 rfl Tryz.ntmps189 rfl rfl ?_
 repeat' (first | refine y1 sg ?_ | refine y3 ?_ | (refine y11 sg H ?_; intro w H) | with_reducible apply zB | refine zA ?_ | fail)
 exact zAI (vs := []) trivial H ⟨rfl, rfl⟩
theorem zFs {w0 w : World} {G : zI} {pr : Nat} {s : ByteArray} {p : Rs} {q : Int} (he : p.e ≠ 0) (H : St w0 (rd pr s p :: G) w) : Calls Tryz.prog 116 [ptr pr, .int .i64 q].toArray w (zy (RdF pr s G p (.tuple #[.string ByteArray.empty, .bool false])) w0) := by
 have hd : decide (p.e = 0) = false := decide_eq_false he
 refine enter [.tmp 4, .tmp 5] Tryz.func116 rfl Tryz.ntmps116 rfl rfl ?_
 repeat' (first | refine y1 sg ?_ | refine y3 ?_ | (refine' y30 zEO ?_ ?_; rotate_left; exact hd ▸ zEP H.mem (List.Mem.head _); intro w hcl; replace H := H.ext hcl; clear hcl) | (with_reducible first | apply zB | apply zD | apply zC | apply zG | apply zP) | refine zA ?_ | refine y21 ?_ | fail)
 exact zh (vs := [_, _]) ⟨zp rfl, zp rfl, trivial⟩ H ⟨rfl, rfl⟩
theorem zEj {w0 w : World} {G : zI} {pr : Nat} {s : ByteArray} {p : Rs} {q : Int} (n : Nat) (hq : q = (n : Int)) (he : p.e = 0) (hp : p.pos ≤ s.size) (hs : s.size ≤ 1073741824) (hn : s.size < p.pos + n) (H : St w0 (rd pr s p :: G) w) :
  Calls Tryz.prog 116 [ptr pr, .int .i64 q].toArray w (zy (RdF pr s G ⟨p.pos, 8, p.pos, p.bad⟩ (.tuple #[.string ByteArray.empty, .bool false])) w0) := by
 subst hq
 have hd : decide (p.e = 0) = true := decide_eq_true he
 have hlt : decide (IntKind.i64.wrap ((s.size : Int) - (p.pos : Int)) < (n : Int)) = true := decide_eq_true (by rw [w64 (by omega) (by omega)]; omega)
 refine enter [.tmp 4, .tmp 5] Tryz.func116 rfl Tryz.ntmps116 rfl rfl ?_
 repeat' (first | refine y1 sg ?_ | refine y2 sg ?_ | refine y3 ?_ | refine y4 ?_ | refine y7 sg H ?_ | refine y8 sg H ?_ | (refine' y30 zEO ?_ ?_; rotate_left; exact hd ▸ zEP H.mem (List.Mem.head _); intro w hcl; replace H := H.ext hcl; clear hcl) | (refine' y33 zGE ?_ ?_; rotate_left 2; exact zDj p.pos rfl H; rintro v N w ⟨rfl, rfl⟩ H) | (with_reducible first | apply zB | apply zD | apply zC | apply zG | apply zH | apply zP) | (with_reducible apply zb; intro w hcl; replace H := H.ext hcl; clear hcl) | refine zA ?_ | refine y20 zZ ?_ | refine y22 ?_ | (refine y23 ?_ ?_; all_goals (intro h; try (exfalso; first | ((rw [hlt] at h; cases h); done)))) | fail)
 exact zh (vs := [_, _]) ⟨zp rfl, zp rfl, trivial⟩ H ⟨rfl, rfl⟩
theorem zDJ {w0 w : World} {G : zI} {pr : Nat} {s : ByteArray} {p : Rs} {q : Int} (n : Nat) (hq : q = (n : Int)) (he : p.e = 0) (hs : s.size ≤ 1073741824) (hn : p.pos + n ≤ s.size) (H : St w0 (rd pr s p :: G) w) :
  Calls Tryz.prog 116 [ptr pr, .int .i64 q].toArray w (zy (RdF pr s G ⟨p.pos + n, p.e, p.to, p.bad⟩ (.tuple #[.string (s.extract p.pos (p.pos + n)), .bool true])) w0) := by
 subst hq
 have hd : decide (p.e = 0) = true := decide_eq_true he
 have hlt : decide (IntKind.i64.wrap ((s.size : Int) - (p.pos : Int)) < (n : Int)) = false := decide_eq_false (by rw [w64 (by omega) (by omega)]; omega)
 have hw : IntKind.i64.wrap ((p.pos : Int) + (n : Int)) = ((p.pos + n : Nat) : Int) := by rw [w64 (by omega) (by omega)]; omega
 refine enter [.tmp 4, .tmp 5] Tryz.func116 rfl Tryz.ntmps116 rfl rfl ?_
 repeat' (first | refine y1 sg ?_ | refine y2 sg ?_ | refine y3 ?_ | refine y4 ?_ | refine y7 sg H ?_ | refine y8 sg H ?_ | (refine y11 sg H ?_; intro w H) | (refine' y30 zEO ?_ ?_; rotate_left; exact hd ▸ zEP H.mem (List.Mem.head _); intro w hcl; replace H := H.ext hcl; clear hcl) | ((with_reducible apply zAD); exact rfl; exact rfl; exact (Yq.strCut sg (i := p.pos) (j := p.pos + n) rfl rfl rfl rfl rfl rfl (Int.toNat_natCast _) ((congrArg Int.toNat hw).trans (Int.toNat_natCast _)) (by omega) (by rw [hw]; omega) (by rw [hw]; omega))) | (with_reducible first | apply zB | apply zD | apply zC | apply zG | apply zH) | (with_reducible apply zb; intro w hcl; replace H := H.ext hcl; clear hcl) | refine zA ?_ | refine y20 zZ ?_ | refine y22 ?_ | (refine y23 ?_ ?_; all_goals (intro h; try (exfalso; first | ((rw [hlt] at h; cases h); done)))) | fail)
 rw [hw] at H
 exact zh (vs := [_, _]) ⟨zp rfl, zp rfl, trivial⟩ H ⟨rfl, rfl⟩
theorem zG8 {B : List Nat} {i : Nat} (h : i < B.length) : B.drop i = B.getD i 0 :: B.drop (i + 1) := by
 rw [List.drop_eq_getElem_cons h]; simp [List.getElem?_eq_getElem h]
def ShS (B : List Nat) (from_ k n pos : Nat) : Prop := ∀ m, (0 < k → 1 ≤ m) → ∀ r, B.drop pos = short m ++ r → B.drop from_ = short (n + 128 ^ k * m) ++ r
def ShC (B : List Nat) (from_ k n pos : Nat) : Prop := ∀ y r, B.drop from_ = short y ++ r → ∃ m, y = n + 128 ^ k * m ∧ (0 < k → 1 ≤ m) ∧ B.drop pos = short m ++ r
theorem ShS.first (B : List Nat) (a : Nat) : ShS B a 0 0 a := fun m _ r h => by simpa using h
theorem ShC.first (B : List Nat) (a : Nat) : ShC B a 0 0 a := fun y r h => ⟨y, by simp, fun k => absurd k (by decide), h⟩
theorem zIZ (n k c m : Nat) : n + 128 ^ k * (c + 128 * m) = (n + c * 128 ^ k) + 128 ^ (k + 1) * m := by
 rw [Nat.pow_succ, Nat.mul_add, Nat.mul_comm c, Nat.mul_assoc, Nat.add_assoc]
theorem ShS.next {B : List Nat} {a k n pos b : Nat} (h : ShS B a k n pos) (hb : 128 ≤ b) (hb2 : b < 256) (hd : B.drop pos = b :: B.drop (pos + 1)) : ShS B a (k + 1) (n + b % 128 * 128 ^ k) (pos + 1) := by
 intro m hm r hr
 have hm := hm (by omega)
 have := h (b % 128 + 128 * m) (fun _ => by omega) r (by
  rw [hd, hr, zAw (n := b % 128 + 128 * m) (by omega), List.cons_append, show (b % 128 + 128 * m) % 128 + 128 = b by omega, show (b % 128 + 128 * m) / 128 = m by omega])
 rw [this, zIZ]
theorem ShC.next {B : List Nat} {a k n pos b : Nat} (h : ShC B a k n pos) (hb : 128 ≤ b) (hb2 : b < 256) (hd : B.drop pos = b :: B.drop (pos + 1)) : ShC B a (k + 1) (n + b % 128 * 128 ^ k) (pos + 1) := by
 intro y r hy
 obtain ⟨m, rfl, h1, h2⟩ := h y r hy
 rw [hd] at h2
 have hm : ¬ m < 128 := fun hm => by
  rw [zAO hm, List.cons_append, List.nil_append] at h2
  have := (List.cons.inj h2).1; omega
 rw [zAw hm, List.cons_append] at h2
 obtain ⟨e1, e2⟩ := List.cons.inj h2
 refine ⟨m / 128, ?_, fun _ => by omega, e2⟩
 rw [← zIZ]
 congr 2; omega
theorem ShS.last {B : List Nat} {a k n pos b : Nat} (h : ShS B a k n pos) (hb : b < 128) (h0 : 0 < k → b ≠ 0) (hd : B.drop pos = b :: B.drop (pos + 1)) : B.drop a = short (n + b % 128 * 128 ^ k) ++ B.drop (pos + 1) := by
 have := h b (fun k => by have := h0 k; omega) _ (by rw [zAO hb]; exact hd)
 rw [this, Nat.mod_eq_of_lt hb, Nat.mul_comm]
theorem ShC.last {B : List Nat} {a k n pos b : Nat} (h : ShC B a k n pos) (hb : b < 128) (hd : B.drop pos = b :: B.drop (pos + 1)) {y : Nat} {r : List Nat} (hy : B.drop a = short y ++ r) : y = n + b % 128 * 128 ^ k ∧ B.drop (pos + 1) = r ∧ (0 < k → b ≠ 0) := by
 obtain ⟨m, rfl, h1, h2⟩ := h y r hy
 rw [hd] at h2
 by_cases hm : m < 128
 ·rw [zAO hm, List.cons_append, List.nil_append] at h2
  obtain ⟨e1, e2⟩ := List.cons.inj h2
  subst e1
  exact ⟨by rw [Nat.mod_eq_of_lt hb, Nat.mul_comm], e2, fun k => by have := h1 k; omega⟩
 ·rw [zAw hm, List.cons_append] at h2
  have := (List.cons.inj h2).1; omega
theorem ShC.nine {B : List Nat} {a n pos b : Nat} (h : ShC B a 9 n pos) (hb2 : b < 256) (hb : 1 < b) (hd : B.drop pos = b :: B.drop (pos + 1)) {y : Nat} {r : List Nat} (hy : B.drop a = short y ++ r) (hm : y < 18446744073709551616) : False := by
 obtain ⟨m, rfl, h1, h2⟩ := h y r hy
 have : m ≤ 1 := by
  rw [show 128 ^ 9 = 9223372036854775808 from by decide] at hm; omega
 rw [hd, zAO (by omega), List.cons_append] at h2
 have := (List.cons.inj h2).1; omega
theorem ShC.gone {B : List Nat} {a k n pos : Nat} (h : ShC B a k n pos) (hd : B.length ≤ pos) {y : Nat} {r : List Nat} (hy : B.drop a = short y ++ r) : False := by
 obtain ⟨m, rfl, h1, h2⟩ := h y r hy
 rw [List.drop_eq_nil_of_le hd] at h2
 by_cases hm : m < 128
 ·rw [zAO hm] at h2; simp at h2
 ·rw [zAw hm] at h2; simp at h2
theorem zNM {b : Nat} (hb : b < 256) : IntKind.u64.wrap ((BitVec.ofInt IntKind.u64.bits (b : Int) &&& ~~~BitVec.ofInt IntKind.u64.bits 128).toNat : Int) = ((b % 128 : Nat) : Int) := by
 have : ∀ x : Fin 256, IntKind.u64.wrap ((BitVec.ofInt IntKind.u64.bits ((x.1 : Nat) : Int) &&& ~~~BitVec.ofInt IntKind.u64.bits 128).toNat : Int) = ((x.1 % 128 : Nat) : Int) := by decide +kernel
 exact this ⟨b, hb⟩
theorem zOw {n k c : Nat} (hn : n < 128 ^ k) (hk : k ≤ 9) (hc : c < 128) (h9 : k = 9 → c ≤ 1) :
  IntKind.u64.wrap ((BitVec.ofInt IntKind.u64.bits (n : Int) ||| BitVec.ofInt IntKind.u64.bits (IntKind.u64.wrap ((c : Int) * 2 ^ (min (7 * k) IntKind.u64.bits)))).toNat : Int) = ((n + c * 128 ^ k : Nat) : Int) ∧ n + c * 128 ^ k < 18446744073709551616 := by
 have e7 : ∀ j, (2 : Nat) ^ (7 * j) = 128 ^ j := fun j => by rw [Nat.pow_mul]
 have hP : 128 ^ k ≤ 9223372036854775808 := by
  have := Nat.pow_le_pow_right (n := 128) (by decide) hk
  simpa using this
 have hcP : c * 128 ^ k + 128 ^ k ≤ 18446744073709551616 := by
  rcases Nat.lt_or_ge k 9 with h | h
  ·have h8 : 128 ^ k ≤ 72057594037927936 := by
    have := Nat.pow_le_pow_right (n := 128) (by decide) (show k ≤ 8 by omega)
    simpa using this
   have := Nat.mul_le_mul (show c + 1 ≤ 128 by omega) h8
   rw [Nat.add_mul] at this; omega
  ·have : k = 9 := by omega
   have hc1 := h9 this
   have := Nat.mul_le_mul (show c + 1 ≤ 2 by omega) hP
   rw [Nat.add_mul] at this; omega
 have hmin : min (7 * k) IntKind.u64.bits = 7 * k := by simp [IntKind.bits]; omega
 have hN : n + c * 128 ^ k < 18446744073709551616 := by omega
 refine ⟨?_, hN⟩
 rw [hmin, show ((2 : Int) ^ (7 * k)) = ((128 ^ k : Nat) : Int) by rw [← e7]; push_cast; rfl, ← Int.natCast_mul, zCH (n := c * 128 ^ k) (by omega)]
 rw [BitVec.ofInt_natCast, BitVec.ofInt_natCast, BitVec.toNat_or, BitVec.toNat_ofNat, BitVec.toNat_ofNat, show n % 2 ^ IntKind.u64.bits = n from Nat.mod_eq_of_lt (show n < 2 ^ 64 by omega), show c * 128 ^ k % 2 ^ IntKind.u64.bits = c * 128 ^ k from Nat.mod_eq_of_lt (show c * 128 ^ k < 2 ^ 64 by omega)]
 have := Nat.two_pow_add_eq_or_of_lt (i := 7 * k) (b := n) (by rw [e7]; exact hn) c
 rw [e7, Nat.mul_comm] at this
 rw [Nat.or_comm, ← this, zCH (by omega)]
 congr 1; omega
def zNN (most : Nat) (x : Nat) (l : List Nat) : Prop := x ≤ most ∧ l = short x
def ShortR (pr : Nat) (s : ByteArray) (G : zI) (p : Rs) (most : Nat) : zI → Value → Prop := fun N v => ∃ (x : Nat) (p' : Rs), v = .int .u64 (x : Int) ∧ N = rd pr s p' :: G ∧ x ≤ most ∧ p'.bad = p.bad ∧ Step (zT s) (zNN most) p p' x
theorem zEk (s : ByteArray) {k : Nat} (hk : k < s.size) : (zT s).getD k 0 = zAc s k := by
 have hk2 : k < s.data.size := hk
 unfold zT zAc
 rw [List.getD_eq_getElem?_getD, List.getElem?_map, Array.getElem?_toList, Array.getElem?_eq_getElem hk2, Array.getD, dif_pos hk2]
 rfl
theorem byte0 (s : ByteArray) (i : Nat) (h : i < s.size) : zAc (s.extract i (i + 1)) 0 = (zT s).getD i 0 := by
 have h1 : i < (zT s).length := by rw [zU]; exact h
 have h2 : zT (s.extract i (i + 1)) = [(zT s).getD i 0] := by
  rw [zAG, zG8 h1]
  simp
 rw [← zEk _ (by rw [← zU, h2]; exact Nat.zero_lt_one), h2]
 rfl
theorem ShC.bad {B : List Nat} {a k n pos b : Nat} (h : ShC B a k n pos) (hb2 : b < 256) (hd : B.drop pos = b :: B.drop (pos + 1)) (hbad : (k = 9 ∧ 1 < b) ∨ (0 < k ∧ b = 0)) {y : Nat} {r : List Nat} (hy : B.drop a = short y ++ r) (hm : y < 18446744073709551616) : False := by
 rcases hbad with ⟨rfl, h1⟩ | ⟨h1, rfl⟩
 ·exact h.nine hb2 h1 hd hy hm
 ·exact (h.last (by decide) hd hy).2.2 h1 rfl
theorem zNO {n k c : Nat} (hn : n < 128 ^ k) (hc : c < 128) : n + c * 128 ^ k < 128 ^ (k + 1) := by
 have := Nat.mul_le_mul (show c + 1 ≤ 128 by omega) (Nat.le_refl (128 ^ k))
 rw [Nat.add_mul] at this
 rw [Nat.pow_succ]; omega
def upX (n most : Nat) : Nat := if n ≤ most then n else 0
def upS (n most a : Nat) (p : Rs) : Rs := if n ≤ most then p else ⟨a, 40, a, p.bad⟩
theorem zOx {w0 w : World} {G : zI} {pr : Nat} {s : ByteArray} {p : Rs} {q m r : Int} (n most a : Nat) (hq : q = (n : Int)) (hm : m = (most : Int)) (hr : r = (a : Int)) (H : St w0 (rd pr s p :: G) w) :
  Calls Tryz.prog 225 [ptr pr, .int .u64 q, .int .u64 m, .int .i64 r].toArray w (zy (RdF pr s G (upS n most a p) (.int .u64 (upX n most : Nat))) w0) := by
 subst hq; subst hm; subst hr
 by_cases h1 : n ≤ most
 ·have hd : decide ((n : Int) > (most : Int)) = false := decide_eq_false (by omega)
  refine enter [.tmp 8] Tryz.func225 rfl Tryz.ntmps225 rfl rfl ?_
  repeat' (first | refine y1 sg ?_ | (with_reducible first | apply zB | apply zD | apply zC | apply zG | apply zH) | refine zA ?_ | (refine y23 ?_ ?_; all_goals (intro h; try (exfalso; first | ((rw [hd] at h; cases h); done)))) | fail)
  exact zh (vs := [_]) ⟨zp rfl, trivial⟩ H ⟨by unfold upX; rw [if_pos h1]; rfl, by unfold upS; rw [if_pos h1]⟩
 ·have hd : decide ((n : Int) > (most : Int)) = true := decide_eq_true (by omega)
  refine enter [.tmp 8] Tryz.func225 rfl Tryz.ntmps225 rfl rfl ?_
  repeat' (first | refine y1 sg ?_ | refine y3 ?_ | (refine' y33 zGE ?_ ?_; rotate_left 2; exact zDj a rfl H; rintro v N w ⟨rfl, rfl⟩ H) | (with_reducible first | apply zB | apply zD | apply zC | apply zG | apply zP) | refine zA ?_ | (refine y23 ?_ ?_; all_goals (intro h; try (exfalso; first | ((rw [hd] at h; cases h); done)))) | fail)
  exact zh (vs := [_]) ⟨zp rfl, trivial⟩ H ⟨by unfold upX; rw [if_neg h1]; rfl, by unfold upS; rw [if_neg h1]⟩
theorem Yq.strIxB {P : Program} (S : Sig P) {o : Oper} {e : Env} {w : World} {t : TypeId} {x i : Operand} {s : ByteArray} {j b : Nat} {k : IntKind} {q : Int} {ti : TI} (hb : zAc s j = b) (ho : o.op = .index t x i) (hx : ev e x = .string s) (hi : ev e i = .int k q) (ht : lk S.tab t = some ti) (htd : ti.d = .string) (hj : q.toNat = j) (h0 : 0 ≤ q) (h1 : q < s.size) :
  Yq P o e w (.int .u8 (b : Nat)) := by subst hb; exact Yq.strIx S ho hx hi ht htd hj h0 h1
set_option maxRecDepth 20000 in
theorem zGI {w0 w : World} {G : zI} {pr : Nat} {s : ByteArray} {p : Rs} {q : Int} (most : Nat) (hq : q = (most : Int)) (hm : most < 18446744073709551616) (hp : p.pos ≤ s.size) (hs : s.size ≤ 1073741824) (H : St w0 (rd pr s p :: G) w) :
  Calls Tryz.prog 190 [ptr pr, .int .u64 q].toArray w (zy (ShortR pr s G p most) w0) := by
 subst hq
 have hlen := zU s
 by_cases he : p.e = 0
 ·have hd : decide (p.e = 0) = true := decide_eq_true he
  obtain ⟨a, e, to_, bad⟩ := p
  simp only at he hp hd
  subst he
  refine enter [.tmp 4] Tryz.func190 rfl Tryz.ntmps190 rfl rfl ?_
  repeat' (first | refine y1 sg ?_ | refine y3 ?_ | refine y7 sg H ?_ | (refine' y30 zEO ?_ ?_; rotate_left; exact hd ▸ zEP H.mem (List.Mem.head _); intro w hcl; replace H := H.ext hcl; clear hcl) | (with_reducible first | apply zB | apply zD | apply zC | apply zF | apply zH) | refine zA ?_ | refine y22 ?_ | fail)
  refine zK [(4, 4), (6, 10), (18, 61)] (fun x : Nat × Nat => [(6, .int .u64 (x.2 : Int)), (7, .int .i64 ((7 * x.1 : Nat) : Int))]) (fun x w => St w0 (rd pr s ⟨a + x.1, 0, to_, bad⟩ :: G) w ∧ a + x.1 ≤ s.size ∧ x.1 ≤ 9 ∧ x.2 < 128 ^ x.1 ∧ ShS (zT s) a x.1 x.2 (a + x.1) ∧ ShC (zT s) a x.1 x.2 (a + x.1)) (fun x => 10 - x.1) (0, 0) ⟨rfl, rfl, trivial⟩ ⟨H, hp, by decide, by decide, ShS.first _ _, ShC.first _ _⟩ ?_
  clear H
  rintro ⟨k, n⟩ gh w ⟨H, ha, hk, hn, hS, hC⟩
  simp only at H ha hk hn hS hC ⊢
  by_cases hlt : a + k < s.size
  ·have hb8 := zCT (s.extract (a + k) (a + k + 1)) 0
   have hdr := zG8 (B := zT s) (i := a + k) (by omega)
   rw [← byte0 s (a + k) hlt] at hdr
   obtain ⟨b, hb⟩ : ∃ b, zAc (s.extract (a + k) (a + k + 1)) 0 = b := ⟨_, rfl⟩
   rw [hb] at hdr hb8
   have hv : IntKind.u64.wrap (b : Int) = (b : Int) := zCH (by omega)
   have hq : ∀ _ : k = 9 → b ≤ 1, _ := fun h9 => zOw hn hk (show b % 128 < 128 by omega) (fun h => by have := h9 h; omega)
   by_cases hbad : (k = 9 ∧ 1 < b) ∨ (0 < k ∧ b = 0)
   ·repeat' (first | refine y1 sg ?_ | refine y3 ?_ | refine y5 sg ?_ | (refine' y33 zBd ?_ ?_; rotate_left 2; exact zDJ 1 rfl rfl hs (by simp only; omega) H; rintro v N w ⟨rfl, rfl⟩ H) | (refine zf rfl rfl (Yq.strIxB sg hb rfl rfl rfl rfl rfl rfl (by decide) (by rw [← zU, zAG]; simp; omega)) ?_) | (refine' y33 zGE ?_ ?_; rotate_left 2; exact zDj a rfl H; rintro v N w ⟨rfl, rfl⟩ H) | refine y13 ?_ | refine y14 ?_ | (refine y17 ?_ ?_; all_goals (intro h; try (exfalso; first | ((simp only [hv, beq_iff_eq, decide_eq_true_eq, decide_eq_false_iff_not, beq_eq_false_iff_ne, gt_iff_lt] at *; omega); done)))) | (with_reducible first | apply zB | apply zD | apply zC | apply zF | apply zG | apply zH | apply zP | apply za) | refine zA ?_ | refine y22 ?_ | (refine y23 ?_ ?_; all_goals (intro h; try (exfalso; first | ((simp only [hv, beq_iff_eq, decide_eq_true_eq, decide_eq_false_iff_not, beq_eq_false_iff_ne, gt_iff_lt] at *; omega); done)))) | fail)
    all_goals exact zh (vs := [_]) ⟨zp rfl, trivial⟩ H ⟨0, _, rfl, rfl, by omega, rfl, by simp only; omega, fun h => absurd h.1 (by simp), fun _ y l r hy hr => (hC.bad hb8 hdr hbad (hy.2 ▸ hr) (by have := hy.1; omega)).elim⟩
   ·have h9 : k = 9 → b ≤ 1 := fun h => by omega
    have h0 : 0 < k → b ≠ 0 := fun h => by omega
    obtain ⟨hq1, hq2⟩ := hq h9
    repeat' (first | refine y1 sg ?_ | refine y3 ?_ | refine y5 sg ?_ | (refine' y33 zBd ?_ ?_; rotate_left 2; exact zDJ 1 rfl rfl hs (by simp only; omega) H; rintro v N w ⟨rfl, rfl⟩ H) | (refine zf rfl rfl (Yq.strIxB sg hb rfl rfl rfl rfl rfl rfl (by decide) (by rw [← zU, zAG]; simp; omega)) ?_) | (refine' y33 ent225 ?_ ?_; rotate_left 2; exact zOx (n + b % 128 * 128 ^ k) most a (by rw [hv, zNM hb8]; exact hq1) rfl rfl H; rintro v N w ⟨rfl, rfl⟩ H) | refine y13 ?_ | refine y14 ?_ | (refine y17 ?_ ?_; all_goals (intro h; try (exfalso; first | ((simp only [hv, beq_iff_eq, decide_eq_true_eq, decide_eq_false_iff_not, beq_eq_false_iff_ne, gt_iff_lt] at *; omega); done)))) | (with_reducible first | apply zB | apply zD | apply zC | apply zF | apply zG | apply zH | apply zP | apply zDX | apply za) | refine zA ?_ | refine y22 ?_ | (refine y23 ?_ ?_; all_goals (intro h; try (exfalso; first | ((simp only [hv, beq_iff_eq, decide_eq_true_eq, decide_eq_false_iff_not, beq_eq_false_iff_ne, gt_iff_lt] at *; omega); done)))) | fail)
    all_goals (simp only [hv, decide_eq_true_eq, decide_eq_false_iff_not] at h)
    all_goals first
     | exact zM (k + 1, n + b % 128 * 128 ^ k) rfl ⟨congrArg (Value.int .u64) (by rw [hv, zNM hb8]; exact hq1), congrArg (Value.int .i64) (by simp only; rw [w64 (by omega) (by omega)]; omega), trivial⟩ ⟨H, by simp only; omega, by simp only; omega, zNO hn (by omega), hS.next (by omega) hb8 hdr, hC.next (by omega) hb8 hdr⟩ (by simp only; omega)
     | (refine zh (vs := [_]) ⟨zp rfl, trivial⟩ H ⟨_, _, rfl, rfl, ?_, ?_, ?_⟩
        ·unfold upX; split <;> omega
        ·unfold upS; split <;> rfl
        ·have hL := hS.last (by omega) h0 hdr
         have hD : ∀ {y r}, _ → _ := fun {y r} => hC.last (y := y) (r := r) (by omega) hdr
         unfold upX upS
         split
         ·refine ⟨by simp only; omega, fun hl => ⟨hl, _, ⟨by omega, rfl⟩, hL⟩, fun hl y l r hy hr => ?_⟩
          obtain ⟨e1, e2, _⟩ := hD (hy.2 ▸ hr)
          exact ⟨hl, e1.symm, e2⟩
         ·refine ⟨by simp only; omega, fun hl => absurd hl.1 (by simp), fun hl y l r hy hr => ?_⟩
          obtain ⟨e1, e2, _⟩ := hD (hy.2 ▸ hr)
          have := hy.1; omega)
  ·repeat' (first | refine y1 sg ?_ | refine y3 ?_ | (refine' y33 zBd ?_ ?_; rotate_left 2; exact zEj 1 rfl rfl (by simp only; omega) hs (by simp only; omega) H; rintro v N w ⟨rfl, rfl⟩ H) | (refine' y33 zGE ?_ ?_; rotate_left 2; exact zDj a rfl H; rintro v N w ⟨rfl, rfl⟩ H) | (with_reducible first | apply zB | apply zD | apply zC | apply zF | apply zG | apply zP | apply za) | refine zA ?_ | refine y21 ?_ | fail)
   exact zh (vs := [_]) ⟨zp rfl, trivial⟩ H ⟨0, _, rfl, rfl, by omega, rfl, by simp only; omega, fun h => absurd h.1 (by simp), fun _ y l r hy hr => (hC.gone (by omega) (hy.2 ▸ hr)).elim⟩
 ·have hd : decide (p.e = 0) = false := decide_eq_false he
  refine enter [.tmp 4] Tryz.func190 rfl Tryz.ntmps190 rfl rfl ?_
  repeat' (first | refine y1 sg ?_ | refine y3 ?_ | (refine' y30 zEO ?_ ?_; rotate_left; exact hd ▸ zEP H.mem (List.Mem.head _); intro w hcl; replace H := H.ext hcl; clear hcl) | (with_reducible first | apply zB | apply zD | apply zC | apply zG | apply zP) | refine zA ?_ | refine y21 ?_ | fail)
  exact zh (vs := [_]) ⟨zp rfl, trivial⟩ H ⟨0, p, rfl, rfl, by omega, rfl, Step.dead (by omega) (fun h => he h.1) (fun h => he h.1)⟩
end Go.Proofs.YtggolnppckpdlaaGreat
