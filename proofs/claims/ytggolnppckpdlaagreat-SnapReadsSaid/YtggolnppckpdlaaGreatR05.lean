/- Texts of ours, joined: the steps of the proof, or the claim's theorem. -/
import Derived.Test.YtggolnppckpdlaaGreatR03
import Derived.Test.YtggolnppckpdlaaGreatR04
set_option linter.unusedSimpArgs false
set_option linter.unusedVariables false
namespace Go.Proofs.YtggolnppckpdlaaGreat
open Go Go.Sk Go.RowKit
attribute [local irreducible] Go.Calls
structure Rs where
 pos : Nat
 e : Int
 to : Nat
 bad : Bool
def Rs.live (p : Rs) : Prop := p.e = 0 ∧ p.bad = false
structure Step {α : Type} (B : List Nat) (P : α → List Nat → Prop) (p p' : Rs) (x : α) : Prop where
 inv : p'.pos ≤ B.length
 snd : p'.live → p.live ∧ ∃ l, P x l ∧ B.drop p.pos = l ++ B.drop p'.pos
 cpl : p.live → ∀ y l r, P y l → B.drop p.pos = l ++ r → p'.live ∧ x = y ∧ B.drop p'.pos = r
theorem Step.dead {α : Type} {B : List Nat} {P : α → List Nat → Prop} {p p' : Rs} {x : α} (hi : p'.pos ≤ B.length) (h : ¬ p.live) (h' : ¬ p'.live) : Step B P p p' x :=
 ⟨hi, fun k => absurd k h', fun k => absurd k h⟩
abbrev rd (pr : Nat) (s : ByteArray) (p : Rs) : Nat × Obj := cb pr [.string s, .int .i64 (p.pos : Int), .int .i64 p.e, .int .i64 (p.to : Int)] 166
def RdF (pr : Nat) (s : ByteArray) (G : zI) (p : Rs) (v0 : Value) : zI → Value → Prop := fun N v => v = v0 ∧ N = rd pr s p :: G
theorem zD9 {w0 : World} {F : zI} {pr : Nat} {s : ByteArray} {p : Rs} (hF : Mem w0 F) (hm : rd pr s p ∈ F) : Calls Tryz.prog 188 [ptr pr].toArray w0 (Ret (.bool (decide (p.e = 0))) w0) := by
 refine enter [.tmp 2] Tryz.func188 rfl Tryz.ntmps188 rfl rfl ?_
 have H := zH w0
 repeat' (first | refine y1 sg ?_ | refine y5 sg ?_ | refine z13 (zb sg rfl rfl (H.memF hF) hm rfl rfl) ?_ | refine y13 ?_ | (with_reducible first | apply zB | apply zD | apply zC | apply zF) | refine zA ?_ | fail)
 exact zQ rfl H.cl (congrArg Value.bool (by by_cases h : p.e = 0 <;> simp [h]))
theorem zDS {w0 w : World} {G : zI} {pr : Nat} {s : ByteArray} {p : Rs} {e : Int} {q : Int} (n : Nat) (hq : q = (n : Int)) (H : St w0 (rd pr s p :: G) w) : Calls Tryz.prog 189 [ptr pr, .int .i64 e, .int .i64 q].toArray w (zf (RdF pr s G ⟨n, e, n, p.bad⟩ (.tuple #[])) w0) := by
 subst hq
 refine enter [] Tryz.func189 rfl Tryz.ntmps189 rfl rfl ?_
 repeat' (first | refine y1 sg ?_ | refine y3 ?_ | (refine y11 sg H ?_; intro w H) | with_reducible apply zB | refine zA ?_ | fail)
 exact zu (vs := []) trivial H ⟨rfl, rfl⟩
theorem zFZ {w0 w : World} {G : zI} {pr : Nat} {s : ByteArray} {p : Rs} {q : Int} (he : p.e ≠ 0) (H : St w0 (rd pr s p :: G) w) : Calls Tryz.prog 116 [ptr pr, .int .i64 q].toArray w (zf (RdF pr s G p (.tuple #[.string ByteArray.empty, .bool false])) w0) := by
 have hd : decide (p.e = 0) = false := decide_eq_false he
 refine enter [.tmp 4, .tmp 5] Tryz.func116 rfl Tryz.ntmps116 rfl rfl ?_
 repeat' (first | refine y1 sg ?_ | refine y3 ?_ | (refine' y30 zD7 ?_ ?_; rotate_left; exact hd ▸ zD9 H.mem (List.Mem.head _); intro w hcl; replace H := H.ext hcl; clear hcl) | (with_reducible first | apply zB | apply zD | apply zC | apply zF | apply zO) | refine zA ?_ | refine y21 ?_ | fail)
 exact zU (vs := [_, _]) ⟨zZ rfl, zZ rfl, trivial⟩ H ⟨rfl, rfl⟩
theorem zEW {w0 w : World} {G : zI} {pr : Nat} {s : ByteArray} {p : Rs} {q : Int} (n : Nat) (hq : q = (n : Int)) (he : p.e = 0) (hp : p.pos ≤ s.size) (hs : s.size ≤ 1073741824) (hn : s.size < p.pos + n) (H : St w0 (rd pr s p :: G) w) :
  Calls Tryz.prog 116 [ptr pr, .int .i64 q].toArray w (zf (RdF pr s G ⟨p.pos, 8, p.pos, p.bad⟩ (.tuple #[.string ByteArray.empty, .bool false])) w0) := by
 subst hq
 have hd : decide (p.e = 0) = true := decide_eq_true he
 have hlt : decide (IntKind.i64.wrap ((s.size : Int) - (p.pos : Int)) < (n : Int)) = true := decide_eq_true (by rw [w64 (by omega) (by omega)]; omega)
 refine enter [.tmp 4, .tmp 5] Tryz.func116 rfl Tryz.ntmps116 rfl rfl ?_
 repeat' (first | refine y1 sg ?_ | refine y2 sg ?_ | refine y3 ?_ | refine y4 ?_ | refine y7 sg H ?_ | refine y8 sg H ?_ | (refine' y30 zD7 ?_ ?_; rotate_left; exact hd ▸ zD9 H.mem (List.Mem.head _); intro w hcl; replace H := H.ext hcl; clear hcl) | (refine' y33 zFu ?_ ?_; rotate_left 2; exact zDS p.pos rfl H; rintro v N w ⟨rfl, rfl⟩ H) | (with_reducible first | apply zB | apply zD | apply zC | apply zF | apply zG | apply zO) | (with_reducible apply zV; intro w hcl; replace H := H.ext hcl; clear hcl) | refine zA ?_ | refine y20 mixed ?_ | refine y22 ?_ | (refine y23 ?_ ?_; all_goals (intro h; try (exfalso; first | ((rw [hlt] at h; cases h); done)))) | fail)
 exact zU (vs := [_, _]) ⟨zZ rfl, zZ rfl, trivial⟩ H ⟨rfl, rfl⟩
theorem zC7 {w0 w : World} {G : zI} {pr : Nat} {s : ByteArray} {p : Rs} {q : Int} (n : Nat) (hq : q = (n : Int)) (he : p.e = 0) (hs : s.size ≤ 1073741824) (hn : p.pos + n ≤ s.size) (H : St w0 (rd pr s p :: G) w) :
  Calls Tryz.prog 116 [ptr pr, .int .i64 q].toArray w (zf (RdF pr s G ⟨p.pos + n, p.e, p.to, p.bad⟩ (.tuple #[.string (s.extract p.pos (p.pos + n)), .bool true])) w0) := by
 subst hq
 have hd : decide (p.e = 0) = true := decide_eq_true he
 have hlt : decide (IntKind.i64.wrap ((s.size : Int) - (p.pos : Int)) < (n : Int)) = false := decide_eq_false (by rw [w64 (by omega) (by omega)]; omega)
 have hw : IntKind.i64.wrap ((p.pos : Int) + (n : Int)) = ((p.pos + n : Nat) : Int) := by rw [w64 (by omega) (by omega)]; omega
 refine enter [.tmp 4, .tmp 5] Tryz.func116 rfl Tryz.ntmps116 rfl rfl ?_
 repeat' (first | refine y1 sg ?_ | refine y2 sg ?_ | refine y3 ?_ | refine y4 ?_ | refine y7 sg H ?_ | refine y8 sg H ?_ | (refine y11 sg H ?_; intro w H) | (refine' y30 zD7 ?_ ?_; rotate_left; exact hd ▸ zD9 H.mem (List.Mem.head _); intro w hcl; replace H := H.ext hcl; clear hcl) | ((with_reducible apply zo); exact rfl; exact rfl; exact (Yq.strCut sg (i := p.pos) (j := p.pos + n) rfl rfl rfl rfl rfl rfl (Int.toNat_natCast _) ((congrArg Int.toNat hw).trans (Int.toNat_natCast _)) (by omega) (by rw [hw]; omega) (by rw [hw]; omega))) | (with_reducible first | apply zB | apply zD | apply zC | apply zF | apply zG) | (with_reducible apply zV; intro w hcl; replace H := H.ext hcl; clear hcl) | refine zA ?_ | refine y20 mixed ?_ | refine y22 ?_ | (refine y23 ?_ ?_; all_goals (intro h; try (exfalso; first | ((rw [hlt] at h; cases h); done)))) | fail)
 rw [hw] at H
 exact zU (vs := [_, _]) ⟨zZ rfl, zZ rfl, trivial⟩ H ⟨rfl, rfl⟩
theorem zEt {B : List Nat} {i : Nat} (h : i < B.length) : B.drop i = B.getD i 0 :: B.drop (i + 1) := by
 rw [List.drop_eq_getElem_cons h]; simp [List.getElem?_eq_getElem h]
def ShS (B : List Nat) (from_ k n pos : Nat) : Prop := ∀ m, (0 < k → 1 ≤ m) → ∀ r, B.drop pos = short m ++ r → B.drop from_ = short (n + 128 ^ k * m) ++ r
def ShC (B : List Nat) (from_ k n pos : Nat) : Prop := ∀ y r, B.drop from_ = short y ++ r → ∃ m, y = n + 128 ^ k * m ∧ (0 < k → 1 ≤ m) ∧ B.drop pos = short m ++ r
theorem ShS.first (B : List Nat) (a : Nat) : ShS B a 0 0 a := fun m _ r h => by simpa using h
theorem ShC.first (B : List Nat) (a : Nat) : ShC B a 0 0 a := fun y r h => ⟨y, by simp, fun k => absurd k (by decide), h⟩
theorem zIK (n k c m : Nat) : n + 128 ^ k * (c + 128 * m) = (n + c * 128 ^ k) + 128 ^ (k + 1) * m := by
 rw [Nat.pow_succ, Nat.mul_add, Nat.mul_comm c, Nat.mul_assoc, Nat.add_assoc]
theorem ShS.next {B : List Nat} {a k n pos b : Nat} (h : ShS B a k n pos) (hb : 128 ≤ b) (hb2 : b < 256) (hd : B.drop pos = b :: B.drop (pos + 1)) : ShS B a (k + 1) (n + b % 128 * 128 ^ k) (pos + 1) := by
 intro m hm r hr
 have hm := hm (by omega)
 have := h (b % 128 + 128 * m) (fun _ => by omega) r (by
  rw [hd, hr, zA0 (n := b % 128 + 128 * m) (by omega), List.cons_append, show (b % 128 + 128 * m) % 128 + 128 = b by omega, show (b % 128 + 128 * m) / 128 = m by omega])
 rw [this, zIK]
theorem ShC.next {B : List Nat} {a k n pos b : Nat} (h : ShC B a k n pos) (hb : 128 ≤ b) (hb2 : b < 256) (hd : B.drop pos = b :: B.drop (pos + 1)) : ShC B a (k + 1) (n + b % 128 * 128 ^ k) (pos + 1) := by
 intro y r hy
 obtain ⟨m, rfl, h1, h2⟩ := h y r hy
 rw [hd] at h2
 have hm : ¬ m < 128 := fun hm => by
  rw [zAP hm, List.cons_append, List.nil_append] at h2
  have := (List.cons.inj h2).1; omega
 rw [zA0 hm, List.cons_append] at h2
 obtain ⟨e1, e2⟩ := List.cons.inj h2
 refine ⟨m / 128, ?_, fun _ => by omega, e2⟩
 rw [← zIK]
 congr 2; omega
theorem ShS.last {B : List Nat} {a k n pos b : Nat} (h : ShS B a k n pos) (hb : b < 128) (h0 : 0 < k → b ≠ 0) (hd : B.drop pos = b :: B.drop (pos + 1)) : B.drop a = short (n + b % 128 * 128 ^ k) ++ B.drop (pos + 1) := by
 have := h b (fun k => by have := h0 k; omega) _ (by rw [zAP hb]; exact hd)
 rw [this, Nat.mod_eq_of_lt hb, Nat.mul_comm]
theorem ShC.last {B : List Nat} {a k n pos b : Nat} (h : ShC B a k n pos) (hb : b < 128) (hd : B.drop pos = b :: B.drop (pos + 1)) {y : Nat} {r : List Nat} (hy : B.drop a = short y ++ r) : y = n + b % 128 * 128 ^ k ∧ B.drop (pos + 1) = r ∧ (0 < k → b ≠ 0) := by
 obtain ⟨m, rfl, h1, h2⟩ := h y r hy
 rw [hd] at h2
 by_cases hm : m < 128
 ·rw [zAP hm, List.cons_append, List.nil_append] at h2
  obtain ⟨e1, e2⟩ := List.cons.inj h2
  subst e1
  exact ⟨by rw [Nat.mod_eq_of_lt hb, Nat.mul_comm], e2, fun k => by have := h1 k; omega⟩
 ·rw [zA0 hm, List.cons_append] at h2
  have := (List.cons.inj h2).1; omega
theorem ShC.nine {B : List Nat} {a n pos b : Nat} (h : ShC B a 9 n pos) (hb2 : b < 256) (hb : 1 < b) (hd : B.drop pos = b :: B.drop (pos + 1)) {y : Nat} {r : List Nat} (hy : B.drop a = short y ++ r) (hm : y < 18446744073709551616) : False := by
 obtain ⟨m, rfl, h1, h2⟩ := h y r hy
 have : m ≤ 1 := by
  rw [show 128 ^ 9 = 9223372036854775808 from by decide] at hm; omega
 rw [hd, zAP (by omega), List.cons_append] at h2
 have := (List.cons.inj h2).1; omega
theorem ShC.gone {B : List Nat} {a k n pos : Nat} (h : ShC B a k n pos) (hd : B.length ≤ pos) {y : Nat} {r : List Nat} (hy : B.drop a = short y ++ r) : False := by
 obtain ⟨m, rfl, h1, h2⟩ := h y r hy
 rw [List.drop_eq_nil_of_le hd] at h2
 by_cases hm : m < 128
 ·rw [zAP hm] at h2; simp at h2
 ·rw [zA0 hm] at h2; simp at h2
theorem zNM {b : Nat} (hb : b < 256) : IntKind.u64.wrap ((BitVec.ofInt IntKind.u64.bits (b : Int) &&& ~~~BitVec.ofInt IntKind.u64.bits 128).toNat : Int) = ((b % 128 : Nat) : Int) := by
 have : ∀ x : Fin 256, IntKind.u64.wrap ((BitVec.ofInt IntKind.u64.bits ((x.1 : Nat) : Int) &&& ~~~BitVec.ofInt IntKind.u64.bits 128).toNat : Int) = ((x.1 % 128 : Nat) : Int) := by decide +kernel
 exact this ⟨b, hb⟩
theorem zKt {n k c : Nat} (hn : n < 128 ^ k) (hk : k ≤ 9) (hc : c < 128) (h9 : k = 9 → c ≤ 1) :
  IntKind.u64.wrap ((BitVec.ofInt IntKind.u64.bits (n : Int) ||| BitVec.ofInt IntKind.u64.bits (IntKind.u64.wrap ((c : Int) * 2 ^ (min (7 * k) IntKind.u64.bits)))).toNat : Int) = ((n + c * 128 ^ k : Nat) : Int) ∧ n + c * 128 ^ k < 18446744073709551616 := by
 have e7 : ∀ j, (2 : Nat) ^ (7 * j) = 128 ^ j := fun j => by rw [Nat.pow_mul]
 have hP : 128 ^ k ≤ 9223372036854775808 := by
  have := Nat.pow_le_pow_right (n := 128) (by decide) hk
  simpa using this
 have hcP : c * 128 ^ k + 128 ^ k ≤ 18446744073709551616 := by
  rcases Nat.lt_or_ge k 9 with h | h
  ·have h8 : 128 ^ k ≤ 72057594037927936 := by
    have := Nat.pow_le_pow_right (n := 128) (by decide) (show k ≤ 8 by omega)
    simpa using this
   have := Nat.mul_le_mul (show c + 1 ≤ 128 by omega) h8
   rw [Nat.add_mul] at this; omega
  ·have : k = 9 := by omega
   have hc1 := h9 this
   have := Nat.mul_le_mul (show c + 1 ≤ 2 by omega) hP
   rw [Nat.add_mul] at this; omega
 have hmin : min (7 * k) IntKind.u64.bits = 7 * k := by simp [IntKind.bits]; omega
 have hN : n + c * 128 ^ k < 18446744073709551616 := by omega
 refine ⟨?_, hN⟩
 rw [hmin, show ((2 : Int) ^ (7 * k)) = ((128 ^ k : Nat) : Int) by rw [← e7]; push_cast; rfl, ← Int.natCast_mul, zBI (n := c * 128 ^ k) (by omega)]
 rw [BitVec.ofInt_natCast, BitVec.ofInt_natCast, BitVec.toNat_or, BitVec.toNat_ofNat, BitVec.toNat_ofNat, show n % 2 ^ IntKind.u64.bits = n from Nat.mod_eq_of_lt (show n < 2 ^ 64 by omega), show c * 128 ^ k % 2 ^ IntKind.u64.bits = c * 128 ^ k from Nat.mod_eq_of_lt (show c * 128 ^ k < 2 ^ 64 by omega)]
 have := Nat.two_pow_add_eq_or_of_lt (i := 7 * k) (b := n) (by rw [e7]; exact hn) c
 rw [e7, Nat.mul_comm] at this
 rw [Nat.or_comm, ← this, zBI (by omega)]
 congr 1; omega
def zJX (most : Nat) (x : Nat) (l : List Nat) : Prop := x ≤ most ∧ l = short x
def ShortR (pr : Nat) (s : ByteArray) (G : zI) (p : Rs) (most : Nat) : zI → Value → Prop := fun N v => ∃ (x : Nat) (p' : Rs), v = .int .u64 (x : Int) ∧ N = rd pr s p' :: G ∧ x ≤ most ∧ p'.bad = p.bad ∧ Step (zN s) (zJX most) p p' x
theorem zB6 (s : ByteArray) {k : Nat} (hk : k < s.size) : (zN s).getD k 0 = zAI s k := by
 have hk2 : k < s.data.size := hk
 unfold zN zAI
 rw [List.getD_eq_getElem?_getD, List.getElem?_map, Array.getElem?_toList, Array.getElem?_eq_getElem hk2, Array.getD, dif_pos hk2]
 rfl
theorem byte0 (s : ByteArray) (i : Nat) (h : i < s.size) : zAI (s.extract i (i + 1)) 0 = (zN s).getD i 0 := by
 have h1 : i < (zN s).length := by rw [zP]; exact h
 have h2 : zN (s.extract i (i + 1)) = [(zN s).getD i 0] := by
  rw [zc, zEt h1]
  simp
 rw [← zB6 _ (by rw [← zP, h2]; exact Nat.zero_lt_one), h2]
 rfl
theorem ShC.bad {B : List Nat} {a k n pos b : Nat} (h : ShC B a k n pos) (hb2 : b < 256) (hd : B.drop pos = b :: B.drop (pos + 1)) (hbad : (k = 9 ∧ 1 < b) ∨ (0 < k ∧ b = 0)) {y : Nat} {r : List Nat} (hy : B.drop a = short y ++ r) (hm : y < 18446744073709551616) : False := by
 rcases hbad with ⟨rfl, h1⟩ | ⟨h1, rfl⟩
 ·exact h.nine hb2 h1 hd hy hm
 ·exact (h.last (by decide) hd hy).2.2 h1 rfl
theorem zIL {n k c : Nat} (hn : n < 128 ^ k) (hc : c < 128) : n + c * 128 ^ k < 128 ^ (k + 1) := by
 have := Nat.mul_le_mul (show c + 1 ≤ 128 by omega) (Nat.le_refl (128 ^ k))
 rw [Nat.add_mul] at this
 rw [Nat.pow_succ]; omega
def upX (n most : Nat) : Nat := if n ≤ most then n else 0
def upS (n most a : Nat) (p : Rs) : Rs := if n ≤ most then p else ⟨a, 40, a, p.bad⟩
theorem zPC {w0 w : World} {G : zI} {pr : Nat} {s : ByteArray} {p : Rs} {q m r : Int} (n most a : Nat) (hq : q = (n : Int)) (hm : m = (most : Int)) (hr : r = (a : Int)) (H : St w0 (rd pr s p :: G) w) :
  Calls Tryz.prog 225 [ptr pr, .int .u64 q, .int .u64 m, .int .i64 r].toArray w (zf (RdF pr s G (upS n most a p) (.int .u64 (upX n most : Nat))) w0) := by
 subst hq; subst hm; subst hr
 by_cases h1 : n ≤ most
 ·have hd : decide ((n : Int) > (most : Int)) = false := decide_eq_false (by omega)
  refine enter [.tmp 8] Tryz.func225 rfl Tryz.ntmps225 rfl rfl ?_
  repeat' (first | refine y1 sg ?_ | (with_reducible first | apply zB | apply zD | apply zC | apply zF | apply zG) | refine zA ?_ | (refine y23 ?_ ?_; all_goals (intro h; try (exfalso; first | ((rw [hd] at h; cases h); done)))) | fail)
  exact zU (vs := [_]) ⟨zZ rfl, trivial⟩ H ⟨by unfold upX; rw [if_pos h1]; rfl, by unfold upS; rw [if_pos h1]⟩
 ·have hd : decide ((n : Int) > (most : Int)) = true := decide_eq_true (by omega)
  refine enter [.tmp 8] Tryz.func225 rfl Tryz.ntmps225 rfl rfl ?_
  repeat' (first | refine y1 sg ?_ | refine y3 ?_ | (refine' y33 zFu ?_ ?_; rotate_left 2; exact zDS a rfl H; rintro v N w ⟨rfl, rfl⟩ H) | (with_reducible first | apply zB | apply zD | apply zC | apply zF | apply zO) | refine zA ?_ | (refine y23 ?_ ?_; all_goals (intro h; try (exfalso; first | ((rw [hd] at h; cases h); done)))) | fail)
  exact zU (vs := [_]) ⟨zZ rfl, trivial⟩ H ⟨by unfold upX; rw [if_neg h1]; rfl, by unfold upS; rw [if_neg h1]⟩
theorem Yq.strIxB {P : Program} (S : Sig P) {o : Oper} {e : Env} {w : World} {t : TypeId} {x i : Operand} {s : ByteArray} {j b : Nat} {k : IntKind} {q : Int} {ti : TI} (hb : zAI s j = b) (ho : o.op = .index t x i) (hx : ev e x = .string s) (hi : ev e i = .int k q) (ht : lk S.tab t = some ti) (htd : ti.d = .string) (hj : q.toNat = j) (h0 : 0 ≤ q) (h1 : q < s.size) :
  Yq P o e w (.int .u8 (b : Nat)) := by subst hb; exact Yq.strIx S ho hx hi ht htd hj h0 h1
set_option maxRecDepth 20000 in
theorem zFx {w0 w : World} {G : zI} {pr : Nat} {s : ByteArray} {p : Rs} {q : Int} (most : Nat) (hq : q = (most : Int)) (hm : most < 18446744073709551616) (hp : p.pos ≤ s.size) (hs : s.size ≤ 1073741824) (H : St w0 (rd pr s p :: G) w) :
  Calls Tryz.prog 190 [ptr pr, .int .u64 q].toArray w (zf (ShortR pr s G p most) w0) := by
 subst hq
 have hlen := zP s
 by_cases he : p.e = 0
 ·have hd : decide (p.e = 0) = true := decide_eq_true he
  obtain ⟨a, e, to_, bad⟩ := p
  simp only at he hp hd
  subst he
  refine enter [.tmp 4] Tryz.func190 rfl Tryz.ntmps190 rfl rfl ?_
  repeat' (first | refine y1 sg ?_ | refine y3 ?_ | refine y7 sg H ?_ | (refine' y30 zD7 ?_ ?_; rotate_left; exact hd ▸ zD9 H.mem (List.Mem.head _); intro w hcl; replace H := H.ext hcl; clear hcl) | (with_reducible first | apply zB | apply zD | apply zC | apply zE | apply zG) | refine zA ?_ | refine y22 ?_ | fail)
  refine zK [(4, 4), (6, 10), (18, 61)] (fun x : Nat × Nat => [(6, .int .u64 (x.2 : Int)), (7, .int .i64 ((7 * x.1 : Nat) : Int))]) (fun x w => St w0 (rd pr s ⟨a + x.1, 0, to_, bad⟩ :: G) w ∧ a + x.1 ≤ s.size ∧ x.1 ≤ 9 ∧ x.2 < 128 ^ x.1 ∧ ShS (zN s) a x.1 x.2 (a + x.1) ∧ ShC (zN s) a x.1 x.2 (a + x.1)) (fun x => 10 - x.1) (0, 0) ⟨rfl, rfl, trivial⟩ ⟨H, hp, by decide, by decide, ShS.first _ _, ShC.first _ _⟩ ?_
  clear H
  rintro ⟨k, n⟩ gh w ⟨H, ha, hk, hn, hS, hC⟩
  simp only at H ha hk hn hS hC ⊢
  by_cases hlt : a + k < s.size
  ·have hb8 := zBA (s.extract (a + k) (a + k + 1)) 0
   have hdr := zEt (B := zN s) (i := a + k) (by omega)
   rw [← byte0 s (a + k) hlt] at hdr
   obtain ⟨b, hb⟩ : ∃ b, zAI (s.extract (a + k) (a + k + 1)) 0 = b := ⟨_, rfl⟩
   rw [hb] at hdr hb8
   have hv : IntKind.u64.wrap (b : Int) = (b : Int) := zBI (by omega)
   have hq : ∀ _ : k = 9 → b ≤ 1, _ := fun h9 => zKt hn hk (show b % 128 < 128 by omega) (fun h => by have := h9 h; omega)
   by_cases hbad : (k = 9 ∧ 1 < b) ∨ (0 < k ∧ b = 0)
   ·repeat' (first | refine y1 sg ?_ | refine y3 ?_ | refine y5 sg ?_ | (refine' y33 zBV ?_ ?_; rotate_left 2; exact zC7 1 rfl rfl hs (by simp only; omega) H; rintro v N w ⟨rfl, rfl⟩ H) | (refine zY rfl rfl (Yq.strIxB sg hb rfl rfl rfl rfl rfl rfl (by decide) (by rw [← zP, zc]; simp; omega)) ?_) | (refine' y33 zFu ?_ ?_; rotate_left 2; exact zDS a rfl H; rintro v N w ⟨rfl, rfl⟩ H) | refine y13 ?_ | refine y14 ?_ | (refine y17 ?_ ?_; all_goals (intro h; try (exfalso; first | ((simp only [hv, beq_iff_eq, decide_eq_true_eq, decide_eq_false_iff_not, beq_eq_false_iff_ne, gt_iff_lt] at *; omega); done)))) | (with_reducible first | apply zB | apply zD | apply zC | apply zE | apply zF | apply zG | apply zO | apply zW) | refine zA ?_ | refine y22 ?_ | (refine y23 ?_ ?_; all_goals (intro h; try (exfalso; first | ((simp only [hv, beq_iff_eq, decide_eq_true_eq, decide_eq_false_iff_not, beq_eq_false_iff_ne, gt_iff_lt] at *; omega); done)))) | fail)
    all_goals exact zU (vs := [_]) ⟨zZ rfl, trivial⟩ H ⟨0, _, rfl, rfl, by omega, rfl, by simp only; omega, fun h => absurd h.1 (by simp), fun _ y l r hy hr => (hC.bad hb8 hdr hbad (hy.2 ▸ hr) (by have := hy.1; omega)).elim⟩
   ·have h9 : k = 9 → b ≤ 1 := fun h => by omega
    have h0 : 0 < k → b ≠ 0 := fun h => by omega
    obtain ⟨hq1, hq2⟩ := hq h9
    repeat' (first | refine y1 sg ?_ | refine y3 ?_ | refine y5 sg ?_ | (refine' y33 zBV ?_ ?_; rotate_left 2; exact zC7 1 rfl rfl hs (by simp only; omega) H; rintro v N w ⟨rfl, rfl⟩ H) | (refine zY rfl rfl (Yq.strIxB sg hb rfl rfl rfl rfl rfl rfl (by decide) (by rw [← zP, zc]; simp; omega)) ?_) | (refine' y33 ent225 ?_ ?_; rotate_left 2; exact zPC (n + b % 128 * 128 ^ k) most a (by rw [hv, zNM hb8]; exact hq1) rfl rfl H; rintro v N w ⟨rfl, rfl⟩ H) | refine y13 ?_ | refine y14 ?_ | (refine y17 ?_ ?_; all_goals (intro h; try (exfalso; first | ((simp only [hv, beq_iff_eq, decide_eq_true_eq, decide_eq_false_iff_not, beq_eq_false_iff_ne, gt_iff_lt] at *; omega); done)))) | (with_reducible first | apply zB | apply zD | apply zC | apply zE | apply zF | apply zG | apply zO | apply zDL | apply zW) | refine zA ?_ | refine y22 ?_ | (refine y23 ?_ ?_; all_goals (intro h; try (exfalso; first | ((simp only [hv, beq_iff_eq, decide_eq_true_eq, decide_eq_false_iff_not, beq_eq_false_iff_ne, gt_iff_lt] at *; omega); done)))) | fail)
    all_goals (simp only [hv, decide_eq_true_eq, decide_eq_false_iff_not] at h)
    all_goals first
     | exact zJ (k + 1, n + b % 128 * 128 ^ k) rfl ⟨congrArg (Value.int .u64) (by rw [hv, zNM hb8]; exact hq1), congrArg (Value.int .i64) (by simp only; rw [w64 (by omega) (by omega)]; omega), trivial⟩ ⟨H, by simp only; omega, by simp only; omega, zIL hn (by omega), hS.next (by omega) hb8 hdr, hC.next (by omega) hb8 hdr⟩ (by simp only; omega)
     | (refine zU (vs := [_]) ⟨zZ rfl, trivial⟩ H ⟨_, _, rfl, rfl, ?_, ?_, ?_⟩
        ·unfold upX; split <;> omega
        ·unfold upS; split <;> rfl
        ·have hL := hS.last (by omega) h0 hdr
         have hD : ∀ {y r}, _ → _ := fun {y r} => hC.last (y := y) (r := r) (by omega) hdr
         unfold upX upS
         split
         ·refine ⟨by simp only; omega, fun hl => ⟨hl, _, ⟨by omega, rfl⟩, hL⟩, fun hl y l r hy hr => ?_⟩
          obtain ⟨e1, e2, _⟩ := hD (hy.2 ▸ hr)
          exact ⟨hl, e1.symm, e2⟩
         ·refine ⟨by simp only; omega, fun hl => absurd hl.1 (by simp), fun hl y l r hy hr => ?_⟩
          obtain ⟨e1, e2, _⟩ := hD (hy.2 ▸ hr)
          have := hy.1; omega)
  ·repeat' (first | refine y1 sg ?_ | refine y3 ?_ | (refine' y33 zBV ?_ ?_; rotate_left 2; exact zEW 1 rfl rfl (by simp only; omega) hs (by simp only; omega) H; rintro v N w ⟨rfl, rfl⟩ H) | (refine' y33 zFu ?_ ?_; rotate_left 2; exact zDS a rfl H; rintro v N w ⟨rfl, rfl⟩ H) | (with_reducible first | apply zB | apply zD | apply zC | apply zE | apply zF | apply zO | apply zW) | refine zA ?_ | refine y21 ?_ | fail)
   exact zU (vs := [_]) ⟨zZ rfl, trivial⟩ H ⟨0, _, rfl, rfl, by omega, rfl, by simp only; omega, fun h => absurd h.1 (by simp), fun _ y l r hy hr => (hC.gone (by omega) (hy.2 ▸ hr)).elim⟩
 ·have hd : decide (p.e = 0) = false := decide_eq_false he
  refine enter [.tmp 4] Tryz.func190 rfl Tryz.ntmps190 rfl rfl ?_
  repeat' (first | refine y1 sg ?_ | refine y3 ?_ | (refine' y30 zD7 ?_ ?_; rotate_left; exact hd ▸ zD9 H.mem (List.Mem.head _); intro w hcl; replace H := H.ext hcl; clear hcl) | (with_reducible first | apply zB | apply zD | apply zC | apply zF | apply zO) | refine zA ?_ | refine y21 ?_ | fail)
  exact zU (vs := [_]) ⟨zZ rfl, trivial⟩ H ⟨0, p, rfl, rfl, by omega, rfl, Step.dead (by omega) (fun h => he h.1) (fun h => he h.1)⟩
end Go.Proofs.YtggolnppckpdlaaGreat
set_option linter.unusedSimpArgs false
set_option linter.unusedVariables false
namespace Go.Proofs.YtggolnppckpdlaaGreat
open Go Go.Sk Go.RowKit
attribute [local irreducible] Go.Calls
def beV (l : List Nat) : Nat := l.foldl (fun n b => n * 256 + b) 0
theorem zCP (l : List Nat) (b : Nat) : beV (l ++ [b]) = beV l * 256 + b := by simp [beV]
theorem zDT {l : List Nat} (h : Byt l) : ∀ k, beV (l.take k) < 256 ^ k
 | 0 => by simp [beV]
 | k + 1 => by
   have ih := zDT h k
   rw [Nat.pow_succ]
   by_cases g : k < l.length
   ·rw [List.take_succ_eq_append_getElem g, zCP]
    have := h l[k] (List.getElem_mem g)
    omega
   ·rw [List.take_of_length_le (by omega)] at ih ⊢; omega
def beK : Nat → Nat → List Nat
 | 1, n => [n % 256]
 | 4, n => be4 n
 | _, n => be8 n
theorem be1_V {a : Nat} (ha : a < 256) : beK 1 (beV [a]) = [a] := by simp [beK, beV]; omega
theorem be4_V {a b c d : Nat} (ha : a < 256) (hb : b < 256) (hc : c < 256) (hd : d < 256) : beK 4 (beV [a, b, c, d]) = [a, b, c, d] := by simp [beK, be4, beV]; omega
theorem be8_V {a b c d e f g h : Nat} (ha : a < 256) (hb : b < 256) (hc : c < 256) (hd : d < 256) (he : e < 256) (hf : f < 256) (hg : g < 256) (hh : h < 256) : beK 8 (beV [a, b, c, d, e, f, g, h]) = [a, b, c, d, e, f, g, h] := by simp [beK, be8, beV]; omega
theorem V_be1 {n : Nat} (h : n < 256) : beV (beK 1 n) = n := by simp [beK, beV]; omega
theorem V_be4 {n : Nat} (h : n < 4294967296) : beV (beK 4 n) = n := by simp [beK, be4, beV]; omega
theorem zGr {n : Nat} (h : n < 18446744073709551616) : beV (beK 8 n) = n := by simp [beK, be8, beV]; omega
theorem len1 {l : List Nat} (h : l.length = 1) : ∃ a, l = [a] := List.length_eq_one_iff.1 h
theorem len4 {l : List Nat} (h : l.length = 4) : ∃ a b c d, l = [a, b, c, d] := by
 match l, h with
 | [a, b, c, d], _ => exact ⟨a, b, c, d, rfl⟩
theorem len8 {l : List Nat} (h : l.length = 8) : ∃ a b c d e f g i, l = [a, b, c, d, e, f, g, i] := by
 match l, h with
 | [a, b, c, d, e, f, g, i], _ => exact ⟨a, b, c, d, e, f, g, i, rfl⟩
theorem zNN {l : List Nat} (hb : Byt l) (h : l.length = 1) : beK 1 (beV l) = l := by
 obtain ⟨a, rfl⟩ := len1 h
 exact be1_V (hb a (by simp))
theorem zNO {l : List Nat} (hb : Byt l) (h : l.length = 4) : beK 4 (beV l) = l := by
 obtain ⟨a, b, c, d, rfl⟩ := len4 h
 exact be4_V (hb a (by simp)) (hb b (by simp)) (hb c (by simp)) (hb d (by simp))
theorem zNP {l : List Nat} (hb : Byt l) (h : l.length = 8) : beK 8 (beV l) = l := by
 obtain ⟨a, b, c, d, e, f, g, i, rfl⟩ := len8 h
 exact be8_V (hb a (by simp)) (hb b (by simp)) (hb c (by simp)) (hb d (by simp)) (hb e (by simp)) (hb f (by simp)) (hb g (by simp)) (hb i (by simp))
theorem or8 {n b : Nat} (hn : n < 72057594037927936) (hb : b < 256) :
  IntKind.u64.wrap ((BitVec.ofInt IntKind.u64.bits (IntKind.u64.wrap ((n : Int) * 2 ^ (min 8 IntKind.u64.bits))) ||| BitVec.ofInt IntKind.u64.bits (b : Int)).toNat : Int) = ((n * 256 + b : Nat) : Int) := by
 have h1 : (n : Int) * 2 ^ (min 8 IntKind.u64.bits) = ((n * 256 : Nat) : Int) := by
  rw [show min 8 IntKind.u64.bits = 8 from by decide, Int.natCast_mul]; rfl
 rw [h1, zBI (n := n * 256) (by omega), BitVec.ofInt_natCast, BitVec.ofInt_natCast, BitVec.toNat_or, BitVec.toNat_ofNat, BitVec.toNat_ofNat, show n * 256 % 2 ^ IntKind.u64.bits = n * 256 from Nat.mod_eq_of_lt (show n * 256 < 2 ^ 64 by omega), show b % 2 ^ IntKind.u64.bits = b from Nat.mod_eq_of_lt (show b < 2 ^ 64 by omega)]
 have := Nat.two_pow_add_eq_or_of_lt (i := 8) (b := b) (by omega) n
 rw [Nat.mul_comm] at this
 rw [← this, zBI (by omega)]
def zDp (K : Nat) (x : Nat) (l : List Nat) : Prop := x < 256 ^ K ∧ l = beK K x
def FixR (pr : Nat) (s : ByteArray) (G : zI) (p : Rs) (K : Nat) (q : IntKind) : zI → Value → Prop := fun N v => ∃ (x : Nat) (p' : Rs), v = .int q (x : Int) ∧ N = rd pr s p' :: G ∧ x < 256 ^ K ∧ p'.bad = p.bad ∧ Step (zN s) (zDp K) p p' x
theorem zGs {l : List Nat} (h : Byt l) {K : Nat} (hK : l.length = K) : beV l < 256 ^ K := by
 have := zDT h l.length
 rw [List.take_length] at this
 rw [← hK]; exact this
theorem wrK8 {n : Nat} (h : n < 256 ^ 1) : IntKind.u8.wrap (n : Int) = (n : Int) := by rw [w8, Nat.mod_eq_of_lt (by omega)]
theorem wrK32 {n : Nat} (h : n < 256 ^ 4) : IntKind.u32.wrap (n : Int) = (n : Int) := by
 have h' : n < 4294967296 := h
 have : IntKind.u32.wrap ((n : Nat) : Int) = ((n % 4294967296 : Nat) : Int) := by simp [IntKind.wrap, IntKind.bits, IntKind.signed]
 rw [this, Nat.mod_eq_of_lt h']
theorem zPD {w0 w : World} {G : zI} {pr : Nat} {s : ByteArray} {p : Rs} (hp : p.pos ≤ s.size) (hs : s.size ≤ 1073741824) (H : St w0 (rd pr s p :: G) w) :
  Calls Tryz.prog 191 [ptr pr, .int .i64 1].toArray w (zf (FixR pr s G p 1 .u8) w0) := by
 have hlen := zP s
 have hbt := zAy s
 by_cases he : p.e = 0
 ·by_cases hn : p.pos + 1 ≤ s.size
  ·have hxs : (s.extract p.pos (p.pos + 1)).size = 1 := by rw [← zP, zc, List.length_take, List.length_drop]; omega
   have hL : zN (s.extract p.pos (p.pos + 1)) = ((zN s).drop p.pos).take 1 := by rw [zc]; congr 1; omega
   obtain ⟨x, hx⟩ : ∃ x, s.extract p.pos (p.pos + 1) = x := ⟨_, rfl⟩
   have hbx := zAy x
   have hxl : (zN x).length = 1 := by rw [zP, ← hx]; exact hxs
   rw [hx] at hL hxs
   refine enter [.tmp 4] Tryz.func191 rfl Tryz.ntmps191 rfl rfl ?_
   repeat' (first | refine y1 sg ?_ | refine y3 ?_ | (refine' y33 zBV ?_ ?_; rotate_left 2; exact (hx ▸ zC7 1 rfl he hs hn H); rintro v N w ⟨rfl, rfl⟩ H) | (with_reducible first | apply zB | apply zD | apply zC | apply zE) | refine zA ?_ | fail)
   refine zK [(7, 8), (17, 27)] (fun i : Nat => [(7, .int .u64 ((beV ((zN x).take i) : Nat) : Int)), (17, .int .i64 ((i : Nat) : Int))]) (fun i w => St w0 (rd pr s ⟨p.pos + 1, p.e, p.to, p.bad⟩ :: G) w ∧ i ≤ 1) (fun i => 1 - i) 0 ⟨rfl, rfl, trivial⟩ ⟨H, by omega⟩ ?_
   clear H
   rintro i gh w ⟨H, hi⟩
   have hV := zDT hbx i
   by_cases hik : i < 1
   ·have hd : decide ((i : Int) < (x.size : Int)) = true := decide_eq_true (by omega)
    obtain ⟨b, hb⟩ : ∃ b, zAI x i = b := ⟨_, rfl⟩
    have hb8 : b < 256 := hb ▸ zBA x i
    have hv : IntKind.u64.wrap (b : Int) = (b : Int) := zBI (by omega)
    have hnx : beV ((zN x).take (i + 1)) = beV ((zN x).take i) * 256 + b := by
     rw [List.take_succ_eq_append_getElem (by omega), zCP, ← hb, ← zB6 x (by omega)]
     simp [List.getElem?_eq_getElem (show i < (zN x).length by omega)]
    have hVs : beV ((zN x).take i) < 72057594037927936 := Nat.lt_of_lt_of_le hV (Nat.le_trans (Nat.pow_le_pow_right (by decide) (show i ≤ 7 by omega)) (by decide))
    repeat' (first | refine y1 sg ?_ | refine y3 ?_ | (refine zY rfl rfl (Yq.strIxB sg hb rfl rfl rfl rfl rfl (Int.toNat_natCast _) (by omega) (by omega)) ?_) | (with_reducible first | apply zB | apply zD | apply zC | apply zE | apply zG) | refine zA ?_ | (refine y23 ?_ ?_; all_goals (intro h; try (exfalso; first | ((rw [hd] at h; cases h); done)))) | fail)
    exact zJ (i + 1) rfl ⟨congrArg (Value.int .u64) (by rw [hv, or8 hVs hb8, hnx]), congrArg (Value.int .i64) (by rw [w64 (by omega) (by omega)]; omega), trivial⟩ ⟨H, by omega⟩ (by omega)
   ·have hd : decide ((i : Int) < (x.size : Int)) = false := decide_eq_false (by omega)
    have hVK : beV (zN x) < 256 ^ 1 := zGs hbx hxl
    have hall : (zN x).take i = zN x := List.take_of_length_le (by omega)
    have hdrop : (zN s).drop p.pos = zN x ++ (zN s).drop (p.pos + 1) := by rw [hL, ← List.drop_drop, List.take_append_drop]
    repeat' (first | refine y1 sg ?_ | (with_reducible first | apply zB | apply zD | apply zC | apply zF | apply zL | apply zS) | refine zA ?_ | refine y24 ?_ | (refine y23 ?_ ?_; all_goals (intro h; try (exfalso; first | ((rw [hd] at h; cases h); done)))) | fail)
    refine zU (vs := [_]) ⟨zZ rfl, trivial⟩ H ⟨beV (zN x), _, congrArg (Value.int .u8) (by rw [hall]; rw [wrK8 hVK]), rfl, hVK, rfl, by simp only; omega, fun hl => ⟨hl, _, ⟨hVK, (zNN hbx hxl).symm⟩, hdrop⟩, fun hl y l r hy hr => ?_⟩
    obtain ⟨hy1, rfl⟩ := hy
    rw [hdrop] at hr
    obtain ⟨e1, e2⟩ := List.append_inj hr (by rw [hxl]; rfl)
    exact ⟨hl, by rw [e1]; exact V_be1 (by omega), e2⟩
  ·refine enter [.tmp 4] Tryz.func191 rfl Tryz.ntmps191 rfl rfl ?_
   repeat' (first | refine y1 sg ?_ | refine y3 ?_ | (refine' y33 zBV ?_ ?_; rotate_left 2; exact zEW 1 rfl he hp hs (by omega) H; rintro v N w ⟨rfl, rfl⟩ H) | (with_reducible first | apply zB | apply zD | apply zC | apply zE) | refine zA ?_ | fail)
   refine zK [(7, 8), (17, 27)] (fun _ : Unit => [(7, .int .u64 0), (17, .int .i64 0)]) (fun _ w => St w0 (rd pr s ⟨p.pos, 8, p.pos, p.bad⟩ :: G) w) (fun _ => 0) () ⟨rfl, rfl, trivial⟩ H ?_
   clear H
   rintro _ gh w H
   repeat' (first | refine y1 sg ?_ | (with_reducible first | apply zB | apply zD | apply zC | apply zF | apply zL | apply zS) | refine zA ?_ | refine y24 ?_ | refine y22 ?_ | fail)
   exact zU (vs := [_]) ⟨zZ rfl, trivial⟩ H ⟨0, _, rfl, rfl, by decide, rfl, by simp only; omega, fun h => absurd h.1 (by simp), fun _ y l r hy hr => (by have hle := congrArg List.length hr; rw [List.length_drop, List.length_append, hy.2, show (beK 1 y).length = 1 from rfl] at hle; omega)⟩
 ·refine enter [.tmp 4] Tryz.func191 rfl Tryz.ntmps191 rfl rfl ?_
  repeat' (first | refine y1 sg ?_ | refine y3 ?_ | (refine' y33 zBV ?_ ?_; rotate_left 2; exact zFZ he H; rintro v N w ⟨rfl, rfl⟩ H) | (with_reducible first | apply zB | apply zD | apply zC | apply zE) | refine zA ?_ | fail)
  refine zK [(7, 8), (17, 27)] (fun _ : Unit => [(7, .int .u64 0), (17, .int .i64 0)]) (fun _ w => St w0 (rd pr s p :: G) w) (fun _ => 0) () ⟨rfl, rfl, trivial⟩ H ?_
  clear H
  rintro _ gh w H
  repeat' (first | refine y1 sg ?_ | (with_reducible first | apply zB | apply zD | apply zC | apply zF | apply zL | apply zS) | refine zA ?_ | refine y24 ?_ | refine y22 ?_ | fail)
  exact zU (vs := [_]) ⟨zZ rfl, trivial⟩ H ⟨0, _, rfl, rfl, by decide, rfl, Step.dead (by omega) (fun h => he h.1) (fun h => he h.1)⟩
theorem zPE {w0 w : World} {G : zI} {pr : Nat} {s : ByteArray} {p : Rs} (hp : p.pos ≤ s.size) (hs : s.size ≤ 1073741824) (H : St w0 (rd pr s p :: G) w) :
  Calls Tryz.prog 118 [ptr pr, .int .i64 4].toArray w (zf (FixR pr s G p 4 .u32) w0) := by
 have hlen := zP s
 have hbt := zAy s
 by_cases he : p.e = 0
 ·by_cases hn : p.pos + 4 ≤ s.size
  ·have hxs : (s.extract p.pos (p.pos + 4)).size = 4 := by rw [← zP, zc, List.length_take, List.length_drop]; omega
   have hL : zN (s.extract p.pos (p.pos + 4)) = ((zN s).drop p.pos).take 4 := by rw [zc]; congr 1; omega
   obtain ⟨x, hx⟩ : ∃ x, s.extract p.pos (p.pos + 4) = x := ⟨_, rfl⟩
   have hbx := zAy x
   have hxl : (zN x).length = 4 := by rw [zP, ← hx]; exact hxs
   rw [hx] at hL hxs
   refine enter [.tmp 4] Tryz.func118 rfl Tryz.ntmps118 rfl rfl ?_
   repeat' (first | refine y1 sg ?_ | refine y3 ?_ | (refine' y33 zBV ?_ ?_; rotate_left 2; exact (hx ▸ zC7 4 rfl he hs hn H); rintro v N w ⟨rfl, rfl⟩ H) | (with_reducible first | apply zB | apply zD | apply zC | apply zE) | refine zA ?_ | fail)
   refine zK [(7, 8), (17, 27)] (fun i : Nat => [(7, .int .u64 ((beV ((zN x).take i) : Nat) : Int)), (17, .int .i64 ((i : Nat) : Int))]) (fun i w => St w0 (rd pr s ⟨p.pos + 4, p.e, p.to, p.bad⟩ :: G) w ∧ i ≤ 4) (fun i => 4 - i) 0 ⟨rfl, rfl, trivial⟩ ⟨H, by omega⟩ ?_
   clear H
   rintro i gh w ⟨H, hi⟩
   have hV := zDT hbx i
   by_cases hik : i < 4
   ·have hd : decide ((i : Int) < (x.size : Int)) = true := decide_eq_true (by omega)
    obtain ⟨b, hb⟩ : ∃ b, zAI x i = b := ⟨_, rfl⟩
    have hb8 : b < 256 := hb ▸ zBA x i
    have hv : IntKind.u64.wrap (b : Int) = (b : Int) := zBI (by omega)
    have hnx : beV ((zN x).take (i + 1)) = beV ((zN x).take i) * 256 + b := by
     rw [List.take_succ_eq_append_getElem (by omega), zCP, ← hb, ← zB6 x (by omega)]
     simp [List.getElem?_eq_getElem (show i < (zN x).length by omega)]
    have hVs : beV ((zN x).take i) < 72057594037927936 := Nat.lt_of_lt_of_le hV (Nat.le_trans (Nat.pow_le_pow_right (by decide) (show i ≤ 7 by omega)) (by decide))
    repeat' (first | refine y1 sg ?_ | refine y3 ?_ | (refine zY rfl rfl (Yq.strIxB sg hb rfl rfl rfl rfl rfl (Int.toNat_natCast _) (by omega) (by omega)) ?_) | (with_reducible first | apply zB | apply zD | apply zC | apply zE | apply zG) | refine zA ?_ | (refine y23 ?_ ?_; all_goals (intro h; try (exfalso; first | ((rw [hd] at h; cases h); done)))) | fail)
    exact zJ (i + 1) rfl ⟨congrArg (Value.int .u64) (by rw [hv, or8 hVs hb8, hnx]), congrArg (Value.int .i64) (by rw [w64 (by omega) (by omega)]; omega), trivial⟩ ⟨H, by omega⟩ (by omega)
   ·have hd : decide ((i : Int) < (x.size : Int)) = false := decide_eq_false (by omega)
    have hVK : beV (zN x) < 256 ^ 4 := zGs hbx hxl
    have hall : (zN x).take i = zN x := List.take_of_length_le (by omega)
    have hdrop : (zN s).drop p.pos = zN x ++ (zN s).drop (p.pos + 4) := by rw [hL, ← List.drop_drop, List.take_append_drop]
    repeat' (first | refine y1 sg ?_ | (with_reducible first | apply zB | apply zD | apply zC | apply zF | apply zL | apply zS) | refine zA ?_ | refine y24 ?_ | (refine y23 ?_ ?_; all_goals (intro h; try (exfalso; first | ((rw [hd] at h; cases h); done)))) | fail)
    refine zU (vs := [_]) ⟨zZ rfl, trivial⟩ H ⟨beV (zN x), _, congrArg (Value.int .u32) (by rw [hall]; rw [wrK32 hVK]), rfl, hVK, rfl, by simp only; omega, fun hl => ⟨hl, _, ⟨hVK, (zNO hbx hxl).symm⟩, hdrop⟩, fun hl y l r hy hr => ?_⟩
    obtain ⟨hy1, rfl⟩ := hy
    rw [hdrop] at hr
    obtain ⟨e1, e2⟩ := List.append_inj hr (by rw [hxl]; rfl)
    exact ⟨hl, by rw [e1]; exact V_be4 (by omega), e2⟩
  ·refine enter [.tmp 4] Tryz.func118 rfl Tryz.ntmps118 rfl rfl ?_
   repeat' (first | refine y1 sg ?_ | refine y3 ?_ | (refine' y33 zBV ?_ ?_; rotate_left 2; exact zEW 4 rfl he hp hs (by omega) H; rintro v N w ⟨rfl, rfl⟩ H) | (with_reducible first | apply zB | apply zD | apply zC | apply zE) | refine zA ?_ | fail)
   refine zK [(7, 8), (17, 27)] (fun _ : Unit => [(7, .int .u64 0), (17, .int .i64 0)]) (fun _ w => St w0 (rd pr s ⟨p.pos, 8, p.pos, p.bad⟩ :: G) w) (fun _ => 0) () ⟨rfl, rfl, trivial⟩ H ?_
   clear H
   rintro _ gh w H
   repeat' (first | refine y1 sg ?_ | (with_reducible first | apply zB | apply zD | apply zC | apply zF | apply zL | apply zS) | refine zA ?_ | refine y24 ?_ | refine y22 ?_ | fail)
   exact zU (vs := [_]) ⟨zZ rfl, trivial⟩ H ⟨0, _, rfl, rfl, by decide, rfl, by simp only; omega, fun h => absurd h.1 (by simp), fun _ y l r hy hr => (by have hle := congrArg List.length hr; rw [List.length_drop, List.length_append, hy.2, show (beK 4 y).length = 4 from rfl] at hle; omega)⟩
 ·refine enter [.tmp 4] Tryz.func118 rfl Tryz.ntmps118 rfl rfl ?_
  repeat' (first | refine y1 sg ?_ | refine y3 ?_ | (refine' y33 zBV ?_ ?_; rotate_left 2; exact zFZ he H; rintro v N w ⟨rfl, rfl⟩ H) | (with_reducible first | apply zB | apply zD | apply zC | apply zE) | refine zA ?_ | fail)
  refine zK [(7, 8), (17, 27)] (fun _ : Unit => [(7, .int .u64 0), (17, .int .i64 0)]) (fun _ w => St w0 (rd pr s p :: G) w) (fun _ => 0) () ⟨rfl, rfl, trivial⟩ H ?_
  clear H
  rintro _ gh w H
  repeat' (first | refine y1 sg ?_ | (with_reducible first | apply zB | apply zD | apply zC | apply zF | apply zL | apply zS) | refine zA ?_ | refine y24 ?_ | refine y22 ?_ | fail)
  exact zU (vs := [_]) ⟨zZ rfl, trivial⟩ H ⟨0, _, rfl, rfl, by decide, rfl, Step.dead (by omega) (fun h => he h.1) (fun h => he h.1)⟩
theorem zPF {w0 w : World} {G : zI} {pr : Nat} {s : ByteArray} {p : Rs} (hp : p.pos ≤ s.size) (hs : s.size ≤ 1073741824) (H : St w0 (rd pr s p :: G) w) :
  Calls Tryz.prog 117 [ptr pr, .int .i64 8].toArray w (zf (FixR pr s G p 8 .u64) w0) := by
 have hlen := zP s
 have hbt := zAy s
 by_cases he : p.e = 0
 ·by_cases hn : p.pos + 8 ≤ s.size
  ·have hxs : (s.extract p.pos (p.pos + 8)).size = 8 := by rw [← zP, zc, List.length_take, List.length_drop]; omega
   have hL : zN (s.extract p.pos (p.pos + 8)) = ((zN s).drop p.pos).take 8 := by rw [zc]; congr 1; omega
   obtain ⟨x, hx⟩ : ∃ x, s.extract p.pos (p.pos + 8) = x := ⟨_, rfl⟩
   have hbx := zAy x
   have hxl : (zN x).length = 8 := by rw [zP, ← hx]; exact hxs
   rw [hx] at hL hxs
   refine enter [.tmp 4] Tryz.func117 rfl Tryz.ntmps117 rfl rfl ?_
   repeat' (first | refine y1 sg ?_ | refine y3 ?_ | (refine' y33 zBV ?_ ?_; rotate_left 2; exact (hx ▸ zC7 8 rfl he hs hn H); rintro v N w ⟨rfl, rfl⟩ H) | (with_reducible first | apply zB | apply zD | apply zC | apply zE) | refine zA ?_ | fail)
   refine zK [(7, 8), (17, 27)] (fun i : Nat => [(7, .int .u64 ((beV ((zN x).take i) : Nat) : Int)), (17, .int .i64 ((i : Nat) : Int))]) (fun i w => St w0 (rd pr s ⟨p.pos + 8, p.e, p.to, p.bad⟩ :: G) w ∧ i ≤ 8) (fun i => 8 - i) 0 ⟨rfl, rfl, trivial⟩ ⟨H, by omega⟩ ?_
   clear H
   rintro i gh w ⟨H, hi⟩
   have hV := zDT hbx i
   by_cases hik : i < 8
   ·have hd : decide ((i : Int) < (x.size : Int)) = true := decide_eq_true (by omega)
    obtain ⟨b, hb⟩ : ∃ b, zAI x i = b := ⟨_, rfl⟩
    have hb8 : b < 256 := hb ▸ zBA x i
    have hv : IntKind.u64.wrap (b : Int) = (b : Int) := zBI (by omega)
    have hnx : beV ((zN x).take (i + 1)) = beV ((zN x).take i) * 256 + b := by
     rw [List.take_succ_eq_append_getElem (by omega), zCP, ← hb, ← zB6 x (by omega)]
     simp [List.getElem?_eq_getElem (show i < (zN x).length by omega)]
    have hVs : beV ((zN x).take i) < 72057594037927936 := Nat.lt_of_lt_of_le hV (Nat.le_trans (Nat.pow_le_pow_right (by decide) (show i ≤ 7 by omega)) (by decide))
    repeat' (first | refine y1 sg ?_ | refine y3 ?_ | (refine zY rfl rfl (Yq.strIxB sg hb rfl rfl rfl rfl rfl (Int.toNat_natCast _) (by omega) (by omega)) ?_) | (with_reducible first | apply zB | apply zD | apply zC | apply zE | apply zG) | refine zA ?_ | (refine y23 ?_ ?_; all_goals (intro h; try (exfalso; first | ((rw [hd] at h; cases h); done)))) | fail)
    exact zJ (i + 1) rfl ⟨congrArg (Value.int .u64) (by rw [hv, or8 hVs hb8, hnx]), congrArg (Value.int .i64) (by rw [w64 (by omega) (by omega)]; omega), trivial⟩ ⟨H, by omega⟩ (by omega)
   ·have hd : decide ((i : Int) < (x.size : Int)) = false := decide_eq_false (by omega)
    have hVK : beV (zN x) < 256 ^ 8 := zGs hbx hxl
    have hall : (zN x).take i = zN x := List.take_of_length_le (by omega)
    have hdrop : (zN s).drop p.pos = zN x ++ (zN s).drop (p.pos + 8) := by rw [hL, ← List.drop_drop, List.take_append_drop]
    repeat' (first | refine y1 sg ?_ | (with_reducible first | apply zB | apply zD | apply zC | apply zF | apply zL | apply zS) | refine zA ?_ | refine y24 ?_ | (refine y23 ?_ ?_; all_goals (intro h; try (exfalso; first | ((rw [hd] at h; cases h); done)))) | fail)
    refine zU (vs := [_]) ⟨zZ rfl, trivial⟩ H ⟨beV (zN x), _, congrArg (Value.int .u64) (by rw [hall]; skip), rfl, hVK, rfl, by simp only; omega, fun hl => ⟨hl, _, ⟨hVK, (zNP hbx hxl).symm⟩, hdrop⟩, fun hl y l r hy hr => ?_⟩
    obtain ⟨hy1, rfl⟩ := hy
    rw [hdrop] at hr
    obtain ⟨e1, e2⟩ := List.append_inj hr (by rw [hxl]; rfl)
    exact ⟨hl, by rw [e1]; exact zGr (by omega), e2⟩
  ·refine enter [.tmp 4] Tryz.func117 rfl Tryz.ntmps117 rfl rfl ?_
   repeat' (first | refine y1 sg ?_ | refine y3 ?_ | (refine' y33 zBV ?_ ?_; rotate_left 2; exact zEW 8 rfl he hp hs (by omega) H; rintro v N w ⟨rfl, rfl⟩ H) | (with_reducible first | apply zB | apply zD | apply zC | apply zE) | refine zA ?_ | fail)
   refine zK [(7, 8), (17, 27)] (fun _ : Unit => [(7, .int .u64 0), (17, .int .i64 0)]) (fun _ w => St w0 (rd pr s ⟨p.pos, 8, p.pos, p.bad⟩ :: G) w) (fun _ => 0) () ⟨rfl, rfl, trivial⟩ H ?_
   clear H
   rintro _ gh w H
   repeat' (first | refine y1 sg ?_ | (with_reducible first | apply zB | apply zD | apply zC | apply zF | apply zL | apply zS) | refine zA ?_ | refine y24 ?_ | refine y22 ?_ | fail)
   exact zU (vs := [_]) ⟨zZ rfl, trivial⟩ H ⟨0, _, rfl, rfl, by decide, rfl, by simp only; omega, fun h => absurd h.1 (by simp), fun _ y l r hy hr => (by have hle := congrArg List.length hr; rw [List.length_drop, List.length_append, hy.2, show (beK 8 y).length = 8 from rfl] at hle; omega)⟩
 ·refine enter [.tmp 4] Tryz.func117 rfl Tryz.ntmps117 rfl rfl ?_
  repeat' (first | refine y1 sg ?_ | refine y3 ?_ | (refine' y33 zBV ?_ ?_; rotate_left 2; exact zFZ he H; rintro v N w ⟨rfl, rfl⟩ H) | (with_reducible first | apply zB | apply zD | apply zC | apply zE) | refine zA ?_ | fail)
  refine zK [(7, 8), (17, 27)] (fun _ : Unit => [(7, .int .u64 0), (17, .int .i64 0)]) (fun _ w => St w0 (rd pr s p :: G) w) (fun _ => 0) () ⟨rfl, rfl, trivial⟩ H ?_
  clear H
  rintro _ gh w H
  repeat' (first | refine y1 sg ?_ | (with_reducible first | apply zB | apply zD | apply zC | apply zF | apply zL | apply zS) | refine zA ?_ | refine y24 ?_ | refine y22 ?_ | fail)
  exact zU (vs := [_]) ⟨zZ rfl, trivial⟩ H ⟨0, _, rfl, rfl, by decide, rfl, Step.dead (by omega) (fun h => he h.1) (fun h => he h.1)⟩
end Go.Proofs.YtggolnppckpdlaaGreat
set_option linter.unusedSimpArgs false
set_option linter.unusedVariables false
namespace Go.Proofs.YtggolnppckpdlaaGreat
open Go Go.Sk Go.RowKit
attribute [local irreducible] Go.Calls
theorem zKu {w0 w : World} {G : zI} {pr : Nat} {s : ByteArray} {p : Rs} (hp : p.pos ≤ s.size) (hs : s.size ≤ 1073741824) (H : St w0 (rd pr s p :: G) w) :
  Calls Tryz.prog 132 [ptr pr].toArray w (zf (FixR pr s G p 1 .u8) w0) := by
 refine enter [.tmp 2] Tryz.func132 rfl Tryz.ntmps132 rfl rfl ?_
 repeat' (first | refine y1 sg ?_ | refine y3 ?_ | (refine' y33 ent191 ?_ ?_; rotate_left 2; exact zPD hp hs H; rintro v N w ⟨x, p', rfl, rfl, hx, hb, hS⟩ H) | (with_reducible first | apply zB | apply zD | apply zC | apply zF) | refine zA ?_ | fail)
 exact zU (vs := [_]) ⟨zZ rfl, trivial⟩ H ⟨x, p', rfl, rfl, hx, hb, hS⟩
theorem c_rU32 {w0 w : World} {G : zI} {pr : Nat} {s : ByteArray} {p : Rs} (hp : p.pos ≤ s.size) (hs : s.size ≤ 1073741824) (H : St w0 (rd pr s p :: G) w) :
  Calls Tryz.prog 48 [ptr pr].toArray w (zf (FixR pr s G p 4 .u32) w0) := by
 refine enter [.tmp 2] Tryz.func48 rfl Tryz.ntmps48 rfl rfl ?_
 repeat' (first | refine y1 sg ?_ | refine y3 ?_ | (refine' y33 ent118 ?_ ?_; rotate_left 2; exact zPE hp hs H; rintro v N w ⟨x, p', rfl, rfl, hx, hb, hS⟩ H) | (with_reducible first | apply zB | apply zD | apply zC | apply zF) | refine zA ?_ | fail)
 exact zU (vs := [_]) ⟨zZ rfl, trivial⟩ H ⟨x, p', rfl, rfl, hx, hb, hS⟩
theorem c_rU64 {w0 w : World} {G : zI} {pr : Nat} {s : ByteArray} {p : Rs} (hp : p.pos ≤ s.size) (hs : s.size ≤ 1073741824) (H : St w0 (rd pr s p :: G) w) :
  Calls Tryz.prog 47 [ptr pr].toArray w (zf (FixR pr s G p 8 .u64) w0) := by
 refine enter [.tmp 2] Tryz.func47 rfl Tryz.ntmps47 rfl rfl ?_
 repeat' (first | refine y1 sg ?_ | refine y3 ?_ | (refine' y33 ent117 ?_ ?_; rotate_left 2; exact zPF hp hs H; rintro v N w ⟨x, p', rfl, rfl, hx, hb, hS⟩ H) | (with_reducible first | apply zB | apply zD | apply zC | apply zF) | refine zA ?_ | fail)
 exact zU (vs := [_]) ⟨zZ rfl, trivial⟩ H ⟨x, p', rfl, rfl, hx, hb, hS⟩
theorem zB9 {w0 : World} {F : zI} {pr : Nat} {s : ByteArray} {p : Rs} (hF : Mem w0 F) (hm : rd pr s p ∈ F) : Calls Tryz.prog 49 [ptr pr].toArray w0 (Ret (.tuple #[.int .i64 p.e, .int .i64 p.to]) w0) := by
 refine enter [.tmp 2, .tmp 3] Tryz.func49 rfl Tryz.ntmps49 rfl rfl ?_
 have H := zH w0
 repeat' (first | refine y1 sg ?_ | refine y2 sg ?_ | refine y4 ?_ | ((with_reducible apply zo); exact rfl; exact rfl; exact zb sg rfl rfl (H.memF hF) hm rfl rfl) | (with_reducible first | apply zB | apply zD | apply zC | apply zF | apply zG) | (with_reducible apply zV; intro w hcl; replace H := H.ext hcl; clear hcl) | refine zA ?_ | refine y20 mixed ?_ | refine y22 ?_ | fail)
 exact zCO rfl rfl H.cl rfl
theorem zKv {w0 : World} {F : zI} {pr : Nat} {s : ByteArray} {p : Rs} (hp : p.pos ≤ s.size) (hs : s.size ≤ 1073741824) (hF : Mem w0 F) (hm : rd pr s p ∈ F) : Calls Tryz.prog 50 [ptr pr].toArray w0 (Ret (.int .i64 ((s.size - p.pos : Nat) : Int)) w0) := by
 refine enter [.tmp 2] Tryz.func50 rfl Tryz.ntmps50 rfl rfl ?_
 have H := zH w0
 repeat' (first | refine y1 sg ?_ | refine y2 sg ?_ | refine y4 ?_ | ((with_reducible apply zo); exact rfl; exact rfl; exact zb sg rfl rfl (H.memF hF) hm rfl rfl) | (with_reducible first | apply zB | apply zD | apply zC | apply zF | apply zG) | (with_reducible apply zV; intro w hcl; replace H := H.ext hcl; clear hcl) | refine zA ?_ | refine y20 mixed ?_ | refine y22 ?_ | fail)
 exact zQ rfl H.cl (congrArg (Value.int .i64) (by rw [w64 (by omega) (by omega)]; omega))
def zHZ (p : Rs) (n : Nat) : Int := if p.e = 0 ∧ p.pos < n then 4 else p.e
theorem c_Rend {w0 : World} {F : zI} {pr : Nat} {s : ByteArray} {p : Rs} (hp : p.pos ≤ s.size) (hs : s.size ≤ 1073741824) (hF : Mem w0 F) (hm : rd pr s p ∈ F) : Calls Tryz.prog 63 [ptr pr].toArray w0 (Ret (.int .i64 (zHZ p s.size)) w0) := by
 refine enter [.tmp 2] Tryz.func63 rfl Tryz.ntmps63 rfl rfl ?_
 have H := zH w0
 repeat' (first | refine y1 sg ?_ | refine y3 ?_ | refine y5 sg ?_ | (refine' y30 zDM ?_ ?_; rotate_left; exact zB9 (H.memF hF) hm; intro w hcl; replace H := H.ext hcl; clear hcl) | (refine' y30 ent50 ?_ ?_; rotate_left; exact zKv hp hs (H.memF hF) hm; intro w hcl; replace H := H.ext hcl; clear hcl) | refine y13 ?_ | refine y14 ?_ | (refine y17 ?_ ?_; all_goals intro h) | (with_reducible first | apply zB | apply zD | apply zC | apply zF | apply zG | apply zO) | refine zA ?_ | refine y22 ?_ | (refine y23 ?_ ?_; all_goals intro h) | fail)
 all_goals exact zQ rfl H.cl (congrArg (Value.int .i64) (by unfold zHZ; simp only [beq_iff_eq, decide_eq_true_eq, decide_eq_false_iff_not, beq_eq_false_iff_ne, gt_iff_lt] at *; (first | (rw [if_pos (by omega)]; done) | (rw [if_neg (by omega)]; done))))
theorem zNQ {w0 : World} (s : ByteArray) : Calls Tryz.prog 45 [.string s].toArray w0 (zf (fun N v => ∃ b, v = ptr b ∧ N = [rd b s ⟨0, 0, 0, false⟩]) w0) := by
 refine enter [.tmp 2] Tryz.func45 rfl Tryz.ntmps45 rfl rfl ?_
 have H := zH w0
 repeat' (first | refine y1 sg ?_ | refine y3 ?_ | (refine y9 H ?_; intro b w H) | (with_reducible first | apply zB | apply zD | apply zC | apply zF) | refine zA ?_ | fail)
 exact zU (vs := [_]) ⟨zZ rfl, trivial⟩ H ⟨_, rfl, rfl⟩
theorem c_Raw {w0 w : World} {G : zI} {pr : Nat} {s : ByteArray} {p : Rs} {q : Int} (n : Nat) (hq : q = (n : Int)) (hn : n ≤ 4611686018427387904) (he : p.e = 0) (hp : p.pos ≤ s.size) (hs : s.size ≤ 1073741824) (hn : p.pos + n ≤ s.size) (H : St w0 (rd pr s p :: G) w) :
  Calls Tryz.prog 46 [ptr pr, .int .i64 q].toArray w (zf (RdF pr s G ⟨p.pos + n, p.e, p.to, p.bad⟩ (.string (s.extract p.pos (p.pos + n)))) w0) := by
 subst hq
 have hmx : max (n : Int) 0 = (n : Int) := by omega
 refine enter [.tmp 4] Tryz.func46 rfl Tryz.ntmps46 rfl rfl ?_
 repeat' (first | refine y1 sg ?_ | refine y3 ?_ | (refine' y33 zBV ?_ ?_; rotate_left 2; exact zC7 n (by omega) he hs hn H; rintro v N w ⟨rfl, rfl⟩ H) | (with_reducible first | apply zB | apply zD | apply zC | apply zF) | refine zA ?_ | fail)
 exact zU (vs := [_]) ⟨zZ rfl, trivial⟩ H ⟨rfl, rfl⟩
def zFH (most : Nat) (x : ByteArray) (l : List Nat) : Prop := x.size ≤ most ∧ l = short x.size ++ zN x
def TextR (pr : Nat) (s : ByteArray) (G : zI) (p : Rs) (most : Nat) : zI → Value → Prop := fun N v => ∃ (x : ByteArray) (p' : Rs), v = .string x ∧ N = rd pr s p' :: G ∧ x.size ≤ most ∧ p'.bad = p.bad ∧ Step (zN s) (zFH most) p p' x
theorem zKw {w0 w : World} {G : zI} {pr : Nat} {s : ByteArray} {p : Rs} (most : Nat) (hm : most ≤ 1073741824) (hp : p.pos ≤ s.size) (hs : s.size ≤ 1073741824) (H : St w0 (rd pr s p :: G) w) :
  Calls Tryz.prog 123 [ptr pr, .int .i64 (most : Int)].toArray w (zf (TextR pr s G p most) w0) := by
 have hlen := zP s
 by_cases he : p.e = 0
 ·have hd : decide (p.e = 0) = true := decide_eq_true he
  have hmw : IntKind.u64.wrap (if 0 > (most : Int) then 0 else (most : Int)) = (most : Int) := by rw [if_neg (by omega), zBI (by omega)]
  refine enter [.tmp 4] Tryz.func123 rfl Tryz.ntmps123 rfl rfl ?_
  repeat' (first | refine y1 sg ?_ | refine y3 ?_ | refine y7 sg H ?_ | (refine' y30 zD7 ?_ ?_; rotate_left; exact hd ▸ zD9 H.mem (List.Mem.head _); intro w hcl; replace H := H.ext hcl; clear hcl) | (refine' y33 zJO ?_ ?_; rotate_left 2; exact zFx most hmw (by omega) hp hs H; rintro v N w ⟨n, p', rfl, rfl, hn, hb, hS⟩ H) | (with_reducible first | apply zB | apply zD | apply zC | apply zG) | refine zA ?_ | refine y22 ?_ | fail)
  obtain ⟨hi, hsnd, hcpl⟩ := hS
  by_cases he' : p'.e = 0
  ·have hd' : (p'.e != 0) = false := by simp [he']
   have hz : IntKind.u64.wrap (IntKind.i64.wrap ((s.size : Int) - (p'.pos : Int))) = ((s.size - p'.pos : Nat) : Int) := by rw [w64 (by omega) (by omega), show (s.size : Int) - (p'.pos : Int) = ((s.size - p'.pos : Nat) : Int) by omega, zBI (by omega)]
   have hnn : IntKind.i64.wrap (n : Int) = (n : Int) := w64 (by omega) (by omega)
   by_cases hl : s.size < p'.pos + n
   ·have hlt : decide (IntKind.u64.wrap (IntKind.i64.wrap ((s.size : Int) - (p'.pos : Int))) < (n : Int)) = true := decide_eq_true (by rw [hz]; omega)
    repeat' (first | refine y1 sg ?_ | refine y2 sg ?_ | refine y3 ?_ | refine y4 ?_ | refine y8 sg H ?_ | (refine' y33 zFu ?_ ?_; rotate_left 2; exact zDS p.pos rfl H; rintro v N w ⟨rfl, rfl⟩ H) | (with_reducible first | apply zB | apply zD | apply zC | apply zF | apply zG | apply zO) | (with_reducible apply zV; intro w hcl; replace H := H.ext hcl; clear hcl) | refine zA ?_ | refine y20 mixed ?_ | (refine y23 ?_ ?_; all_goals (intro h; try (exfalso; first | ((rw [hd'] at h; cases h); done) | ((rw [hlt] at h; cases h); done)))) | fail)
    exact zU (vs := [_]) ⟨zZ rfl, trivial⟩ H ⟨ByteArray.empty, _, rfl, rfl, Nat.zero_le _, hb, by simp only; omega, fun h => absurd h.1 (by simp), fun hl y l r hy hr => (by
     obtain ⟨hy1, rfl⟩ := hy
     rw [List.append_assoc] at hr
     obtain ⟨e1, e2, e3⟩ := hcpl hl y.size _ _ ⟨by omega, rfl⟩ hr
     have := congrArg List.length e3
     rw [List.length_drop, List.length_append, zP, zP] at this
     omega)⟩
   ·have hlt : decide (IntKind.u64.wrap (IntKind.i64.wrap ((s.size : Int) - (p'.pos : Int))) < (n : Int)) = false := decide_eq_false (by rw [hz]; omega)
    repeat' (first | refine y1 sg ?_ | refine y2 sg ?_ | refine y3 ?_ | refine y4 ?_ | refine y8 sg H ?_ | (refine' y33 ent46 ?_ ?_; rotate_left 2; exact c_Raw n hnn (by omega) he' (by omega) hs (by omega) H; rintro v N w ⟨rfl, rfl⟩ H) | (with_reducible first | apply zB | apply zD | apply zC | apply zF | apply zG) | (with_reducible apply zV; intro w hcl; replace H := H.ext hcl; clear hcl) | refine zA ?_ | refine y20 mixed ?_ | (refine y23 ?_ ?_; all_goals (intro h; try (exfalso; first | ((rw [hd'] at h; cases h); done) | ((rw [hlt] at h; cases h); done)))) | fail)
    have hx : zN (s.extract p'.pos (p'.pos + n)) = ((zN s).drop p'.pos).take n := by rw [zc]; congr 1; omega
    have hxs : (s.extract p'.pos (p'.pos + n)).size = n := by rw [← zP, hx, List.length_take, List.length_drop]; omega
    have hdr : (zN s).drop p'.pos = zN (s.extract p'.pos (p'.pos + n)) ++ (zN s).drop (p'.pos + n) := by rw [hx, ← List.drop_drop, List.take_append_drop]
    refine zU (vs := [_]) ⟨zZ rfl, trivial⟩ H ⟨_, _, rfl, rfl, by omega, hb, by simp only; omega, fun h => ?_, fun hl y l r hy hr => ?_⟩
    ·obtain ⟨h1, l, ⟨_, rfl⟩, h2⟩ := hsnd h
     exact ⟨h1, _, ⟨by omega, rfl⟩, by rw [h2, hxs, List.append_assoc]; exact congrArg _ hdr⟩
    ·obtain ⟨hy1, rfl⟩ := hy
     rw [List.append_assoc] at hr
     obtain ⟨e1, e2, e3⟩ := hcpl hl y.size _ _ ⟨by omega, rfl⟩ hr
     rw [hdr] at e3
     obtain ⟨e4, e5⟩ := List.append_inj e3 (by rw [zP, zP]; omega)
     exact ⟨e1, zCt e4, e5⟩
  ·have hd' : (p'.e != 0) = true := by simp [he']
   repeat' (first | refine y1 sg ?_ | (with_reducible first | apply zB | apply zD | apply zC | apply zF | apply zO) | refine zA ?_ | (refine y23 ?_ ?_; all_goals (intro h; try (exfalso; first | ((rw [hd'] at h; cases h); done)))) | fail)
   exact zU (vs := [_]) ⟨zZ rfl, trivial⟩ H ⟨ByteArray.empty, _, rfl, rfl, Nat.zero_le _, hb, hi, fun h => absurd h.1 he', fun hl y l r hy hr => (by
    obtain ⟨hy1, rfl⟩ := hy
    rw [List.append_assoc] at hr
    exact absurd (hcpl hl y.size _ _ ⟨by omega, rfl⟩ hr).1.1 he')⟩
 ·have hd : decide (p.e = 0) = false := decide_eq_false he
  refine enter [.tmp 4] Tryz.func123 rfl Tryz.ntmps123 rfl rfl ?_
  repeat' (first | refine y1 sg ?_ | refine y3 ?_ | (refine' y30 zD7 ?_ ?_; rotate_left; exact hd ▸ zD9 H.mem (List.Mem.head _); intro w hcl; replace H := H.ext hcl; clear hcl) | (with_reducible first | apply zB | apply zD | apply zC | apply zF | apply zO) | refine zA ?_ | refine y21 ?_ | fail)
  exact zU (vs := [_]) ⟨zZ rfl, trivial⟩ H ⟨ByteArray.empty, p, rfl, rfl, Nat.zero_le _, rfl, Step.dead (by omega) (fun h => he h.1) (fun h => he h.1)⟩
end Go.Proofs.YtggolnppckpdlaaGreat
set_option linter.unusedSimpArgs false
set_option linter.unusedVariables false
namespace Go.Proofs.YtggolnppckpdlaaGreat
open Go Go.Sk Go.RowKit
def zp (n m : Int) : Bool := decide (n ≥ 1) && decide (n ≤ m)
theorem zC8 (n m : Int) (w : World) : Calls Tryz.prog 297 [.int .i64 n, .int .i64 m].toArray w (Ret (.bool (zp n m)) w) := by
 refine enter [.tmp 4] Tryz.func297 rfl Tryz.ntmps297 rfl rfl ?_
 have H := zH w
 repeat' (first | refine y1 sg ?_ | refine y5 sg ?_ | refine y13 ?_ | refine y14 ?_ | (refine y17 ?_ ?_; all_goals intro h) | (with_reducible first | apply zB | apply zD | apply zC | apply zF) | refine zA ?_ | fail)
 all_goals exact zQ rfl H.cl (by simp [zp, h])
theorem zEu (n m : Int) (w : World) : Calls Tryz.prog 298 [.int .i64 n, .int .i64 m].toArray w (Ret (.bool (zp n m)) w) := by
 refine enter [.tmp 4] Tryz.func298 rfl Tryz.ntmps298 rfl rfl ?_
 have H := zH w
 repeat' (first | refine y1 sg ?_ | refine y5 sg ?_ | refine y13 ?_ | refine y14 ?_ | (refine y17 ?_ ?_; all_goals intro h) | (with_reducible first | apply zB | apply zD | apply zC | apply zF) | refine zA ?_ | fail)
 all_goals exact zQ rfl H.cl (by simp [zp, h])
theorem c_in (n m : Int) (w : World) : Calls Tryz.prog 265 [.int .i64 n, .int .i64 m].toArray w (Ret (.bool (zp n m)) w) := by
 refine enter [.tmp 4] Tryz.func265 rfl Tryz.ntmps265 rfl rfl ?_
 have H := zH w
 repeat' (first | refine y1 sg ?_ | refine y5 sg ?_ | refine y13 ?_ | refine y14 ?_ | (refine y17 ?_ ?_; all_goals intro h) | (with_reducible first | apply zB | apply zD | apply zC | apply zF) | refine zA ?_ | fail)
 all_goals exact zQ rfl H.cl (by simp [zp, h])
structure Bid where
 acct : Int
 amount : Int
 deriving DecidableEq, Inhabited
def Bid.cells (b : Bid) : List Value := [.int .i64 b.acct, .int .i64 b.amount]
structure Auc where
 id : Int
 seller : Int
 inst : Int
 sealed : Bool
 qty : Int
 reserve : Int
 step : Int
 fin : Int
 bids : List Bid
 deriving DecidableEq, Inhabited
def Auc.cells (x : Auc) (a : Option Addr) (cap : Nat) : List Value :=
 [.int .i64 x.id, .int .i64 x.seller, .int .i64 x.inst, .bool x.sealed, .int .i64 x.qty, .int .i64 x.reserve, .int .i64 x.step, .int .i64 x.fin, .slice a x.bids.length cap]
def bel (l : List Bid) (j : Nat) : List Value := (l.getD j default).cells
def Bids (F : zI) (a : Option Addr) (cap : Nat) (l : List Bid) : Prop := SlA F 2 a l.length cap (bel l)
theorem c_of (x : Auc) (a : Option Addr) (cap : Nat) (w : World) : Calls Tryz.prog 299 [.agg (x.cells a cap).toArray].toArray w (Ret (.iface (if x.sealed then 326 else 327) (.agg #[])) w) := by
 refine enter [.tmp 2] Tryz.func299 rfl Tryz.ntmps299 rfl rfl ?_
 have H := zH w
 repeat' (first | refine y1 sg ?_ | refine y3 ?_ | refine y7 sg H ?_ | (refine y9 H ?_; intro b w H) | (with_reducible first | apply zB | apply zD | apply zC | apply zF | apply zG | apply zO) | refine zA ?_ | (refine y23 ?_ ?_; all_goals intro h) | fail)
 all_goals exact zQ rfl H.cl (by simp [h])
theorem zPG (c d : Bid) (T : TypeId) (b : Nat) (w : World) (F : zI) (hF : Mem w F) (hm : (b, Obj.cells d.cells.toArray T (0, 0)) ∈ F) :
  Calls Tryz.prog 311 [.agg c.cells.toArray, .pointer (some ⟨b, 0, none⟩)].toArray w (Ret (.bool (c.acct == d.acct)) w) := by
 refine enter [.tmp 3] Tryz.func311 rfl Tryz.ntmps311 rfl rfl ?_
 have H := zH w
 repeat' (first | refine y1 sg ?_ | refine y3 ?_ | refine y7 sg H ?_ | (refine y9 H ?_; intro b w H) | (refine zY rfl rfl (zb sg rfl rfl (H.memF hF) hm rfl rfl) ?_) | (with_reducible first | apply zB | apply zD | apply zC | apply zF) | refine zA ?_ | fail)
 all_goals exact zQ rfl H.cl rfl
end Go.Proofs.YtggolnppckpdlaaGreat
