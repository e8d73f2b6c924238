/- Texts of ours, joined: the steps of the proof, or the claim's theorem. -/
import Derived.Test.YtggolnppckpdlaaGreatQ03
import Derived.Test.YtggolnppckpdlaaGreatQ04
import Derived.Test.YtggolnppckpdlaaGreatQ05
set_option linter.unusedSimpArgs false
set_option linter.unusedVariables false
namespace Go.Proofs.YtggolnppckpdlaaGreat
open Go Go.Sk Go.RowKit
attribute [local irreducible] Go.Calls
structure Rs where
  pos : Nat
  e : Int
  to : Nat
  bad : Bool
def Rs.live (p : Rs) : Prop := p.e = 0 ∧ p.bad = false
structure Step {α : Type} (B : List Nat) (P : α → List Nat → Prop) (p p' : Rs) (x : α) : Prop where
  inv : p'.pos ≤ B.length
  snd : p'.live → p.live ∧ ∃ l, P x l ∧ B.drop p.pos = l ++ B.drop p'.pos
  cpl : p.live → ∀ y l r, P y l → B.drop p.pos = l ++ r → p'.live ∧ x = y ∧ B.drop p'.pos = r
theorem Step.dead {α : Type} {B : List Nat} {P : α → List Nat → Prop} {p p' : Rs} {x : α} (hi : p'.pos ≤ B.length) (h : ¬ p.live) (h' : ¬ p'.live) : Step B P p p' x :=
  ⟨hi, fun k => absurd k h', fun k => absurd k h⟩
abbrev rd (pr : Nat) (s : ByteArray) (p : Rs) : Nat × Obj := cb pr [.string s, .int .i64 (p.pos : Int), .int .i64 p.e, .int .i64 (p.to : Int)] 166
def RdF (pr : Nat) (s : ByteArray) (G : Frag) (p : Rs) (v0 : Value) : Frag → Value → Prop := fun N v => v = v0 ∧ N = rd pr s p :: G
theorem c_good {w0 : World} {F : Frag} {pr : Nat} {s : ByteArray} {p : Rs} (hF : Mem w0 F) (hm : rd pr s p ∈ F) : Calls Tryz.prog 188 [ptr pr].toArray w0 (Ret (.bool (decide (p.e = 0))) w0) := by
  refine enter [.tmp 2] Tryz.func188 rfl Tryz.ntmps188 rfl rfl ?_
  have H := St.start w0
  repeat' (first | refine y1 sg ?_ | refine y5 sg ?_ | ((with_reducible apply OX.val); exact rfl; exact rfl; exact Yq.loadS sg rfl rfl (H.memF hF) hm rfl rfl) | refine y13 ?_ | with_reducible apply OW.nil | with_reducible apply thn_n | with_reducible apply CW.seq | refine CW.region ?_ | with_reducible apply CW.ret | fail)
  exact ret1 rfl H.cl (congrArg Value.bool (by by_cases h : p.e = 0 <;> simp [h]))
theorem c_rwrong {w0 w : World} {G : Frag} {pr : Nat} {s : ByteArray} {p : Rs} {e : Int} {q : Int} (n : Nat) (hq : q = (n : Int)) (H : St w0 (rd pr s p :: G) w) : Calls Tryz.prog 189 [ptr pr, .int .i64 e, .int .i64 q].toArray w (RetF (RdF pr s G ⟨n, e, n, p.bad⟩ (.tuple #[])) w0) := by
  subst hq
  refine enter [] Tryz.func189 rfl Tryz.ntmps189 rfl rfl ?_
  repeat' (first | refine y1 sg ?_ | refine y3 ?_ | (refine y11 sg H ?_; intro w H) | with_reducible apply OW.nil | refine CW.region ?_ | fail)
  exact retVFn (vs := []) trivial H ⟨rfl, rfl⟩
theorem c_takeN {w0 w : World} {G : Frag} {pr : Nat} {s : ByteArray} {p : Rs} {q : Int} (he : p.e ≠ 0) (H : St w0 (rd pr s p :: G) w) : Calls Tryz.prog 116 [ptr pr, .int .i64 q].toArray w (RetF (RdF pr s G p (.tuple #[.string ByteArray.empty, .bool false])) w0) := by
  have hd : decide (p.e = 0) = false := decide_eq_false he
  refine enter [.tmp 4, .tmp 5] Tryz.func116 rfl Tryz.ntmps116 rfl rfl ?_
  repeat' (first | refine y1 sg ?_ | refine y3 ?_ | (refine' y30 ent188 ?_ ?_; rotate_left; exact hd ▸ c_good H.mem (List.Mem.head _); intro w hcl; replace H := H.ext hcl; clear hcl) | with_reducible apply OW.nil | with_reducible apply thn_n | with_reducible apply CW.seq | refine CW.region ?_ | with_reducible apply CW.ret | with_reducible apply thn_r | refine y21 ?_ | fail)
  exact retVF (vs := [_, _]) ⟨rdvT rfl, rdvT rfl, trivial⟩ H ⟨rfl, rfl⟩
theorem c_takeS {w0 w : World} {G : Frag} {pr : Nat} {s : ByteArray} {p : Rs} {q : Int} (n : Nat) (hq : q = (n : Int)) (he : p.e = 0) (hp : p.pos ≤ s.size) (hs : s.size ≤ 1073741824) (hn : s.size < p.pos + n) (H : St w0 (rd pr s p :: G) w) :
    Calls Tryz.prog 116 [ptr pr, .int .i64 q].toArray w (RetF (RdF pr s G ⟨p.pos, 8, p.pos, p.bad⟩ (.tuple #[.string ByteArray.empty, .bool false])) w0) := by
  subst hq
  have hd : decide (p.e = 0) = true := decide_eq_true he
  have hlt : decide (IntKind.i64.wrap ((s.size : Int) - (p.pos : Int)) < (n : Int)) = true := decide_eq_true (by rw [w64 (by omega) (by omega)]; omega)
  refine enter [.tmp 4, .tmp 5] Tryz.func116 rfl Tryz.ntmps116 rfl rfl ?_
  repeat' (first | refine y1 sg ?_ | refine y2 sg ?_ | refine y3 ?_ | refine y4 ?_ | refine y7 sg H ?_ | refine y8 sg H ?_ | (refine' y30 ent188 ?_ ?_; rotate_left; exact hd ▸ c_good H.mem (List.Mem.head _); intro w hcl; replace H := H.ext hcl; clear hcl) | (refine' y33 ent189 ?_ ?_; rotate_left 2; exact c_rwrong p.pos rfl H; rintro v N w ⟨rfl, rfl⟩ H) | with_reducible apply OW.nil | (with_reducible apply QW.nil; intro w hcl; replace H := H.ext hcl; clear hcl) | with_reducible apply thn_n | with_reducible apply CW.seq | refine CW.region ?_ | refine y20 mixed ?_ | with_reducible apply CW.ret | with_reducible apply CW.skip | with_reducible apply thn_r | refine y22 ?_ | (refine y23 ?_ ?_; all_goals (intro h; try (exfalso; first | ((rw [hlt] at h; cases h); done)))) | fail)
  exact retVF (vs := [_, _]) ⟨rdvT rfl, rdvT rfl, trivial⟩ H ⟨rfl, rfl⟩
theorem c_takeG {w0 w : World} {G : Frag} {pr : Nat} {s : ByteArray} {p : Rs} {q : Int} (n : Nat) (hq : q = (n : Int)) (he : p.e = 0) (hs : s.size ≤ 1073741824) (hn : p.pos + n ≤ s.size) (H : St w0 (rd pr s p :: G) w) :
    Calls Tryz.prog 116 [ptr pr, .int .i64 q].toArray w (RetF (RdF pr s G ⟨p.pos + n, p.e, p.to, p.bad⟩ (.tuple #[.string (s.extract p.pos (p.pos + n)), .bool true])) w0) := by
  subst hq
  have hd : decide (p.e = 0) = true := decide_eq_true he
  have hlt : decide (IntKind.i64.wrap ((s.size : Int) - (p.pos : Int)) < (n : Int)) = false := decide_eq_false (by rw [w64 (by omega) (by omega)]; omega)
  have hw : IntKind.i64.wrap ((p.pos : Int) + (n : Int)) = ((p.pos + n : Nat) : Int) := by rw [w64 (by omega) (by omega)]; omega
  refine enter [.tmp 4, .tmp 5] Tryz.func116 rfl Tryz.ntmps116 rfl rfl ?_
  repeat' (first | refine y1 sg ?_ | refine y2 sg ?_ | refine y3 ?_ | refine y4 ?_ | refine y7 sg H ?_ | refine y8 sg H ?_ | (refine y11 sg H ?_; intro w H) | (refine' y30 ent188 ?_ ?_; rotate_left; exact hd ▸ c_good H.mem (List.Mem.head _); intro w hcl; replace H := H.ext hcl; clear hcl) | ((with_reducible apply QX.val); exact rfl; exact rfl; exact (Yq.strCut sg (i := p.pos) (j := p.pos + n) rfl rfl rfl rfl rfl rfl (Int.toNat_natCast _) ((congrArg Int.toNat hw).trans (Int.toNat_natCast _)) (by omega) (by rw [hw]; omega) (by rw [hw]; omega))) | with_reducible apply OW.nil | (with_reducible apply QW.nil; intro w hcl; replace H := H.ext hcl; clear hcl) | with_reducible apply thn_n | with_reducible apply CW.seq | refine CW.region ?_ | refine y20 mixed ?_ | with_reducible apply CW.ret | with_reducible apply CW.skip | refine y22 ?_ | (refine y23 ?_ ?_; all_goals (intro h; try (exfalso; first | ((rw [hlt] at h; cases h); done)))) | fail)
  rw [hw] at H
  exact retVF (vs := [_, _]) ⟨rdvT rfl, rdvT rfl, trivial⟩ H ⟨rfl, rfl⟩
theorem drop_cons {B : List Nat} {i : Nat} (h : i < B.length) : B.drop i = B.getD i 0 :: B.drop (i + 1) := by
  rw [List.drop_eq_getElem_cons h]; simp [List.getElem?_eq_getElem h]
def ShS (B : List Nat) (from_ k n pos : Nat) : Prop := ∀ m, (0 < k → 1 ≤ m) → ∀ r, B.drop pos = short m ++ r → B.drop from_ = short (n + 128 ^ k * m) ++ r
def ShC (B : List Nat) (from_ k n pos : Nat) : Prop := ∀ y r, B.drop from_ = short y ++ r → ∃ m, y = n + 128 ^ k * m ∧ (0 < k → 1 ≤ m) ∧ B.drop pos = short m ++ r
theorem ShS.first (B : List Nat) (a : Nat) : ShS B a 0 0 a := fun m _ r h => by simpa using h
theorem ShC.first (B : List Nat) (a : Nat) : ShC B a 0 0 a := fun y r h => ⟨y, by simp, fun k => absurd k (by decide), h⟩
theorem pow_step (n k c m : Nat) : n + 128 ^ k * (c + 128 * m) = (n + c * 128 ^ k) + 128 ^ (k + 1) * m := by
  rw [Nat.pow_succ, Nat.mul_add, Nat.mul_comm c, Nat.mul_assoc, Nat.add_assoc]
theorem ShS.next {B : List Nat} {a k n pos b : Nat} (h : ShS B a k n pos) (hb : 128 ≤ b) (hb2 : b < 256) (hd : B.drop pos = b :: B.drop (pos + 1)) : ShS B a (k + 1) (n + b % 128 * 128 ^ k) (pos + 1) := by
  intro m hm r hr
  have hm := hm (by omega)
  have := h (b % 128 + 128 * m) (fun _ => by omega) r (by
    rw [hd, hr, short_ge (n := b % 128 + 128 * m) (by omega), List.cons_append, show (b % 128 + 128 * m) % 128 + 128 = b by omega, show (b % 128 + 128 * m) / 128 = m by omega])
  rw [this, pow_step]
theorem ShC.next {B : List Nat} {a k n pos b : Nat} (h : ShC B a k n pos) (hb : 128 ≤ b) (hb2 : b < 256) (hd : B.drop pos = b :: B.drop (pos + 1)) : ShC B a (k + 1) (n + b % 128 * 128 ^ k) (pos + 1) := by
  intro y r hy
  obtain ⟨m, rfl, h1, h2⟩ := h y r hy
  rw [hd] at h2
  have hm : ¬ m < 128 := fun hm => by
    rw [short_lt hm, List.cons_append, List.nil_append] at h2
    have := (List.cons.inj h2).1; omega
  rw [short_ge hm, List.cons_append] at h2
  obtain ⟨e1, e2⟩ := List.cons.inj h2
  refine ⟨m / 128, ?_, fun _ => by omega, e2⟩
  rw [← pow_step]
  congr 2; omega
theorem ShS.last {B : List Nat} {a k n pos b : Nat} (h : ShS B a k n pos) (hb : b < 128) (h0 : 0 < k → b ≠ 0) (hd : B.drop pos = b :: B.drop (pos + 1)) : B.drop a = short (n + b % 128 * 128 ^ k) ++ B.drop (pos + 1) := by
  have := h b (fun k => by have := h0 k; omega) _ (by rw [short_lt hb]; exact hd)
  rw [this, Nat.mod_eq_of_lt hb, Nat.mul_comm]
theorem ShC.last {B : List Nat} {a k n pos b : Nat} (h : ShC B a k n pos) (hb : b < 128) (hd : B.drop pos = b :: B.drop (pos + 1)) {y : Nat} {r : List Nat} (hy : B.drop a = short y ++ r) : y = n + b % 128 * 128 ^ k ∧ B.drop (pos + 1) = r ∧ (0 < k → b ≠ 0) := by
  obtain ⟨m, rfl, h1, h2⟩ := h y r hy
  rw [hd] at h2
  by_cases hm : m < 128
  · rw [short_lt hm, List.cons_append, List.nil_append] at h2
    obtain ⟨e1, e2⟩ := List.cons.inj h2
    subst e1
    exact ⟨by rw [Nat.mod_eq_of_lt hb, Nat.mul_comm], e2, fun k => by have := h1 k; omega⟩
  · rw [short_ge hm, List.cons_append] at h2
    have := (List.cons.inj h2).1; omega
theorem ShC.nine {B : List Nat} {a n pos b : Nat} (h : ShC B a 9 n pos) (hb2 : b < 256) (hb : 1 < b) (hd : B.drop pos = b :: B.drop (pos + 1)) {y : Nat} {r : List Nat} (hy : B.drop a = short y ++ r) (hm : y < 18446744073709551616) : False := by
  obtain ⟨m, rfl, h1, h2⟩ := h y r hy
  have : m ≤ 1 := by
    rw [show 128 ^ 9 = 9223372036854775808 from by decide] at hm; omega
  rw [hd, short_lt (by omega), List.cons_append] at h2
  have := (List.cons.inj h2).1; omega
theorem ShC.gone {B : List Nat} {a k n pos : Nat} (h : ShC B a k n pos) (hd : B.length ≤ pos) {y : Nat} {r : List Nat} (hy : B.drop a = short y ++ r) : False := by
  obtain ⟨m, rfl, h1, h2⟩ := h y r hy
  rw [List.drop_eq_nil_of_le hd] at h2
  by_cases hm : m < 128
  · rw [short_lt hm] at h2; simp at h2
  · rw [short_ge hm] at h2; simp at h2
theorem notLow {b : Nat} (hb : b < 256) : IntKind.u64.wrap ((BitVec.ofInt IntKind.u64.bits (b : Int) &&& ~~~BitVec.ofInt IntKind.u64.bits 128).toNat : Int) = ((b % 128 : Nat) : Int) := by
  have : ∀ x : Fin 256, IntKind.u64.wrap ((BitVec.ofInt IntKind.u64.bits ((x.1 : Nat) : Int) &&& ~~~BitVec.ofInt IntKind.u64.bits 128).toNat : Int) = ((x.1 % 128 : Nat) : Int) := by decide +kernel
  exact this ⟨b, hb⟩
theorem orShift {n k c : Nat} (hn : n < 128 ^ k) (hk : k ≤ 9) (hc : c < 128) (h9 : k = 9 → c ≤ 1) :
    IntKind.u64.wrap ((BitVec.ofInt IntKind.u64.bits (n : Int) ||| BitVec.ofInt IntKind.u64.bits (IntKind.u64.wrap ((c : Int) * 2 ^ (min (7 * k) IntKind.u64.bits)))).toNat : Int) = ((n + c * 128 ^ k : Nat) : Int) ∧ n + c * 128 ^ k < 18446744073709551616 := by
  have e7 : ∀ j, (2 : Nat) ^ (7 * j) = 128 ^ j := fun j => by rw [Nat.pow_mul]
  have hP : 128 ^ k ≤ 9223372036854775808 := by
    have := Nat.pow_le_pow_right (n := 128) (by decide) hk
    simpa using this
  have hcP : c * 128 ^ k + 128 ^ k ≤ 18446744073709551616 := by
    rcases Nat.lt_or_ge k 9 with h | h
    · have h8 : 128 ^ k ≤ 72057594037927936 := by
        have := Nat.pow_le_pow_right (n := 128) (by decide) (show k ≤ 8 by omega)
        simpa using this
      have := Nat.mul_le_mul (show c + 1 ≤ 128 by omega) h8
      rw [Nat.add_mul] at this; omega
    · have : k = 9 := by omega
      have hc1 := h9 this
      have := Nat.mul_le_mul (show c + 1 ≤ 2 by omega) hP
      rw [Nat.add_mul] at this; omega
  have hmin : min (7 * k) IntKind.u64.bits = 7 * k := by simp [IntKind.bits]; omega
  have hN : n + c * 128 ^ k < 18446744073709551616 := by omega
  refine ⟨?_, hN⟩
  rw [hmin, show ((2 : Int) ^ (7 * k)) = ((128 ^ k : Nat) : Int) by rw [← e7]; push_cast; rfl, ← Int.natCast_mul, w64u (n := c * 128 ^ k) (by omega)]
  rw [BitVec.ofInt_natCast, BitVec.ofInt_natCast, BitVec.toNat_or, BitVec.toNat_ofNat, BitVec.toNat_ofNat, show n % 2 ^ IntKind.u64.bits = n from Nat.mod_eq_of_lt (show n < 2 ^ 64 by omega), show c * 128 ^ k % 2 ^ IntKind.u64.bits = c * 128 ^ k from Nat.mod_eq_of_lt (show c * 128 ^ k < 2 ^ 64 by omega)]
  have := Nat.two_pow_add_eq_or_of_lt (i := 7 * k) (b := n) (by rw [e7]; exact hn) c
  rw [e7, Nat.mul_comm] at this
  rw [Nat.or_comm, ← this, w64u (by omega)]
  congr 1; omega
def shortP (most : Nat) (x : Nat) (l : List Nat) : Prop := x ≤ most ∧ l = short x
def ShortR (pr : Nat) (s : ByteArray) (G : Frag) (p : Rs) (most : Nat) : Frag → Value → Prop := fun N v => ∃ (x : Nat) (p' : Rs), v = .int .u64 (x : Int) ∧ N = rd pr s p' :: G ∧ x ≤ most ∧ p'.bad = p.bad ∧ Step (strL s) (shortP most) p p' x
theorem strL_at' (s : ByteArray) {k : Nat} (hk : k < s.size) : (strL s).getD k 0 = byteAt s k := by
  have hk2 : k < s.data.size := hk
  unfold strL byteAt
  rw [List.getD_eq_getElem?_getD, List.getElem?_map, Array.getElem?_toList, Array.getElem?_eq_getElem hk2, Array.getD, dif_pos hk2]
  rfl
theorem byte0 (s : ByteArray) (i : Nat) (h : i < s.size) : byteAt (s.extract i (i + 1)) 0 = (strL s).getD i 0 := by
  have h1 : i < (strL s).length := by rw [strL_len]; exact h
  have h2 : strL (s.extract i (i + 1)) = [(strL s).getD i 0] := by
    rw [strL_extract, drop_cons h1]
    simp
  rw [← strL_at' _ (by rw [← strL_len, h2]; exact Nat.zero_lt_one), h2]
  rfl
theorem ShC.bad {B : List Nat} {a k n pos b : Nat} (h : ShC B a k n pos) (hb2 : b < 256) (hd : B.drop pos = b :: B.drop (pos + 1)) (hbad : (k = 9 ∧ 1 < b) ∨ (0 < k ∧ b = 0)) {y : Nat} {r : List Nat} (hy : B.drop a = short y ++ r) (hm : y < 18446744073709551616) : False := by
  rcases hbad with ⟨rfl, h1⟩ | ⟨h1, rfl⟩
  · exact h.nine hb2 h1 hd hy hm
  · exact (h.last (by decide) hd hy).2.2 h1 rfl
theorem pow_next {n k c : Nat} (hn : n < 128 ^ k) (hc : c < 128) : n + c * 128 ^ k < 128 ^ (k + 1) := by
  have := Nat.mul_le_mul (show c + 1 ≤ 128 by omega) (Nat.le_refl (128 ^ k))
  rw [Nat.add_mul] at this
  rw [Nat.pow_succ]; omega
def upX (n most : Nat) : Nat := if n ≤ most then n else 0
def upS (n most a : Nat) (p : Rs) : Rs := if n ≤ most then p else ⟨a, 40, a, p.bad⟩
theorem c_rupTo {w0 w : World} {G : Frag} {pr : Nat} {s : ByteArray} {p : Rs} {q m r : Int} (n most a : Nat) (hq : q = (n : Int)) (hm : m = (most : Int)) (hr : r = (a : Int)) (H : St w0 (rd pr s p :: G) w) :
    Calls Tryz.prog 225 [ptr pr, .int .u64 q, .int .u64 m, .int .i64 r].toArray w (RetF (RdF pr s G (upS n most a p) (.int .u64 (upX n most : Nat))) w0) := by
  subst hq; subst hm; subst hr
  by_cases h1 : n ≤ most
  · have hd : decide ((n : Int) > (most : Int)) = false := decide_eq_false (by omega)
    refine enter [.tmp 8] Tryz.func225 rfl Tryz.ntmps225 rfl rfl ?_
    repeat' (first | refine y1 sg ?_ | with_reducible apply OW.nil | with_reducible apply thn_n | with_reducible apply CW.seq | refine CW.region ?_ | with_reducible apply CW.ret | with_reducible apply CW.skip | (refine y23 ?_ ?_; all_goals (intro h; try (exfalso; first | ((rw [hd] at h; cases h); done)))) | fail)
    exact retVF (vs := [_]) ⟨rdvT rfl, trivial⟩ H ⟨by unfold upX; rw [if_pos h1]; rfl, by unfold upS; rw [if_pos h1]⟩
  · have hd : decide ((n : Int) > (most : Int)) = true := decide_eq_true (by omega)
    refine enter [.tmp 8] Tryz.func225 rfl Tryz.ntmps225 rfl rfl ?_
    repeat' (first | refine y1 sg ?_ | refine y3 ?_ | (refine' y33 ent189 ?_ ?_; rotate_left 2; exact c_rwrong a rfl H; rintro v N w ⟨rfl, rfl⟩ H) | with_reducible apply OW.nil | with_reducible apply thn_n | with_reducible apply CW.seq | refine CW.region ?_ | with_reducible apply CW.ret | with_reducible apply thn_r | (refine y23 ?_ ?_; all_goals (intro h; try (exfalso; first | ((rw [hd] at h; cases h); done)))) | fail)
    exact retVF (vs := [_]) ⟨rdvT rfl, trivial⟩ H ⟨by unfold upX; rw [if_neg h1]; rfl, by unfold upS; rw [if_neg h1]⟩
theorem Yq.strIxB {P : Program} (S : Sig P) {o : Oper} {e : Env} {w : World} {t : TypeId} {x i : Operand} {s : ByteArray} {j b : Nat} {k : IntKind} {q : Int} {ti : TI} (hb : byteAt s j = b) (ho : o.op = .index t x i) (hx : ev e x = .string s) (hi : ev e i = .int k q) (ht : lk S.tab t = some ti) (htd : ti.d = .string) (hj : q.toNat = j) (h0 : 0 ≤ q) (h1 : q < s.size) :
    Yq P o e w (.int .u8 (b : Nat)) := by subst hb; exact Yq.strIx S ho hx hi ht htd hj h0 h1
set_option maxRecDepth 20000 in
theorem c_rShort {w0 w : World} {G : Frag} {pr : Nat} {s : ByteArray} {p : Rs} {q : Int} (most : Nat) (hq : q = (most : Int)) (hm : most < 18446744073709551616) (hp : p.pos ≤ s.size) (hs : s.size ≤ 1073741824) (H : St w0 (rd pr s p :: G) w) :
    Calls Tryz.prog 190 [ptr pr, .int .u64 q].toArray w (RetF (ShortR pr s G p most) w0) := by
  subst hq
  have hlen := strL_len s
  by_cases he : p.e = 0
  · have hd : decide (p.e = 0) = true := decide_eq_true he
    obtain ⟨a, e, to_, bad⟩ := p
    simp only at he hp hd
    subst he
    refine enter [.tmp 4] Tryz.func190 rfl Tryz.ntmps190 rfl rfl ?_
    repeat' (first | refine y1 sg ?_ | refine y3 ?_ | refine y7 sg H ?_ | (refine' y30 ent188 ?_ ?_; rotate_left; exact hd ▸ c_good H.mem (List.Mem.head _); intro w hcl; replace H := H.ext hcl; clear hcl) | with_reducible apply OW.nil | with_reducible apply thn_n | with_reducible apply CW.seq | refine CW.region ?_ | with_reducible apply CW.block | with_reducible apply CW.skip | refine y22 ?_ | fail)
    refine CW.loopI [(4, 4), (6, 10), (18, 61)] (fun x : Nat × Nat => [(6, .int .u64 (x.2 : Int)), (7, .int .i64 ((7 * x.1 : Nat) : Int))]) (fun x w => St w0 (rd pr s ⟨a + x.1, 0, to_, bad⟩ :: G) w ∧ a + x.1 ≤ s.size ∧ x.1 ≤ 9 ∧ x.2 < 128 ^ x.1 ∧ ShS (strL s) a x.1 x.2 (a + x.1) ∧ ShC (strL s) a x.1 x.2 (a + x.1)) (fun x => 10 - x.1) (0, 0) ⟨rfl, rfl, trivial⟩ ⟨H, hp, by decide, by decide, ShS.first _ _, ShC.first _ _⟩ ?_
    clear H
    rintro ⟨k, n⟩ gh w ⟨H, ha, hk, hn, hS, hC⟩
    simp only at H ha hk hn hS hC ⊢
    by_cases hlt : a + k < s.size
    · have hb8 := byteAt_lt (s.extract (a + k) (a + k + 1)) 0
      have hdr := drop_cons (B := strL s) (i := a + k) (by omega)
      rw [← byte0 s (a + k) hlt] at hdr
      obtain ⟨b, hb⟩ : ∃ b, byteAt (s.extract (a + k) (a + k + 1)) 0 = b := ⟨_, rfl⟩
      rw [hb] at hdr hb8
      have hv : IntKind.u64.wrap (b : Int) = (b : Int) := w64u (by omega)
      have hq : ∀ _ : k = 9 → b ≤ 1, _ := fun h9 => orShift hn hk (show b % 128 < 128 by omega) (fun h => by have := h9 h; omega)
      by_cases hbad : (k = 9 ∧ 1 < b) ∨ (0 < k ∧ b = 0)
      · repeat' (first | refine y1 sg ?_ | refine y3 ?_ | refine y5 sg ?_ | (refine' y33 ent116 ?_ ?_; rotate_left 2; exact c_takeG 1 rfl rfl hs (by simp only; omega) H; rintro v N w ⟨rfl, rfl⟩ H) | (refine OX.val rfl rfl (Yq.strIxB sg hb rfl rfl rfl rfl rfl rfl (by decide) (by rw [← strL_len, strL_extract]; simp; omega)) ?_) | (refine' y33 ent189 ?_ ?_; rotate_left 2; exact c_rwrong a rfl H; rintro v N w ⟨rfl, rfl⟩ H) | refine y13 ?_ | refine y14 ?_ | (refine y17 ?_ ?_; all_goals (intro h; try (exfalso; first | ((simp only [hv, beq_iff_eq, decide_eq_true_eq, decide_eq_false_iff_not, beq_eq_false_iff_ne, gt_iff_lt] at *; omega); done)))) | with_reducible apply OW.nil | with_reducible apply thn_n | with_reducible apply CW.seq | refine CW.region ?_ | with_reducible apply CW.block | with_reducible apply CW.ret | with_reducible apply CW.skip | with_reducible apply thn_r | with_reducible apply blk_r | refine y22 ?_ | (refine y23 ?_ ?_; all_goals (intro h; try (exfalso; first | ((simp only [hv, beq_iff_eq, decide_eq_true_eq, decide_eq_false_iff_not, beq_eq_false_iff_ne, gt_iff_lt] at *; omega); done)))) | fail)
        all_goals exact retVF (vs := [_]) ⟨rdvT rfl, trivial⟩ H ⟨0, _, rfl, rfl, by omega, rfl, by simp only; omega, fun h => absurd h.1 (by simp), fun _ y l r hy hr => (hC.bad hb8 hdr hbad (hy.2 ▸ hr) (by have := hy.1; omega)).elim⟩
      · have h9 : k = 9 → b ≤ 1 := fun h => by omega
        have h0 : 0 < k → b ≠ 0 := fun h => by omega
        obtain ⟨hq1, hq2⟩ := hq h9
        repeat' (first | refine y1 sg ?_ | refine y3 ?_ | refine y5 sg ?_ | (refine' y33 ent116 ?_ ?_; rotate_left 2; exact c_takeG 1 rfl rfl hs (by simp only; omega) H; rintro v N w ⟨rfl, rfl⟩ H) | (refine OX.val rfl rfl (Yq.strIxB sg hb rfl rfl rfl rfl rfl rfl (by decide) (by rw [← strL_len, strL_extract]; simp; omega)) ?_) | (refine' y33 ent225 ?_ ?_; rotate_left 2; exact c_rupTo (n + b % 128 * 128 ^ k) most a (by rw [hv, notLow hb8]; exact hq1) rfl rfl H; rintro v N w ⟨rfl, rfl⟩ H) | refine y13 ?_ | refine y14 ?_ | (refine y17 ?_ ?_; all_goals (intro h; try (exfalso; first | ((simp only [hv, beq_iff_eq, decide_eq_true_eq, decide_eq_false_iff_not, beq_eq_false_iff_ne, gt_iff_lt] at *; omega); done)))) | with_reducible apply OW.nil | with_reducible apply thn_n | with_reducible apply CW.seq | refine CW.region ?_ | with_reducible apply CW.block | with_reducible apply CW.ret | with_reducible apply CW.skip | with_reducible apply thn_r | with_reducible apply blk_n | with_reducible apply blk_r | refine y22 ?_ | (refine y23 ?_ ?_; all_goals (intro h; try (exfalso; first | ((simp only [hv, beq_iff_eq, decide_eq_true_eq, decide_eq_false_iff_not, beq_eq_false_iff_ne, gt_iff_lt] at *; omega); done)))) | fail)
        all_goals (simp only [hv, decide_eq_true_eq, decide_eq_false_iff_not] at h)
        all_goals first
          | exact Again.mk (k + 1, n + b % 128 * 128 ^ k) rfl ⟨congrArg (Value.int .u64) (by rw [hv, notLow hb8]; exact hq1), congrArg (Value.int .i64) (by simp only; rw [w64 (by omega) (by omega)]; omega), trivial⟩ ⟨H, by simp only; omega, by simp only; omega, pow_next hn (by omega), hS.next (by omega) hb8 hdr, hC.next (by omega) hb8 hdr⟩ (by simp only; omega)
          | (refine retVF (vs := [_]) ⟨rdvT rfl, trivial⟩ H ⟨_, _, rfl, rfl, ?_, ?_, ?_⟩
             · unfold upX; split <;> omega
             · unfold upS; split <;> rfl
             · have hL := hS.last (by omega) h0 hdr
               have hD : ∀ {y r}, _ → _ := fun {y r} => hC.last (y := y) (r := r) (by omega) hdr
               unfold upX upS
               split
               · refine ⟨by simp only; omega, fun hl => ⟨hl, _, ⟨by omega, rfl⟩, hL⟩, fun hl y l r hy hr => ?_⟩
                 obtain ⟨e1, e2, _⟩ := hD (hy.2 ▸ hr)
                 exact ⟨hl, e1.symm, e2⟩
               · refine ⟨by simp only; omega, fun hl => absurd hl.1 (by simp), fun hl y l r hy hr => ?_⟩
                 obtain ⟨e1, e2, _⟩ := hD (hy.2 ▸ hr)
                 have := hy.1; omega)
    · repeat' (first | refine y1 sg ?_ | refine y3 ?_ | (refine' y33 ent116 ?_ ?_; rotate_left 2; exact c_takeS 1 rfl rfl (by simp only; omega) hs (by simp only; omega) H; rintro v N w ⟨rfl, rfl⟩ H) | (refine' y33 ent189 ?_ ?_; rotate_left 2; exact c_rwrong a rfl H; rintro v N w ⟨rfl, rfl⟩ H) | with_reducible apply OW.nil | with_reducible apply thn_n | with_reducible apply CW.seq | refine CW.region ?_ | with_reducible apply CW.block | with_reducible apply CW.ret | with_reducible apply thn_r | with_reducible apply blk_r | refine y21 ?_ | fail)
      exact retVF (vs := [_]) ⟨rdvT rfl, trivial⟩ H ⟨0, _, rfl, rfl, by omega, rfl, by simp only; omega, fun h => absurd h.1 (by simp), fun _ y l r hy hr => (hC.gone (by omega) (hy.2 ▸ hr)).elim⟩
  · have hd : decide (p.e = 0) = false := decide_eq_false he
    refine enter [.tmp 4] Tryz.func190 rfl Tryz.ntmps190 rfl rfl ?_
    repeat' (first | refine y1 sg ?_ | refine y3 ?_ | (refine' y30 ent188 ?_ ?_; rotate_left; exact hd ▸ c_good H.mem (List.Mem.head _); intro w hcl; replace H := H.ext hcl; clear hcl) | with_reducible apply OW.nil | with_reducible apply thn_n | with_reducible apply CW.seq | refine CW.region ?_ | with_reducible apply CW.ret | with_reducible apply thn_r | refine y21 ?_ | fail)
    exact retVF (vs := [_]) ⟨rdvT rfl, trivial⟩ H ⟨0, p, rfl, rfl, by omega, rfl, Step.dead (by omega) (fun h => he h.1) (fun h => he h.1)⟩
end Go.Proofs.YtggolnppckpdlaaGreat
