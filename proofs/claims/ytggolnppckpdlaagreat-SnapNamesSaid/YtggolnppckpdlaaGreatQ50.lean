/- Texts of ours, joined: the steps of the proof, or the claim's theorem. -/
import Derived.Test.YtggolnppckpdlaaGreatQ28
import Derived.Test.YtggolnppckpdlaaGreatQ37
import Derived.Test.YtggolnppckpdlaaGreatQ47
import Derived.Test.YtggolnppckpdlaaGreatQ48
set_option linter.unusedSimpArgs false
set_option linter.unusedVariables false
namespace Go.Proofs.YtggolnppckpdlaaGreat
open Go Go.Sk Go.RowKit
theorem xor_half (a b : Nat) : (a ^^^ b) / 2 = (a / 2) ^^^ (b / 2) := by
  apply Nat.eq_of_testBit_eq
  intro i
  rw [Nat.testBit_xor, Nat.testBit_div_two, Nat.testBit_div_two, Nat.testBit_div_two, Nat.testBit_xor]
theorem xor_odd (a b : Nat) : ((a ^^^ b) % 2 = 1) ↔ ¬ (a % 2 = 1 ↔ b % 2 = 1) := by
  have h := Nat.testBit_xor a b 0
  simp only [Nat.testBit_zero] at h
  by_cases ha : a % 2 = 1 <;> by_cases hb : b % 2 = 1 <;> simp [ha, hb] at h ⊢ <;> omega
theorem stepN_xor (a b : Nat) : stepN (a ^^^ b) = stepN a ^^^ stepN b := by
  unfold stepN
  rw [xor_half]
  have h := xor_odd a b
  by_cases ha : a % 2 = 1 <;> by_cases hb : b % 2 = 1
  · rw [if_neg (by rw [h]; simp [ha, hb]), if_pos ha, if_pos hb]
    rw [Nat.xor_assoc, Nat.xor_comm 3988292384, Nat.xor_assoc, Nat.xor_self, Nat.xor_zero]
  · rw [if_pos (h.2 (by simp [ha, hb])), if_pos ha, if_neg hb]
    rw [Nat.xor_assoc, Nat.xor_assoc, Nat.xor_comm (b / 2)]
  · rw [if_pos (h.2 (by simp [ha, hb])), if_neg ha, if_pos hb, Nat.xor_assoc]
  · rw [if_neg (by rw [h]; simp [ha, hb]), if_neg ha, if_neg hb]
theorem stepN_zero {c : Nat} (h : c < 4294967296) (h0 : stepN c = 0) : c = 0 := by
  unfold stepN at h0
  split at h0
  · have h1 := congrArg (fun n => Nat.testBit n 31) h0
    simp only [Nat.testBit_xor, Nat.zero_testBit] at h1
    have h2 : (c / 2).testBit 31 = false := Nat.testBit_lt_two_pow (by omega)
    rw [h2] at h1
    exact absurd h1 (by decide)
  · omega
theorem stepsN_xor : ∀ (k a b : Nat), stepsN k (a ^^^ b) = stepsN k a ^^^ stepsN k b := by
  intro k
  induction k with
  | zero => intro a b; rfl
  | succ k ih => intro a b; simp only [stepsN, stepN_xor, ih]
theorem stepsN_lt' (k : Nat) {c : Nat} (h : c < 4294967296) : stepsN k c < 4294967296 := by
  induction k with
  | zero => exact h
  | succ k ih => exact stepN_lt ih
theorem stepsN_zero (k : Nat) {c : Nat} (hc : c < 4294967296) (h : stepsN k c = 0) : c = 0 := by
  induction k with
  | zero => exact h
  | succ k ih => exact ih (stepN_zero (stepsN_lt' k hc) h)
theorem stepsN_add (j k c : Nat) : stepsN (j + k) c = stepsN j (stepsN k c) := by
  induction j with
  | zero => rw [Nat.zero_add]; rfl
  | succ j ih => rw [Nat.succ_add]; show stepN (stepsN (j + k) c) = stepN (stepsN j (stepsN k c)); rw [ih]
theorem stepsN_inj (k : Nat) {a b : Nat} (ha : a < 4294967296) (hb : b < 4294967296) (h : stepsN k a = stepsN k b) : a = b := by
  have h1 : stepsN k (a ^^^ b) = 0 := by rw [stepsN_xor, h, Nat.xor_self]
  have h2 := stepsN_zero k (lt32 ha hb) h1
  calc a = (a ^^^ b) ^^^ b := by rw [Nat.xor_assoc, Nat.xor_self, Nat.xor_zero]
    _ = b := by rw [h2, Nat.zero_xor]
theorem stepsN_even : ∀ (k x : Nat), stepsN k (2 ^ k * x) = x := by
  intro k
  induction k with
  | zero => intro x; simp [stepsN]
  | succ k ih =>
    intro x
    rw [show k + 1 = 1 + k by omega, stepsN_add]
    rw [show 2 ^ (1 + k) * x = 2 ^ k * (2 * x) by rw [Nat.pow_add, Nat.pow_one, Nat.mul_comm 2, Nat.mul_assoc], ih]
    show stepN (2 * x) = x
    unfold stepN
    rw [if_neg (by omega)]; omega
theorem byte_steps (c b : Nat) (hb : b < 256) : tabN ((c % 256) ^^^ b) ^^^ (c / 256) = stepsN 8 (c ^^^ b) := by
  have h : c ^^^ b = ((c % 256) ^^^ b) ^^^ (2 ^ 8 * (c / 256)) := by
    have h1 : c = 2 ^ 8 * (c / 256) + c % 256 := by omega
    have h2 := Nat.two_pow_add_eq_or_of_lt (i := 8) (b := c % 256) (by omega) (c / 256)
    have h3 : 2 ^ 8 * (c / 256) + c % 256 = (2 ^ 8 * (c / 256)) ^^^ (c % 256) := by
      apply Nat.eq_of_testBit_eq
      intro i
      rw [h2, Nat.testBit_or, Nat.testBit_xor]
      by_cases hi : i < 8
      · rw [Nat.testBit_two_pow_mul]; simp [show ¬ 8 ≤ i by omega]
      · rw [show (c % 256).testBit i = false from Nat.testBit_lt_two_pow (Nat.lt_of_lt_of_le (show c % 256 < 2 ^ 8 by omega) (Nat.pow_le_pow_right (by decide) (by omega)))]
        simp
    rw [Nat.xor_comm, Nat.xor_comm (c % 256), Nat.xor_assoc, Nat.xor_comm (c % 256), ← h3, ← h1]
  rw [h, stepsN_xor, stepsN_even]; rfl
theorem runN_eq (l : List Nat) (hl : ∀ b ∈ l, b < 256) : ∀ c, runN c l = l.foldl (fun c b => stepsN 8 (c ^^^ b)) c := by
  unfold runN
  induction l with
  | nil => intro c; rfl
  | cons x xs ih =>
    intro c
    rw [List.foldl_cons, List.foldl_cons, byte_steps c x (hl x (List.mem_cons_self)), ih fun b hb => hl b (List.mem_cons_of_mem _ hb)]
def regN (c : Nat) (l : List Nat) : Nat := l.foldl (fun c b => stepsN 8 (c ^^^ b)) c
def xorL : List Nat → List Nat → List Nat
  | a :: l, b :: m => (a ^^^ b) :: xorL l m
  | _, _ => []
theorem regN_xor : ∀ (l m : List Nat), l.length = m.length → ∀ c d, regN (c ^^^ d) (xorL l m) = regN c l ^^^ regN d m
  | [], [], _, c, d => rfl
  | a :: l, b :: m, h, c, d => by
    have ih := regN_xor l m (by simpa using h)
    show regN (stepsN 8 ((c ^^^ d) ^^^ (a ^^^ b))) (xorL l m) = regN (stepsN 8 (c ^^^ a)) l ^^^ regN (stepsN 8 (d ^^^ b)) m
    rw [← ih, ← stepsN_xor]
    congr 2
    rw [Nat.xor_assoc, Nat.xor_assoc, ← Nat.xor_assoc d, ← Nat.xor_assoc a, Nat.xor_comm d a]
theorem regN_app (c : Nat) (l m : List Nat) : regN c (l ++ m) = regN (regN c l) m := by simp [regN]
theorem regN_zeros (k c : Nat) : regN c (List.replicate k 0) = stepsN (8 * k) c := by
  induction k generalizing c with
  | zero => rfl
  | succ k ih =>
    rw [List.replicate_succ]
    show regN (stepsN 8 (c ^^^ 0)) (List.replicate k 0) = _
    rw [ih, Nat.xor_zero, ← stepsN_add]; rfl
end Go.Proofs.YtggolnppckpdlaaGreat
set_option linter.unusedSimpArgs false
set_option linter.unusedVariables false
namespace Go.Proofs.YtggolnppckpdlaaGreat
open Go Go.Sk Go.RowKit
theorem step8 (x y : Nat) : stepsN 8 (x ^^^ 2 ^ 8 * y) = stepsN 8 x ^^^ y := by rw [stepsN_xor, stepsN_even]
def val4 (a b c d : Nat) : Nat := a ^^^ 2 ^ 8 * (b ^^^ 2 ^ 8 * (c ^^^ 2 ^ 8 * d))
theorem reg4 (r a b c d : Nat) : regN r [a, b, c, d] = stepsN 32 (r ^^^ val4 a b c d) := by
  have h1 : stepsN 8 (r ^^^ val4 a b c d) = stepsN 8 (r ^^^ a) ^^^ (b ^^^ 2 ^ 8 * (c ^^^ 2 ^ 8 * d)) := by
    unfold val4; rw [← Nat.xor_assoc, step8]
  have h2 : ∀ x, stepsN 8 (x ^^^ (b ^^^ 2 ^ 8 * (c ^^^ 2 ^ 8 * d))) = stepsN 8 (x ^^^ b) ^^^ (c ^^^ 2 ^ 8 * d) := fun x => by rw [← Nat.xor_assoc, step8]
  have h3 : ∀ x, stepsN 8 (x ^^^ (c ^^^ 2 ^ 8 * d)) = stepsN 8 (x ^^^ c) ^^^ d := fun x => by rw [← Nat.xor_assoc, step8]
  show stepsN 8 (stepsN 8 (stepsN 8 (stepsN 8 (r ^^^ a) ^^^ b) ^^^ c) ^^^ d) = _
  rw [show 32 = 8 + (8 + (8 + 8)) from rfl, stepsN_add, stepsN_add, stepsN_add, h1, h2, h3]
theorem val4_lt {a b c d : Nat} (ha : a < 256) (hb : b < 256) (hc : c < 256) (hd : d < 256) : val4 a b c d < 4294967296 := by
  have h3 : (c ^^^ 2 ^ 8 * d) < 2 ^ 16 := Nat.xor_lt_two_pow (by omega) (by omega)
  have h2 : (b ^^^ 2 ^ 8 * (c ^^^ 2 ^ 8 * d)) < 2 ^ 24 := Nat.xor_lt_two_pow (by omega) (by omega)
  exact Nat.xor_lt_two_pow (n := 32) (by omega) (by omega)
theorem xor_add (a x : Nat) (ha : a < 256) : a ^^^ 2 ^ 8 * x = a + 256 * x := by
  have h2 := Nat.two_pow_add_eq_or_of_lt (i := 8) (b := a) (by omega) x
  have h3 : a ^^^ 2 ^ 8 * x = 2 ^ 8 * x ||| a := by
    apply Nat.eq_of_testBit_eq
    intro i
    rw [Nat.testBit_or, Nat.testBit_xor]
    by_cases hi : i < 8
    · rw [Nat.testBit_two_pow_mul]; simp [show ¬ 8 ≤ i by omega]
    · rw [show a.testBit i = false from Nat.testBit_lt_two_pow (Nat.lt_of_lt_of_le (show a < 2 ^ 8 by omega) (Nat.pow_le_pow_right (by decide) (by omega)))]
      simp
  rw [h3, ← h2]; omega
theorem le4_val {a b c d : Nat} (ha : a < 256) (hb : b < 256) (hc : c < 256) (hd : d < 256) : le4 (val4 a b c d) = [a, b, c, d] := by
  unfold val4
  rw [xor_add c d hc, xor_add b _ hb, xor_add a _ ha]
  unfold le4
  simp only [List.cons.injEq, and_true]
  omega
end Go.Proofs.YtggolnppckpdlaaGreat
set_option linter.unusedSimpArgs false
set_option linter.unusedVariables false
namespace Go.Proofs.YtggolnppckpdlaaGreat
open Go Go.Sk Go.RowKit
theorem xor_compl {r : Nat} (h : r < 4294967296) : r ^^^ (4294967295 - r) = 4294967295 := by
  have e : 4294967295 - r = 2 ^ 32 - (r + 1) := by omega
  rw [e, show 4294967295 = 2 ^ 32 - 1 from rfl]
  apply Nat.eq_of_testBit_eq
  intro i
  rw [Nat.testBit_xor, Nat.testBit_two_pow_sub_succ (by omega), Nat.testBit_two_pow_sub_one]
  by_cases hi : i < 32
  · simp [hi]
  · have : r.testBit i = false := Nat.testBit_lt_two_pow (Nat.lt_of_lt_of_le (show r < 2 ^ 32 by omega) (Nat.pow_le_pow_right (by decide) (by omega)))
    simp [hi, this]
theorem xor_left {a b c : Nat} (h : a ^^^ b = a ^^^ c) : b = c := by
  have := congrArg (a ^^^ ·) h
  simpa [← Nat.xor_assoc, Nat.xor_self] using this
def sealR : Nat := stepsN 32 4294967295
theorem regN_lt (l : List Nat) (hl : Byt l) : ∀ c, c < 4294967296 → regN c l < 4294967296 := by
  induction l with
  | nil => intro c h; exact h
  | cons a l ih =>
    intro c h
    exact ih (fun b hb => hl b (List.mem_cons_of_mem _ hb)) _ (stepsN_lt' 8 (lt32 h (Nat.lt_trans (hl a (List.mem_cons_self)) (by decide))))
theorem crc_reg {l : List Nat} (hl : Byt l) : crcOf l = 4294967295 - regN 4294967295 l := by
  unfold crcOf crcAdd
  rw [Nat.sub_zero, runN_eq l hl]; rfl
theorem seal_iff {l : List Nat} (hl : Byt l) {a b c d : Nat} (ha : a < 256) (hb : b < 256) (hc : c < 256) (hd : d < 256) : le4 (crcOf l) = [a, b, c, d] ↔ regN 4294967295 (l ++ [a, b, c, d]) = sealR := by
  have hr := regN_lt l hl 4294967295 (by decide)
  have hv := val4_lt ha hb hc hd
  have hx := xor_compl hr
  rw [regN_app, reg4, crc_reg hl]
  unfold sealR
  constructor
  · intro h
    have e : val4 a b c d = 4294967295 - regN 4294967295 l := by
      rw [← le4_val ha hb hc hd] at h
      have hq : 4294967295 - regN 4294967295 l < 4294967296 := by omega
      generalize 4294967295 - regN 4294967295 l = q at *
      generalize val4 a b c d = v at *
      unfold le4 at h
      simp only [List.cons.injEq, and_true] at h
      omega
    rw [e, hx]
  · intro h
    have := stepsN_inj 32 (lt32 hr hv) (by decide) h
    have e := xor_left (this.trans hx.symm)
    rw [← e]
    exact le4_val ha hb hc hd
theorem open_iff {B : List Nat} (hB : Byt B) (h4 : 4 ≤ B.length) : (openL B).2 = 0 ↔ regN 4294967295 B = sealR := by
  have hd : (B.drop (B.length - 4)).length = 4 := by rw [List.length_drop]; omega
  have hw : ∃ a b c d, B.drop (B.length - 4) = [a, b, c, d] := by
    match h : B.drop (B.length - 4), hd with
    | [a, b, c, d], _ => exact ⟨a, b, c, d, rfl⟩
  obtain ⟨a, b, c, d, hw⟩ := hw
  have hs : B = B.take (B.length - 4) ++ [a, b, c, d] := by rw [← hw, List.take_append_drop]
  have hbt : Byt [a, b, c, d] := by rw [← hw]; exact hB.drop _
  have key := seal_iff (hB.take (B.length - 4)) (hbt a (by simp)) (hbt b (by simp)) (hbt c (by simp)) (hbt d (by simp))
  rw [← hs] at key
  rw [← key]
  unfold openL
  rw [if_neg (by omega)]
  constructor
  · intro h
    split at h
    · rename_i h1
      have h2 : sealL (B.take (B.length - 4)) = B.take (B.length - 4) ++ [a, b, c, d] := h1.trans hs
      exact List.append_cancel_left h2
    · cases h
  · intro h
    have : sealL (B.take (B.length - 4)) = B := by
      unfold sealL; rw [h]; exact hs.symm
    rw [if_pos this]
end Go.Proofs.YtggolnppckpdlaaGreat
set_option linter.unusedSimpArgs false
set_option linter.unusedVariables false
namespace Go.Proofs.YtggolnppckpdlaaGreat
open Go Go.Sk Go.RowKit
def leB : Nat → Nat → List Nat
  | 0, _ => []
  | k + 1, v => (v % 256) :: leB k (v / 256)
theorem leB_len : ∀ (k v : Nat), (leB k v).length = k
  | 0, _ => rfl
  | k + 1, v => by rw [leB, List.length_cons, leB_len]
theorem split8 (v : Nat) : (v % 256) ^^^ 2 ^ 8 * (v / 256) = v := by rw [xor_add _ _ (Nat.mod_lt _ (by decide))]; omega
theorem reg_leB : ∀ (k v c : Nat), v < 256 ^ k → regN c (leB k v) = stepsN (8 * k) (c ^^^ v)
  | 0, v, c, h => by
    have : v = 0 := by simpa using h
    subst this; rw [Nat.xor_zero]; rfl
  | k + 1, v, c, h => by
    have h1 : v / 256 < 256 ^ k := by rw [Nat.div_lt_iff_lt_mul (by decide)]; rw [Nat.pow_succ] at h; exact h
    show regN (stepsN 8 (c ^^^ v % 256)) (leB k (v / 256)) = _
    rw [reg_leB k _ _ h1, ← step8, Nat.xor_assoc, split8, show 8 * (k + 1) = 8 * k + 8 by omega, stepsN_add]
theorem burst_ne {p j q s v : Nat} (hv : 0 < v) (hv2 : v < 4294967296) (hs : s ≤ 8 * j) (hj : 2 ^ s * v < 256 ^ j) : regN 0 (List.replicate p 0 ++ (leB j (2 ^ s * v) ++ List.replicate q 0)) ≠ 0 := by
  rw [regN_app, regN_app, regN_zeros, regN_zeros, reg_leB _ _ _ hj]
  have h0 : stepsN (8 * p) 0 = 0 := by
    have : ∀ k, stepsN k 0 = 0 := by
      intro k
      induction k with
      | zero => rfl
      | succ k ih => show stepN (stepsN k 0) = 0; rw [ih]; rfl
    exact this _
  rw [h0, Nat.zero_xor]
  obtain ⟨t, ht⟩ : ∃ t, 8 * j = t + s := ⟨8 * j - s, by omega⟩
  rw [ht, stepsN_add, stepsN_even]
  intro h
  have := stepsN_zero t hv2 (stepsN_zero (8 * q) (stepsN_lt' t hv2) h)
  omega
theorem burst_open {B D : List Nat} (hB : Byt B) (hl : B.length = D.length) (h4 : 4 ≤ B.length) (ho : (openL B).2 = 0) (hD : regN 0 D ≠ 0) (hx : Byt (xorL B D)) (hxl : (xorL B D).length = B.length) : (openL (xorL B D)).2 ≠ 0 := by
  rw [ne_eq, open_iff hx (by omega)]
  have h1 := (open_iff hB h4).1 ho
  have h2 := regN_xor B D hl 4294967295 0
  rw [Nat.xor_zero] at h2
  rw [h2, h1]
  intro h
  apply hD
  have : sealR ^^^ regN 0 D = sealR ^^^ 0 := by rw [h, Nat.xor_zero]
  exact xor_left this
end Go.Proofs.YtggolnppckpdlaaGreat
set_option linter.unusedSimpArgs false
set_option linter.unusedVariables false
namespace Go.Proofs.YtggolnppckpdlaaGreat
open Go Go.Sk Go.RowKit
theorem leB_get : ∀ (n v p : Nat), p < n → (leB n v).getD p 0 = v / 256 ^ p % 256
  | 0, _, _, h => absurd h (Nat.not_lt_zero _)
  | n + 1, v, 0, _ => by simp [leB]
  | n + 1, v, p + 1, h => by
    rw [leB, List.getD_cons_succ, leB_get n _ p (by omega), Nat.div_div_eq_div_mul, Nat.pow_succ, Nat.mul_comm 256]
theorem leB_byt : ∀ (n v : Nat), Byt (leB n v)
  | 0, _ => fun b hb => by cases hb
  | n + 1, v => fun b hb => by
    rw [leB] at hb
    rcases List.mem_cons.1 hb with rfl | hb
    · exact Nat.mod_lt _ (by decide)
    · exact leB_byt n _ b hb
theorem leB_zero : ∀ n, leB n 0 = List.replicate n 0
  | 0 => rfl
  | n + 1 => by rw [leB, leB_zero n]; rfl
theorem leB_shift : ∀ (p n v : Nat), leB (p + n) (256 ^ p * v) = List.replicate p 0 ++ leB n v
  | 0, n, v => by rw [Nat.zero_add, Nat.pow_zero, Nat.one_mul]; rfl
  | p + 1, n, v => by
    rw [show p + 1 + n = (p + n) + 1 by omega, leB, Nat.pow_succ, Nat.mul_comm (256 ^ p), Nat.mul_assoc, Nat.mul_mod_right, Nat.mul_div_cancel_left _ (by decide), leB_shift p n v]
    rfl
theorem xorL_len : ∀ {l m : List Nat}, l.length = m.length → (xorL l m).length = l.length
  | [], [], _ => rfl
  | a :: l, b :: m, h => by
    show (xorL l m).length + 1 = l.length + 1
    rw [xorL_len (by simpa using h)]
theorem xorL_get : ∀ {l m : List Nat} {p : Nat}, p < l.length → l.length = m.length → (xorL l m).getD p 0 = l.getD p 0 ^^^ m.getD p 0
  | [], _, _, h, _ => absurd h (Nat.not_lt_zero _)
  | a :: l, b :: m, 0, _, _ => rfl
  | a :: l, b :: m, p + 1, h, he => by
    show (xorL l m).getD p 0 = l.getD p 0 ^^^ m.getD p 0
    exact xorL_get (by simpa using h) (by simpa using he)
theorem xorL_zeros : ∀ l : List Nat, xorL l (List.replicate l.length 0) = l
  | [] => rfl
  | a :: l => by
    show (a ^^^ 0) :: xorL l (List.replicate l.length 0) = a :: l
    rw [xorL_zeros l, Nat.xor_zero]
theorem xor_byte {a b : Nat} (ha : a < 256) (hb : b < 256) : a ^^^ b < 256 := Nat.xor_lt_two_pow (n := 8) ha hb
theorem xorL_byt : ∀ {l m : List Nat}, Byt l → Byt m → Byt (xorL l m)
  | [], _, _, _ => fun b hb => by simp [xorL] at hb
  | _ :: _, [], _, _ => fun b hb => by simp [xorL] at hb
  | a :: l, b :: m, hl, hm => fun x hx => by
    rcases List.mem_cons.1 hx with rfl | hx
    · exact xor_byte (hl a (List.mem_cons_self)) (hm b (List.mem_cons_self))
    · exact xorL_byt (fun y hy => hl y (List.mem_cons_of_mem _ hy)) (fun y hy => hm y (List.mem_cons_of_mem _ hy)) x hx
theorem list_ext {l m : List Nat} (hl : l.length = m.length) (h : ∀ p, p < l.length → l.getD p 0 = m.getD p 0) : l = m := by
  apply List.ext_getElem hl
  intro p h1 h2
  have := h p h1
  simpa [List.getD_eq_getElem?_getD, h1, h2] using this
def flV (bits fr i : Nat) : Nat := 2 ^ fr * (bits % 2 ^ i)
theorem flV_zero (bits fr : Nat) : flV bits fr 0 = 0 := by simp [flV, Nat.mod_one]
theorem byte_bit (x q t : Nat) : (x / 256 ^ q % 256).testBit t = (decide (t < 8) && x.testBit (8 * q + t)) := by
  rw [show (256 : Nat) = 2 ^ 8 from rfl, ← Nat.pow_mul, Nat.testBit_mod_two_pow, Nat.testBit_div_two_pow, Nat.add_comm t]
theorem flV_bit (bits fr i j : Nat) : (flV bits fr i).testBit j = (decide (fr ≤ j) && (decide (j - fr < i) && bits.testBit (j - fr))) := by
  unfold flV
  rw [Nat.testBit_two_pow_mul, Nat.testBit_mod_two_pow]
theorem flV_step (bits fr i q : Nat) : flV bits fr (i + 1) / 256 ^ q % 256 = (flV bits fr i / 256 ^ q % 256) ^^^ (if q = (fr + i) / 8 ∧ bits.testBit i = true then 2 ^ ((fr + i) % 8) else 0) := by
  apply Nat.eq_of_testBit_eq
  intro t
  rw [Nat.testBit_xor, byte_bit, byte_bit, flV_bit, flV_bit]
  by_cases ht : t < 8
  · by_cases hj : 8 * q + t = fr + i
    · have hq : q = (fr + i) / 8 := by omega
      have hr : t = (fr + i) % 8 := by omega
      have hi : 8 * q + t - fr = i := by omega
      rw [hi]
      by_cases hb : bits.testBit i = true
      · rw [if_pos ⟨hq, hb⟩, Nat.testBit_two_pow]
        simp [ht, hb, ← hr, show fr ≤ 8 * q + t by omega]
      · rw [if_neg (fun h => hb h.2)]
        simp [hb]
    · have e : (decide (fr ≤ 8 * q + t) && (decide (8 * q + t - fr < i + 1) && bits.testBit (8 * q + t - fr))) = (decide (fr ≤ 8 * q + t) && (decide (8 * q + t - fr < i) && bits.testBit (8 * q + t - fr))) := by
        by_cases h1 : fr ≤ 8 * q + t
        · by_cases h2 : 8 * q + t - fr < i
          · simp [h1, h2, show 8 * q + t - fr < i + 1 by omega]
          · simp [h1, h2, show ¬ 8 * q + t - fr < i + 1 by omega]
        · simp [h1]
      rw [e]
      split
      · rename_i h
        rw [Nat.testBit_two_pow, show decide ((fr + i) % 8 = t) = false from decide_eq_false (by have := h.1; omega), Bool.xor_false]
      · rw [Nat.zero_testBit, Bool.xor_false]
  · have hz : (if q = (fr + i) / 8 ∧ bits.testBit i = true then 2 ^ ((fr + i) % 8) else 0).testBit t = false := by
      split
      · rw [Nat.testBit_two_pow]; exact decide_eq_false (by omega)
      · exact Nat.zero_testBit _
    rw [hz, Bool.xor_false, decide_eq_false ht, Bool.false_and, Bool.false_and]
def flL (F : List Nat) (bits fr i : Nat) : List Nat := xorL F (leB F.length (flV bits fr i))
theorem flL_len (F : List Nat) (bits fr i : Nat) : (flL F bits fr i).length = F.length := xorL_len (leB_len _ _).symm
theorem flL_byt {F : List Nat} (hF : Byt F) (bits fr i : Nat) : Byt (flL F bits fr i) := xorL_byt hF (leB_byt _ _)
theorem flL_zero (F : List Nat) (bits fr : Nat) : flL F bits fr 0 = F := by unfold flL; rw [flV_zero, leB_zero, xorL_zeros]
theorem flL_get {F : List Nat} {bits fr i p : Nat} (hp : p < F.length) : (flL F bits fr i).getD p 0 = F.getD p 0 ^^^ (flV bits fr i / 256 ^ p % 256) := by
  unfold flL
  rw [xorL_get hp (leB_len _ _).symm, leB_get _ _ _ hp]
theorem flL_skip {F : List Nat} {bits fr i : Nat} (h : bits.testBit i = false) : flL F bits fr (i + 1) = flL F bits fr i := by
  apply list_ext (by rw [flL_len, flL_len])
  intro p hp
  rw [flL_len] at hp
  rw [flL_get hp, flL_get hp, flV_step, if_neg (by rw [h]; simp), Nat.xor_zero]
theorem set_getD {l : List Nat} {p q x : Nat} (hq : q < l.length) : (l.set p x).getD q 0 = if p = q then x else l.getD q 0 := by
  simp only [List.getD_eq_getElem?_getD, List.getElem?_set]
  by_cases h : p = q
  · subst h; simp [hq]
  · simp [h]
theorem flL_step {F : List Nat} {bits fr i : Nat} (h : bits.testBit i = true) : (flL F bits fr i).set ((fr + i) / 8) ((flL F bits fr i).getD ((fr + i) / 8) 0 ^^^ 2 ^ ((fr + i) % 8)) = flL F bits fr (i + 1) := by
  apply list_ext (by rw [List.length_set, flL_len, flL_len])
  intro p hp
  rw [List.length_set, flL_len] at hp
  rw [set_getD (by rw [flL_len]; exact hp), flL_get hp, flL_get hp, flV_step]
  by_cases hq : (fr + i) / 8 = p
  · rw [if_pos hq, if_pos ⟨hq.symm, h⟩, hq, flL_get hp, Nat.xor_assoc]
  · rw [if_neg hq, if_neg (fun k => hq k.1.symm), Nat.xor_zero]
theorem flip_open {F : List Nat} (hF : Byt F) (h4 : 4 ≤ F.length) (ho : (openL F).2 = 0) {bits fr i : Nat} (hi : i ≤ 32) (hb : fr + i ≤ 8 * F.length) (hf : fr < 8 * F.length) (hne : flL F bits fr i ≠ F) : (openL (flL F bits fr i)).2 ≠ 0 := by
  have hv : 0 < bits % 2 ^ i := by
    apply Nat.pos_of_ne_zero
    intro h
    apply hne
    unfold flL flV
    rw [h, Nat.mul_zero, leB_zero, xorL_zeros]
  have hv1 : bits % 2 ^ i < 2 ^ i := Nat.mod_lt _ (Nat.two_pow_pos _)
  have hv2 : bits % 2 ^ i < 4294967296 := Nat.lt_of_lt_of_le hv1 (Nat.pow_le_pow_right (by decide) hi)
  refine burst_open hF (leB_len _ _).symm h4 ho ?_ (flL_byt hF _ _ _) (flL_len _ _ _ _)
  obtain ⟨n, hn⟩ : ∃ n, F.length = fr / 8 + n := ⟨F.length - fr / 8, by omega⟩
  have e : flV bits fr i = 256 ^ (fr / 8) * (2 ^ (fr % 8) * (bits % 2 ^ i)) := by
    unfold flV
    rw [show (256 : Nat) = 2 ^ 8 from rfl, ← Nat.pow_mul, ← Nat.mul_assoc, ← Nat.pow_add, Nat.div_add_mod]
  rw [hn, e, leB_shift]
  have hlt : 2 ^ (fr % 8) * (bits % 2 ^ i) < 256 ^ n := by
    rw [show (256 : Nat) = 2 ^ 8 from rfl, ← Nat.pow_mul]
    refine Nat.lt_of_lt_of_le (Nat.mul_lt_mul_of_pos_left hv1 (Nat.two_pow_pos _)) ?_
    rw [← Nat.pow_add]
    exact Nat.pow_le_pow_right (by decide) (by omega)
  have := burst_ne (p := fr / 8) (j := n) (q := 0) (s := fr % 8) hv hv2 (by omega) hlt
  simpa using this
end Go.Proofs.YtggolnppckpdlaaGreat
set_option linter.unusedSimpArgs false
set_option linter.unusedVariables false
namespace Go.Sk
open Go Go.RowKit
section
variable {P : Program} {n : Nw} {ops : Array Oper} {Q : Post} {o : Oper} {rest : List Oper} {L : List (Nat × Value)} {b0 : Env} {w : World} (S : Sig P)
attribute [local semireducible] OX OW Yq
def u8L (l : List Nat) : List Value := l.map fun k : Nat => Value.int .u8 (k : Int)
theorem u8L_len (l : List Nat) : (u8L l).length = l.length := by unfold u8L; exact List.length_map _
set_option maxRecDepth 20000 in
theorem OX.bytesO {w0 : World} {G : Frag} {src dst E : TypeId} {d : Nat} {x : Operand} {s : ByteArray} {ti td te : TI} (H : St w0 G w)
    (ho : o.op = .convert src dst x) (hd : o.dst = some d) (hlt : Nat.blt d n.n = true) (hx : ev (ovl L b0) x = .string s) (ht : lk S.tab src = some ti) (htd : ti.d = .string) (hdt : lk S.tab dst = some td) (hdd : td.d = .slice E) (he : lk S.tab E = some te) (hed : te.d = .int .u8)
    (k : ∀ b z fz w', s.size ≤ fz → St w0 ((b, Obj.cells (u8L (strL s) ++ List.replicate z (Value.int .u8 0)).toArray E (fz, fz + 1)) :: G) w' → OW P n ops Q rest (ovl ((d, .slice (some ⟨b, 0, none⟩) s.size (s.size + z)) :: L) b0) w') :
    OX P n ops Q o rest (ovl L b0) w := by
  intro a ha
  unfold Oper.wp
  rw [ha.eval]
  have h1 := run_bytes_of_string (P := P) w src dst E s (by rw [S.und ht, htd]) (by rw [S.und hdt, hdd]) (by rw [S.und he, hed])
  obtain ⟨z, hz⟩ : ∃ z, grownCap w s.size 0 E = s.size + z := ⟨grownCap w s.size 0 E - s.size, by have := grownCap_ge w s.size 0 E; omega⟩
  rw [hz] at h1
  have hl : bytesRow s (s.size + z) = (u8L (strL s) ++ List.replicate z (Value.int .u8 0)).toArray := by
    apply Array.ext'
    simp [bytesRow, u8L, strL, Function.comp_def]
  have hsz : (bytesRow s (s.size + z)).size = s.size + z := by
    rw [hl]; simp [u8L_len, strL_len]
  rw [hsz, hl] at h1
  simp only [execOp, ho, hx, Sem.run_bind, h1, Result.andThen_ok, Sem.run_pure, Oper.upon_value, hd]
  exact k _ z (s.size + z) _ (by omega) (H.drewAlloc _) _ (ha.put hlt _)
theorem OX.storeF {w0 : World} {G G' : Frag} {t : TypeId} {x y : Operand} {v : Value} {cs : List Value} {b off : Nat} {T : TypeId} {f0 f1 : Nat} {ti : TI} (H : St w0 G w) (ho : o.op = .store t x y) (hd : o.dst = none)
    (hx : ev (ovl L b0) x = .pointer (some ⟨b, off, none⟩)) (hy : ev (ovl L b0) y = v) (hv : v.cells = #[v]) (ht : lk S.tab t = some ti)
    (hsz : ti.size = 1) (hu : Up b (.cells cs.toArray T (f0, f1)) (.cells (wr cs off [v]).toArray T (f0, f1)) G G') (hfit : off < cs.length) (hlo : off < f0) (h1 : v.oneCell' = true)
    (k : ∀ w', St w0 G' w' → OW P n ops Q rest (ovl L b0) w') : OX P n ops Q o rest (ovl L b0) w := by
  intro a ha
  unfold Oper.wp
  rw [ha.eval]
  have hg := H.mem _ hu.mem
  simp only at hg
  have hadd : (⟨b, off, none⟩ : Addr).add 0 = ⟨b, off, none⟩ := by unfold Addr.add; rfl
  have hcell : w.cell? ⟨b, off, none⟩ = some (cs.toArray[off]'(by simpa using hfit)) := by simp [World.cell?, hg, hfit]
  have hfro : w.frozen? ⟨b, off, none⟩ = false := by
    simp only [World.frozen?, hg, Bool.and_eq_false_iff, decide_eq_false_iff_not]
    left; omega
  have hwr : cs.toArray.setIfInBounds off v = (wr cs off [v]).toArray := by
    apply Array.ext'
    rw [Array.toList_setIfInBounds]
    unfold wr
    simp only [List.length_singleton]
    rw [List.set_eq_take_append_cons_drop, if_pos hfit]
    simp
  have hst : (storeCells ⟨b, off, none⟩ [v] 0).run P w = .ok () (w.setRow b (wr cs off [v]).toArray) := by
    simp only [storeCells, Sem.run_bind, hadd]
    rw [run_store P w _ v _ h1, hcell]
    simp only [hfro, setCell_eq_setRow w b off cs.toArray T (f0, f1) v hg, hwr]
    rfl
  have hl : v.cells.toList = [v] := by rw [hv]
  have hsz' : v.cells.size = ti.size := by rw [hv, hsz]; rfl
  simp only [execOp, ho, Instr.storeAt, hx, hy, Instr.sureAddr, storeVar, Sem.run_bind, Sem.run_pure, Result.andThen_ok, S.run_size ht, hsz', ne_eq, not_true, if_false, hl, hst, Oper.upon_skip, hd]
  exact k _ (H.up (w' := w.setRow b (wr cs off [v]).toArray) hu rfl rfl rfl (by simp [World.setRow]) (setRow_heap w b _ _ T _ hg) (fun k hk => setRow_other w b k _ hk)) _ ha
theorem wr_set {cs : List Value} {p : Nat} {v : Value} (hp : p < cs.length) : wr cs p [v] = cs.set p v := by
  unfold wr
  rw [List.set_eq_take_append_cons_drop, if_pos hp, List.length_singleton]
  simp
theorem wr_u8 {l : List Nat} {z p x : Nat} (hp : p < l.length) : wr (u8L l ++ List.replicate z (Value.int .u8 0)) p [Value.int .u8 (x : Int)] = u8L (l.set p x) ++ List.replicate z (Value.int .u8 0) := by
  have hp' : p < (u8L l).length := by rw [u8L_len]; exact hp
  rw [wr_set (by rw [List.length_append]; omega), List.set_append_left _ _ hp']
  unfold u8L
  rw [List.map_set]
theorem Yq.sliceCut {e : Env} {t E : TypeId} {x l h : Operand} {g off len cap i j : Nat} {k k' : IntKind} {p q : Int} {ti te : TI} (ho : o.op = .slice t x (some l) (some h) none)
    (hx : ev e x = .slice (some ⟨g, off, none⟩) len cap) (hl : ev e l = .int k p) (hh : ev e h = .int k' q) (ht : lk S.tab t = some ti) (htd : ti.d = .slice E) (he : lk S.tab E = some te)
    (hp : p.toNat = i) (hq : q.toNat = j) (h0 : 0 ≤ p) (h1 : p ≤ q) (h2 : q ≤ cap) (h3 : p < cap) : Yq P o e w (.slice (some ⟨g, off + i * te.size, none⟩) (j - i) (cap - i)) := by
  intro w' _
  have hu := S.run_und ht w'
  rw [htd] at hu
  subst hp
  subst hq
  have b1 := run_sliceBound (P := P) w' k' q cap .sliceAcap (by omega) h2
  have b2 := run_sliceBound (P := P) w' k p q.toNat .sliceB h0 (by omega)
  have hc : ¬ cap = p.toNat := by omega
  simp [execOp, ho, Instr.sliceAt, Instr.slice, Instr.sliceBounds, hx, hl, hh, hu, b1, b2, S.run_size he, hc, add_spot]
end
theorem sl_u8 {F : Frag} {b z : Nat} {l : List Nat} {E : TypeId} {fr : Nat × Nat} (h : (b, Obj.cells (u8L l ++ List.replicate z (Value.int .u8 0)).toArray E fr) ∈ F) : SlB F 1 (some ⟨b, 0, none⟩) l.length b 0 (u8L l ++ List.replicate z (Value.int .u8 0)) E fr (u8c l) := by
  intro _
  refine ⟨rfl, h, fun j hj => ⟨by rw [List.length_append, u8L_len]; omega, ?_⟩⟩
  have hj' : j < (u8L l ++ List.replicate z (Value.int .u8 0)).length := by rw [List.length_append, u8L_len]; omega
  rw [Nat.zero_add, Nat.mul_one, ← List.getElem_cons_drop hj', List.take_succ_cons, List.take_zero, List.getElem_append_left (by rw [u8L_len]; exact hj)]
  simp [u8L, u8c, List.getD_eq_getElem?_getD, hj]
end Go.Sk
namespace Go.Proofs.YtggolnppckpdlaaGreat
open Go Go.Sk Go.RowKit
theorem be4_inj {a b : Nat} (ha : a < 4294967296) (hb : b < 4294967296) (h : be4 a = be4 b) : a = b := by
  have h1 := V_be4 ha
  have h2 := V_be4 hb
  rw [← h1, ← h2]
  exact congrArg beV h
theorem hd_len {T : List Nat} {q n : Nat} {b B : List Nat} (h : HdOk T q b) (ht : T.take 16 = (headL n B).take 16) (hT : T.length ≤ 4294967295) (hB : B.length ≤ 4294967295) : T.length = 16 + B.length := by
  obtain ⟨_, rfl⟩ := h
  rw [headL_len] at hT
  have hs : ∀ (m : Nat) (C : List Nat), (headL m C).take 16 = [115, 110, 112, 49] ++ (be8 m ++ be4 C.length) := fun m C => rfl
  rw [hs, hs] at ht
  obtain ⟨_, h1⟩ := List.append_inj ht rfl
  obtain ⟨_, h2⟩ := List.append_inj h1 rfl
  have := be4_inj (by omega) (by omega) h2
  rw [headL_len, this]
theorem openL_take {X : List Nat} (h : (openL X).2 = 0) : 4 ≤ X.length ∧ (openL X).1 = X.take (X.length - 4) := by
  unfold openL at h ⊢
  split at h
  · cases h
  · rename_i h4
    rw [if_neg h4]
    split at h
    · rename_i h5
      rw [if_pos h5]; exact ⟨by omega, rfl⟩
    · cases h
theorem seal_len (l : List Nat) : (sealL l).length = l.length + 4 := by simp [sealL, le4]
theorem cut_none {n : Nat} {B : List Nat} {k : Nat} (hk : k < (sealL (headL n B)).length) (hB : B.length ≤ 4294967000) {q : Nat} {b : List Nat} (h0 : (openL ((sealL (headL n B)).take k)).2 = 0) (h : HdOk (openL ((sealL (headL n B)).take k)).1 q b) : False := by
  obtain ⟨h4, e⟩ := openL_take h0
  rw [e] at h
  have hl := seal_len (headL n B)
  have hh := headL_len n B
  rw [List.length_take, Nat.min_eq_left (by omega)] at h4 h
  have hlen : (((sealL (headL n B)).take k).take (k - 4)).length = k - 4 := by rw [List.length_take, List.length_take]; omega
  have h16 : 16 ≤ k - 4 := by
    have := headL_len q b
    rw [← h.2, hlen] at this
    omega
  have := hd_len (n := n) (B := B) h (by
    rw [List.take_take, Nat.min_eq_left h16, List.take_take, Nat.min_eq_left (by omega)]
    unfold sealL
    rw [List.take_append_of_le_length (by omega)]) (by rw [hlen]; omega) (by omega)
  rw [hlen] at this
  omega
theorem more_none {n : Nat} {B M : List Nat} (hM : M ≠ []) (hMl : M.length ≤ 100000) (hB : B.length ≤ 4294000000) {q : Nat} {b : List Nat} (h0 : (openL (sealL (headL n B) ++ M)).2 = 0) (h : HdOk (openL (sealL (headL n B) ++ M)).1 q b) : False := by
  obtain ⟨h4, e⟩ := openL_take h0
  rw [e] at h
  have hl := seal_len (headL n B)
  have hh := headL_len n B
  have hm : 0 < M.length := List.length_pos_iff.2 hM
  have hlen : ((sealL (headL n B) ++ M).take ((sealL (headL n B) ++ M).length - 4)).length = B.length + 16 + M.length := by rw [List.length_take, List.length_append]; omega
  have := hd_len (n := n) (B := B) h (by
    rw [List.take_take, Nat.min_eq_left (by rw [List.length_append]; omega)]
    unfold sealL
    rw [List.append_assoc, List.take_append_of_le_length (by omega)]) (by rw [hlen]; omega) (by omega)
  rw [hlen] at this
  omega
theorem OpenA.bad {X : List Nat} {n : Int} {x : Sta} {y : Vws} {e : Int} (h : OpenA X n x y e) (hno : ∀ q b, (openL X).2 = 0 → HdOk (openL X).1 q b → False) : e ≠ 0 ∧ n = 0 := by
  rcases h with ⟨_, _, q, b, _, h1, h2, _⟩ | ⟨hn, _, _, ⟨rfl, _⟩ | ⟨h1, _⟩ | ⟨rfl, _⟩⟩
  · exact (hno q b h2 h1).elim
  · exact ⟨by decide, hn⟩
  · exact ⟨h1, hn⟩
  · exact ⟨by decide, hn⟩
end Go.Proofs.YtggolnppckpdlaaGreat
set_option linter.unusedSimpArgs false
set_option linter.unusedVariables false
namespace Go.Proofs.YtggolnppckpdlaaGreat
open Go Go.Sk Go.RowKit
attribute [local irreducible] Go.Calls
theorem file_err {seq : Int} {s : Sta} {v : Vws} (h : (fileF seq s v).2 ≠ 0) : (fileF seq s v).1 = [] := by
  unfold fileF at h ⊢
  split
  · rfl
  · rename_i h1
    rw [if_neg h1] at h
    split
    · rename_i h2; rw [if_pos h2] at h; exact absurd rfl h
    · rfl
theorem file_ok {seq : Int} {s : Sta} {v : Vws} (hL : Light s) (hb : v.opn.length + v.lots.length + v.poss.length + v.lins.length < 600) (h : (fileF seq s v).2 = 0) : ∃ n : Nat, n ≤ 1048576 ∧ seq = (n : Int) ∧ mayS s = true ∧ viewsF v = true ∧ fileF seq s v = (sealL (headL n (bodyL s v)), 0) := by
  unfold fileF at h ⊢
  by_cases h1 : seq < 0 ∨ seq > 1048576
  · rw [if_pos h1] at h; cases h
  · rw [if_neg h1] at h ⊢
    by_cases h2 : (bodyF s v).2 = 0
    · rw [if_pos h2]
      rw [bodyF_light hL hb] at h2 ⊢
      by_cases h3 : (mayS s && viewsF v) = true
      · rw [if_pos h3]
        simp only [Bool.and_eq_true] at h3
        refine ⟨seq.toNat, by omega, by omega, h3.1, h3.2, rfl⟩
      · rw [if_neg h3] at h2; cases h2
    · rw [if_neg h2] at h; exact absurd h h2
theorem bit_of {bits i : Nat} (hb : bits < 4294967296) (hi : i < 32) : (IntKind.u32.wrap ((BitVec.ofInt IntKind.u32.bits (Int.fdiv (bits : Int) (2 ^ min (i % (2 ^ IntKind.u64.bits : Int).natAbs) IntKind.u32.bits)) &&& BitVec.ofInt IntKind.u32.bits 1).toNat : Int) == 1) = bits.testBit i := by
  have e1 : (2 ^ IntKind.u64.bits : Int).natAbs = 18446744073709551616 := rfl
  have e2 : IntKind.u32.bits = 32 := rfl
  have e3 : min (i % 18446744073709551616) 32 = i := by omega
  rw [e1, e2, e3, fdivN]
  have h1 : bits / 2 ^ i < 4294967296 := Nat.lt_of_le_of_lt (Nat.div_le_self _ _) hb
  have h2 := and32 _ h1
  rw [e2] at h2
  rw [h2, Nat.testBit_eq_decide_div_mod_eq, Bool.eq_iff_iff, beq_iff_eq, decide_eq_true_eq]
  omega
theorem flip8 {x r : Nat} (hx : x < 256) (hr : r < 8) : IntKind.u8.wrap ((BitVec.ofInt IntKind.u8.bits (x : Int) ^^^ BitVec.ofInt IntKind.u8.bits (IntKind.u8.wrap (1 * 2 ^ min r IntKind.u8.bits))).toNat : Int) = ((x ^^^ 2 ^ r : Nat) : Int) := by
  have e0 : IntKind.u8.bits = 8 := rfl
  have e1 : min r 8 = r := by omega
  have h1 : 2 ^ r < 256 := Nat.lt_of_lt_of_le (Nat.pow_lt_pow_right (by decide) hr) (by decide)
  have e2 : IntKind.u8.wrap (1 * 2 ^ min r IntKind.u8.bits) = ((2 ^ r : Nat) : Int) := by
    rw [e0, e1, Int.one_mul, show ((2 : Int) ^ r) = ((2 ^ r : Nat) : Int) by push_cast; rfl, w8, Nat.mod_eq_of_lt h1]
  rw [e2]
  exact xor8 _ _ hx h1
theorem byt_at {l : List Nat} (h : Byt l) (p : Nat) : l.getD p 0 < 256 := by
  rw [List.getD_eq_getElem?_getD]
  cases hq : l[p]? with
  | none => exact (by decide : 0 < 256)
  | some a => exact h a (List.mem_of_getElem? hq)
def TupR (n e : Int) (N : Frag) (v : Value) : Prop := ∃ (x : Sta) (p : SPt) (y : Vws) (q : VPt), v = .tuple #[.int .i64 n, .agg (x.cells p).toArray, .agg (y.cells q).toArray, .int .i64 e]
def TupE (N : Frag) (v : Value) : Prop := ∃ e : Int, (e == 0) = false ∧ TupR 0 e N v
theorem open_yes {f : ByteArray} {n : Nat} {B : List Nat} {s : Sta} {v : Vws} (hf : strL f = sealL (headL n B)) (hn : n ≤ 1048576) (hB : B.length ≤ 300000) (hrd : RdOk B s v) (hrw : RdW B) (w : World) : Calls Tryz.prog 12 [.string f].toArray w (RetF (TupR n 0) w) := by
  have hh : HdOk (headL n B) n B := ⟨hn, rfl⟩
  have hl := strL_len f
  rw [hf, seal_len, headL_len] at hl
  refine Calls.mono (c_sOpen f (by omega) (by
    rw [hf, open_seal]
    intro q b h _
    rw [h.inj hh]; exact hrw) w) ?_
  rintro e w' ⟨v', N, he, ⟨n', x, p, y, q, e', rfl, hx, hy, ha⟩, hst⟩
  rw [hf] at ha
  obtain ⟨rfl, rfl, rfl, rfl⟩ := ha.file (by rw [headL_len]; omega) hh hrd
  exact ⟨_, N, he, ⟨_, p, _, q, rfl⟩, hst⟩
theorem open_no {f : ByteArray} (hs : f.size ≤ 140737488355000) (hno : ∀ q b, (openL (strL f)).2 = 0 → HdOk (openL (strL f)).1 q b → False) (w : World) : Calls Tryz.prog 12 [.string f].toArray w (RetF TupE w) := by
  refine Calls.mono (c_sOpen f hs (fun q b h h0 => (hno q b h0 h).elim) w) ?_
  rintro e w' ⟨v', N, he, ⟨n', x, p, y, q, e', rfl, hx, hy, ha⟩, hst⟩
  obtain ⟨h1, rfl⟩ := ha.bad hno
  exact ⟨_, N, he, ⟨e', by simpa using h1, x, p, y, q, rfl⟩, hst⟩
set_option maxRecDepth 20000 in
set_option maxHeartbeats 16000000 in
theorem c_Burst {F : Frag} (s : Sta) (p : SPt) (v : Vws) (q : VPt) (seq : Int) (at_ : Int) (bits : Nat) (hbits : bits < 4294967296) (more : ByteArray) (hm : more.size ≤ 140737488355328) (ha : StaA s) (hc : VwA v) (w0 : World) (hF : Mem w0 F) (hs : StaM F s p) (hv : VwM F v q) :
    Calls Tryz.prog 7 [.agg (s.cells p).toArray, .agg (v.cells q).toArray, .int .i64 seq, .int .i64 at_, .int .u32 (bits : Int), .string more].toArray w0 (Ret (.bool true) w0) := by
  have cws := fun w hM => c_weigh (F := F) s p ha.acN ha.insN w hM hs
  have cbv := fun w hM => c_bulk (F := F) v q w hM hv
  obtain ⟨ws, hws⟩ : ∃ x, weighF s = x := ⟨_, rfl⟩
  obtain ⟨bv, hbv⟩ : ∃ x, min 3000 ((v.opn.length + v.lots.length + v.poss.length + v.lins.length : Nat) : Int) = x := ⟨_, rfl⟩
  rw [hws] at cws
  rw [hbv] at cbv
  by_cases hall : ws < 1500 ∧ bv < 600 ∧ (more.size : Int) ≤ 2000
  · obtain ⟨l1, l3, l5⟩ := hall
    have d1 : decide (ws ≥ 1500) = false := decide_eq_false (by omega)
    have d3 : decide (bv ≥ 600) = false := decide_eq_false (by omega)
    have d5 : decide ((more.size : Int) > 2000) = false := decide_eq_false (by omega)
    have L1 := weigh_light (hws ▸ l1)
    have n3 : v.opn.length + v.lots.length + v.poss.length + v.lins.length < 600 := by omega
    have WA := snW_light L1 ha hc n3
    have CF := fun w hM => c_File (F := F) seq s p v q WA w hM hs hv
    by_cases he : (fileF seq s v).2 = 0
    · obtain ⟨n, hn, rfl, h1, h2, hfe⟩ := file_ok L1 n3 he
      have hbt := bodyL_byt (WA.sb h1) WA.vb
      have hsm := body_small h1 h2 L1.rw (by omega) (by omega)
      have hrd := RdOk.of h1 h2 hc.kd
      have hrw := rdw_light L1 ha hc h1 h2
      rw [hfe] at CF
      simp only at CF
      obtain ⟨B, hB⟩ : ∃ B, bodyL s v = B := ⟨_, rfl⟩
      rw [hB] at CF hbt hsm hrd hrw
      have hhd : HdOk (headL n B) n B := ⟨hn, rfl⟩
      have hl := seal_len (headL n B)
      rw [headL_len] at hl
      have hFb : Byt (sealL (headL n B)) := sealL_byt (headL_byt hbt)
      have hop : openL (sealL (headL n B)) = (headL n B, 0) := open_seal _
      have hcut : ∀ k q b, k < (sealL (headL n B)).length → (openL ((sealL (headL n B)).take k)).2 = 0 → HdOk (openL ((sealL (headL n B)).take k)).1 q b → False := fun k q b hk => cut_none hk (by omega)
      have hmore : ∀ M q b, M ≠ [] → M.length ≤ 100000 → (openL (sealL (headL n B) ++ M)).2 = 0 → HdOk (openL (sealL (headL n B) ++ M)).1 q b → False := fun M q b hM hMl => more_none hM hMl (by omega)
      obtain ⟨f, hf⟩ : ∃ f, bytesOf (sealL (headL n B)) = f := ⟨_, rfl⟩
      have hfs : strL f = sealL (headL n B) := by rw [← hf]; exact strL_bytesOf hFb
      have hfl : f.size = (sealL (headL n B)).length := by rw [← hf]; exact bytesOf_len _
      rw [hf] at CF
      rw [← hfs] at hcut hmore hFb hop hl
      rw [← hfs] at hfl
      obtain ⟨fr, hfr, hr, hkw⟩ := rest_of at_ (n := 8 * f.size) (by omega) (by omega)
      obtain ⟨kc, hkc, hrc, hkwc⟩ := rest_of at_ (n := f.size) (by omega) (by omega)
      have hOf : ∀ (F' : ByteArray), F'.size ≤ 140737488355000 → (∀ q b, (openL (strL F')).2 = 0 → HdOk (openL (strL F')).1 q b → RdW b) → ∀ w, Calls Tryz.prog 12 [.string F'].toArray w (RetF (OpenR (strL F')) w) := fun F' hs' hW w => c_sOpen F' hs' (fun q b h h0 => hW q b h0 h) w
      have hw8 : IntKind.i64.wrap (8 * (f.size : Int)) = ((8 * f.size : Nat) : Int) := by rw [w64 (by omega) (by omega)]; omega
      refine enter [.tmp 12] Tryz.func7 rfl Tryz.ntmps7 rfl rfl ?_
      have H := St.start w0
      repeat' (first | refine y1 sg ?_ | refine y3 ?_ | refine y5 sg ?_ | refine y7 sg H ?_ | (refine y9 H ?_; intro b w H) | (refine' y30 ent8 ?_ ?_; rotate_left; exact c_works _; intro w hcl; replace H := H.ext hcl; clear hcl) | (refine' y30 ent20 ?_ ?_; rotate_left; exact cws _ (H.memF hF); intro w hcl; replace H := H.ext hcl; clear hcl) | (refine' y30 ent21 ?_ ?_; rotate_left; exact cbv _ (H.memF hF); intro w hcl; replace H := H.ext hcl; clear hcl) | refine y13 ?_ | (refine y17 ?_ ?_; all_goals (intro h; try (exfalso; first | ((rw [d1] at h; cases h); done) | ((rw [d3] at h; cases h); done) | ((rw [d5] at h; cases h); done)))) | with_reducible apply OW.nil | with_reducible apply thn_n | with_reducible apply CW.seq | refine CW.region ?_ | fail)
      refine CW.cond rfl (fun h => absurd h (by rw [d5]; decide)) (fun h => ?_)
      clear h
      repeat' (first | refine y1 sg ?_ | refine y3 ?_ | refine y7 sg H ?_ | (refine' y30 ent11 ?_ ?_; rotate_left; exact CF _ (H.memF hF); intro w hcl; replace H := H.ext hcl; clear hcl) | (refine OX.bytesO sg H rfl rfl rfl rfl rfl rfl rfl rfl rfl rfl ?_; intro b z fz w hfz H) | (refine OX.val rfl rfl (Yq.rem rfl rfl rfl (by rw [hw8, u64_id (by omega) (by omega)]; omega)) ?_) | with_reducible apply OW.nil | with_reducible apply thn_n | with_reducible apply CW.seq | refine CW.region ?_ | with_reducible apply CW.block | with_reducible apply CW.skip | refine y22 ?_ | fail)
      rw [hw8, hr, hkw]
      refine CW.loopI [(17, 17), (69, 102)] (fun i : Nat => [(17, .int .i64 (i : Int))]) (fun i w => St w0 [(b, Obj.cells (u8L (flL (strL f) bits fr i) ++ List.replicate z (Value.int .u8 0)).toArray 5 (fz, fz + 1)), cb _ (v.cells q) 35, cb _ (s.cells p) 29] w ∧ i ≤ 32 ∧ fr + i ≤ 8 * f.size) (fun i => 32 - i) 0 ⟨rfl, trivial⟩ ⟨by rw [flL_zero]; exact H, Nat.zero_le _, by omega⟩ ?_
      clear H
      rintro i gh w ⟨H, hi, hfi⟩
      have hfil := flL_len (strL f) bits fr i
      have hfib := flL_byt hFb bits fr i
      by_cases hc2 : i < 32 ∧ fr + i < 8 * f.size
      · obtain ⟨hc2, hc3⟩ := hc2
        have k1 : decide ((i : Int) < 32) = true := decide_eq_true (by omega)
        have k2 : decide (IntKind.i64.wrap ((fr : Int) + (i : Int)) < IntKind.i64.wrap (8 * (f.size : Int))) = true := by rw [hw8, w64 (by omega) (by omega)]; exact decide_eq_true (by omega)
        repeat' (first | refine y1 sg ?_ | refine y5 sg ?_ | refine y13 ?_ | (refine y17 ?_ ?_; all_goals (intro h; try (exfalso; first | ((rw [k1] at h; cases h); done) | ((rw [k2] at h; cases h); done)))) | with_reducible apply OW.nil | with_reducible apply thn_n | with_reducible apply CW.seq | refine CW.region ?_ | fail)
        refine CW.cond rfl (fun h => ?_) (fun h => absurd k2 (by rw [h]; decide))
        clear h
        repeat' (first | refine y1 sg ?_ | with_reducible apply OW.nil | with_reducible apply thn_n | with_reducible apply CW.seq | refine CW.region ?_ | with_reducible apply CW.block | with_reducible apply CW.skip | fail)
        obtain ⟨K, hK⟩ : ∃ K, (IntKind.u32.wrap ((BitVec.ofInt IntKind.u32.bits (Int.fdiv (bits : Int) (2 ^ min (i % (2 ^ IntKind.u64.bits : Int).natAbs) IntKind.u32.bits)) &&& BitVec.ofInt IntKind.u32.bits 1).toNat : Int) == 1) = K := ⟨_, rfl⟩
        have hKb : K = bits.testBit i := by rw [← hK]; exact bit_of hbits hc2
        rw [hK]
        cases hb : bits.testBit i
        · rw [hb] at hKb
          subst hKb
          repeat' (first | refine y1 sg ?_ | with_reducible apply OW.nil | with_reducible apply thn_n | refine CW.region ?_ | with_reducible apply CW.skip | refine y22 ?_ | fail)
          exact Again.mk (i + 1) rfl ⟨vsucc (by omega), trivial⟩ ⟨by rw [flL_skip hb]; exact H, by omega, by omega⟩ (by omega)
        · rw [hb] at hKb
          subst hKb
          have hj : (fr + i) / 8 < f.size := by omega
          have hS := sl_u8 (l := flL (strL f) bits fr i) (z := z) (b := b) (E := 5) (fr := (fz, fz + 1)) (F := [(b, Obj.cells (u8L (flL (strL f) bits fr i) ++ List.replicate z (Value.int .u8 0)).toArray 5 (fz, fz + 1))]) (List.Mem.head _)
          rw [hfil, ← hfl] at hS
          have hq8 : IntKind.i64.wrap ((IntKind.i64.wrap ((fr : Int) + (i : Int))).tdiv 8) = (((fr + i) / 8 : Nat) : Int) := by
            rw [w64 (x := (fr : Int) + (i : Int)) (by omega) (by omega), show ((fr : Int) + (i : Int)) = ((fr + i : Nat) : Int) by omega]
            rw [show ((fr + i : Nat) : Int).tdiv 8 = (((fr + i) / 8 : Nat) : Int) from rfl]
            exact w64 (by omega) (by omega)
          have hr8 : (IntKind.i64.wrap ((fr : Int) + (i : Int))).tmod 8 = (((fr + i) % 8 : Nat) : Int) := by
            rw [w64 (x := (fr : Int) + (i : Int)) (by omega) (by omega), show ((fr : Int) + (i : Int)) = ((fr + i : Nat) : Int) by omega]
            rfl
          repeat' (first | refine y1 sg ?_ | refine y3 ?_ | refine CW.region ?_ | refine y21 ?_ | fail)
          rw [show IntKind.i64.wrap ((IntKind.i64.wrap ((fr : Int) + (i : Int))).tdiv (Int.ofNat (7 + 1))) = (((fr + i) / 8 : Nat) : Int) from hq8]
          repeat' (first | refine y1 sg ?_ | refine y3 ?_ | (refine y40 sg (hS) ?_ ?_ ?_; (omega); (omega)) | (refine y46 sg (hS) ((H.mem.sub (by intro p hp; rw [List.mem_singleton] at hp; subst hp; exact List.Mem.head _))) ?_ ?_; (omega)) | fail)
          rw [show IntKind.u64.wrap ((IntKind.i64.wrap ((fr : Int) + (i : Int))).tmod (Int.ofNat (7 + 1))) = (((fr + i) % 8 : Nat) : Int) by rw [show (Int.ofNat (7 + 1)) = 8 from rfl, hr8]; exact u64_id (by omega) (by omega)]
          repeat' (first | refine y1 sg ?_ | refine y3 ?_ | refine y5 sg ?_ | (refine y40 sg (hS) ?_ ?_ ?_; (omega); (omega)) | fail)
          rw [flip8 (byt_at hfib _) (by omega)]
          repeat' (first | refine y1 sg ?_ | (refine OX.storeF sg (v := Value.int .u8 (((flL (strL f) bits fr i).getD ((fr + i) / 8) 0 ^^^ 2 ^ ((fr + i) % 8) : Nat) : Int)) H rfl rfl rfl rfl rfl rfl rfl Up.here (by rw [List.length_append, u8L_len]; omega) (by omega) rfl ?_; intro w H; rw [Nat.zero_add, Nat.mul_one, wr_u8 (by omega), flL_step hb] at H) | with_reducible apply OW.nil | with_reducible apply thn_n | refine CW.region ?_ | fail)
          exact Again.mk (i + 1) rfl ⟨vsucc (by omega), trivial⟩ ⟨H, by omega, by omega⟩ (by omega)
      · have hd : ∀ b : Prop, (decide ((i : Int) < 32) = true → decide (IntKind.i64.wrap ((fr : Int) + (i : Int)) < IntKind.i64.wrap (8 * (f.size : Int))) = true → b) := fun b h1 h2 => False.elim (hc2 ⟨by have := of_decide_eq_true h1; omega, by
          have := of_decide_eq_true h2
          rw [hw8, w64 (by omega) (by omega)] at this
          omega⟩)
        have hS := sl_u8 (l := flL (strL f) bits fr i) (z := z) (b := b) (E := 5) (fr := (fz, fz + 1)) (F := [(b, Obj.cells (u8L (flL (strL f) bits fr i) ++ List.replicate z (Value.int .u8 0)).toArray 5 (fz, fz + 1))]) (List.Mem.head _)
        rw [hfil, ← hfl] at hS
        have hfil' : (flL (strL f) bits fr i).length = f.size := by omega
        have hft := @flip_open (strL f) hFb (by omega) (by rw [hop]) bits fr i hi (by omega) (by omega)
        obtain ⟨g, hg⟩ : ∃ g, bytesOf (flL (strL f) bits fr i) = g := ⟨_, rfl⟩
        have hgs : strL g = flL (strL f) bits fr i := by rw [← hg]; exact strL_bytesOf hfib
        have hgl : g.size = f.size := by rw [← strL_len, hgs]; exact hfil'
        have C2 : ∀ w, Calls Tryz.prog 12 [.string (f.extract 0 kc)].toArray w (RetF TupE w) := by
          have e : strL (f.extract 0 kc) = (strL f).take kc := by rw [strL_extract]; simp
          refine open_no (by rw [← strL_len, e, List.length_take]; omega) ?_
          rw [e]
          intro q b h0 h1
          exact hcut kc q b (by omega) h0 h1
        obtain ⟨me, hme⟩ : ∃ x, (more.toList == (⟨#[]⟩ : ByteArray).toList) = x := ⟨_, rfl⟩
        have hme' : me = decide (strL more = []) := by rw [← hme, str_eq]; rfl
        have C3 : ∀ w, Calls Tryz.prog 12 [.string (f ++ more)].toArray w (RetF (fun N v => ∃ e n : Int, (e == 0) = me ∧ TupR n e N v) w) := by
          intro w
          have e : strL (f ++ more) = strL f ++ strL more := strL_app _ _
          by_cases hmo : strL more = []
          · rw [hmo, List.append_nil, hfs] at e
            refine Calls.mono (open_yes e hn (by omega) hrd hrw w) ?_
            rintro e w' ⟨v', N, he', ht, hst⟩
            exact ⟨v', N, he', ⟨0, n, by rw [hme', decide_eq_true hmo]; rfl, ht⟩, hst⟩
          · have hml : (strL more).length ≤ 2000 := by rw [strL_len]; omega
            refine Calls.mono (open_no (by rw [← strL_len, e, List.length_append]; omega) (by
              rw [e]
              intro q b h0 h1
              exact hmore _ q b hmo (by omega) h0 h1) w) ?_
            rintro e w' ⟨v', N, he', ⟨ec, hec, ht⟩, hst⟩
            exact ⟨v', N, he', ⟨ec, 0, by rw [hme', decide_eq_false hmo]; exact hec, ht⟩, hst⟩
        have hz : ∀ {e : Int}, (e == 0) = false → (e != 0) = true := fun h => by rw [bne, h]; rfl
        have hn00 : ((0 : Int) != 0) = false := rfl
        have hwc : IntKind.u64.wrap (f.size : Int) = IntKind.u64.wrap (f.size : Int) := rfl
        by_cases hFF : flL (strL f) bits fr i = strL f
        · have hgf : g = f := by
            apply strL_inj; rw [hgs, hFF]
          subst hgf
          have kg : ((bytesOf (flL (strL g) bits fr i)).toList == g.toList) = true := by rw [hg]; simp
          have kn : ((n : Int) == (n : Int)) = true := by simp
          have C1 := open_yes hfs hn (by omega) hrd hrw
          repeat' (first | refine y1 sg ?_ | refine y3 ?_ | refine y5 sg ?_ | (refine y10 sg H ?_; intro b w H) | (refine y11 sg H ?_; intro w H) | ((with_reducible apply OX.val); exact rfl; exact rfl; exact Yq.toStr sg hS hfil' (H.mem.sub (by intro p hp; rw [List.mem_singleton] at hp; subst hp; exact (by repeat (first | exact List.Mem.head _ | exact List.mem_append_right _ (List.Mem.head _) | refine List.Mem.tail _ ?_)))) rfl rfl rfl rfl rfl rfl rfl rfl) | (refine' y32 ent12 ?_ ?_; rotate_left; exact hg ▸ C1 _; intro vv M w hR hS; replace H := H.addR hS; clear hS; (try simp only [List.cons_append, List.nil_append] at H); obtain ⟨x1, p1, v1, q1, rfl⟩ := hR) | refine y13 ?_ | refine y14 ?_ | (refine y17 ?_ ?_; all_goals (intro h; try (exfalso; first | ((exact hd _ ‹_› h); done) | ((rw [kg] at h; cases h); done) | ((rw [kn] at h; cases h); done)))) | with_reducible apply OW.nil | with_reducible apply thn_n | with_reducible apply CW.seq | refine CW.region ?_ | with_reducible apply CW.ret | with_reducible apply CW.exit | with_reducible apply thn_r | with_reducible apply thn_e | refine y24 ?_ | refine y22 ?_ | (refine y23 ?_ ?_; all_goals (intro h; try (exfalso; first | ((exact hd _ ‹_› h); done) | ((rw [kg] at h; cases h); done) | ((rw [kn] at h; cases h); done)))) | fail)
          all_goals exact ret1 rfl H.cl (congrArg Value.bool kn)
        · have hgf : ((bytesOf (flL (strL f) bits fr i)).toList == f.toList) = false := by
            rw [hg, str_eq]; exact decide_eq_false fun h => hFF (hgs.symm.trans h)
          have C1 := open_no (f := g) (by omega) (by
            rw [hgs]; intro q b h0 _; exact hft hFF h0)
          clear hft hcut hmore hop hfe he hfs
          repeat' (first | refine y1 sg ?_ | refine y3 ?_ | refine y5 sg ?_ | (refine y10 sg H ?_; intro b w H) | (refine y11 sg H ?_; intro w H) | ((with_reducible apply OX.val); exact rfl; exact rfl; exact Yq.toStr sg hS hfil' (H.mem.sub (by intro p hp; rw [List.mem_singleton] at hp; subst hp; exact (by repeat (first | exact List.Mem.head _ | exact List.mem_append_right _ (List.Mem.head _) | refine List.Mem.tail _ ?_)))) rfl rfl rfl rfl rfl rfl rfl rfl) | (refine' y32 ent12 ?_ ?_; rotate_left; exact hg ▸ C1 _; intro vv M w hR hS; replace H := H.addR hS; clear hS; (try simp only [List.cons_append, List.nil_append] at H); obtain ⟨e1, hn1, x1, p1, v1, q1, rfl⟩ := hR) | ((with_reducible apply OX.val); exact rfl; exact rfl; exact Yq.rem rfl rfl rfl (by rw [u64_id (by omega) (by omega)]; omega)) | refine y13 ?_ | refine y14 ?_ | (refine y17 ?_ ?_; all_goals (intro h; try (exfalso; first | ((exact hd _ ‹_› h); done) | ((rw [hgf] at h; cases h); done) | ((rw [hn1] at h; cases h); done) | ((rw [hz hn1] at h; cases h); done) | ((rw [hz hn2] at h; cases h); done) | ((rw [hn00] at h; cases h); done)))) | with_reducible apply OW.nil | with_reducible apply thn_n | with_reducible apply CW.seq | refine CW.region ?_ | with_reducible apply CW.exit | with_reducible apply CW.skip | with_reducible apply thn_e | refine y24 ?_ | refine y22 ?_ | (refine y23 ?_ ?_; all_goals (intro h; try (exfalso; first | ((exact hd _ ‹_› h); done) | ((rw [hgf] at h; cases h); done) | ((rw [hn1] at h; cases h); done) | ((rw [hz hn1] at h; cases h); done) | ((rw [hz hn2] at h; cases h); done) | ((rw [hn00] at h; cases h); done)))) | fail)
          all_goals rw [hrc, hkwc]
          all_goals
            repeat' (first | refine y1 sg ?_ | refine y3 ?_ | refine y5 sg ?_ | (refine y10 sg H ?_; intro b w H) | (refine y11 sg H ?_; intro w H) | ((with_reducible apply OX.val); exact rfl; exact rfl; exact Yq.strHi sg rfl rfl rfl rfl rfl (Int.toNat_natCast _) (by omega) (by omega)) | ((with_reducible apply OX.val); exact rfl; exact rfl; exact Yq.cat rfl rfl rfl (by omega)) | (refine' y32 ent12 ?_ ?_; rotate_left; exact C2 _; intro vv M w hR hS; replace H := H.addR hS; clear hS; (try simp only [List.cons_append, List.nil_append] at H); obtain ⟨e2, hn2, x2, p2, v2, q2, rfl⟩ := hR) | (refine' y32 ent12 ?_ ?_; rotate_left; exact C3 _; intro vv M w hR hS; replace H := H.addR hS; clear hS; (try simp only [List.cons_append, List.nil_append] at H); obtain ⟨e3, n3, hn3, x3, p3, v3, q3, rfl⟩ := hR) | refine y13 ?_ | (refine y17 ?_ ?_; all_goals (intro h; try (exfalso; first | ((rw [hgf] at h; cases h); done) | ((rw [hz hn2] at h; cases h); done)))) | with_reducible apply OW.nil | with_reducible apply thn_n | with_reducible apply CW.seq | refine CW.region ?_ | with_reducible apply CW.ret | fail)
          all_goals exact ret1 rfl H.cl (congrArg Value.bool (by rw [hn3, hme]; simp))
    · obtain ⟨⟨X, e⟩, hX⟩ : ∃ x, fileF seq s v = x := ⟨_, rfl⟩
      have hXe := file_err he
      rw [hX] at he CF hXe
      simp only at he CF hXe
      subst hXe
      have hne : (e != 0) = true := by simp [he]
      have hself : ((bytesOf []).toList == (⟨#[]⟩ : ByteArray).toList) = true := by rw [str_eq]; decide
      refine enter [.tmp 12] Tryz.func7 rfl Tryz.ntmps7 rfl rfl ?_
      have H := St.start w0
      repeat' (first | refine y1 sg ?_ | refine y3 ?_ | refine y5 sg ?_ | refine y7 sg H ?_ | (refine y9 H ?_; intro b w H) | (refine' y30 ent8 ?_ ?_; rotate_left; exact c_works _; intro w hcl; replace H := H.ext hcl; clear hcl) | (refine' y30 ent20 ?_ ?_; rotate_left; exact cws _ (H.memF hF); intro w hcl; replace H := H.ext hcl; clear hcl) | (refine' y30 ent21 ?_ ?_; rotate_left; exact cbv _ (H.memF hF); intro w hcl; replace H := H.ext hcl; clear hcl) | (refine' y30 ent11 ?_ ?_; rotate_left; exact CF _ (H.memF hF); intro w hcl; replace H := H.ext hcl; clear hcl) | refine y13 ?_ | (refine y17 ?_ ?_; all_goals (intro h; try (exfalso; first | ((rw [d1] at h; cases h); done) | ((rw [d3] at h; cases h); done) | ((rw [d5] at h; cases h); done) | ((rw [hne] at h; cases h); done)))) | with_reducible apply OW.nil | with_reducible apply thn_n | with_reducible apply CW.seq | refine CW.region ?_ | with_reducible apply CW.ret | with_reducible apply CW.skip | with_reducible apply thn_r | (refine y23 ?_ ?_; all_goals (intro h; try (exfalso; first | ((rw [d1] at h; cases h); done) | ((rw [d3] at h; cases h); done) | ((rw [d5] at h; cases h); done) | ((rw [hne] at h; cases h); done)))) | fail)
      all_goals first
        | exact ret1 rfl H.cl (congrArg Value.bool hself)
        | trace_state
  · refine enter [.tmp 12] Tryz.func7 rfl Tryz.ntmps7 rfl rfl ?_
    have H := St.start w0
    repeat' (first | refine y1 sg ?_ | refine y3 ?_ | refine y5 sg ?_ | refine y7 sg H ?_ | (refine y9 H ?_; intro b w H) | (refine' y30 ent8 ?_ ?_; rotate_left; exact c_works _; intro w hcl; replace H := H.ext hcl; clear hcl) | (refine' y30 ent20 ?_ ?_; rotate_left; exact cws _ (H.memF hF); intro w hcl; replace H := H.ext hcl; clear hcl) | (refine' y30 ent21 ?_ ?_; rotate_left; exact cbv _ (H.memF hF); intro w hcl; replace H := H.ext hcl; clear hcl) | refine y13 ?_ | refine y14 ?_ | (refine y17 ?_ ?_; all_goals (intro h; try (exfalso; first | ((simp only [decide_eq_true_eq, decide_eq_false_iff_not, ge_iff_le, gt_iff_lt] at *; omega); done)))) | with_reducible apply OW.nil | with_reducible apply thn_n | with_reducible apply CW.seq | refine CW.region ?_ | with_reducible apply CW.ret | with_reducible apply thn_r | refine y21 ?_ | (refine y23 ?_ ?_; all_goals (intro h; try (exfalso; first | ((simp only [decide_eq_true_eq, decide_eq_false_iff_not, ge_iff_le, gt_iff_lt] at *; omega); done)))) | fail)
    all_goals first
      | exact ret1 rfl H.cl rfl
      | trace_state
end Go.Proofs.YtggolnppckpdlaaGreat
set_option linter.unusedSimpArgs false
set_option linter.unusedVariables false
namespace Go.Proofs.YtggolnppckpdlaaGreat
open Go Go.Sk Go.RowKit
attribute [local irreducible] Go.Calls
def fullA : List Ac := [⟨⟨#[97]⟩, true⟩, ⟨⟨#[98]⟩, true⟩, ⟨⟨#[99]⟩, false⟩]
def fullI : List Ins := [⟨⟨#[103, 111, 108, 100]⟩, 2, true⟩]
def fullR : List Row4 := [⟨0, 0, -100, 0⟩, ⟨0, 1, -30, 0⟩, ⟨1, 0, 5, 45⟩, ⟨1, 1, 0, 10⟩, ⟨2, 0, 43, 7⟩, ⟨2, 1, 12, 8⟩]
def fullO : List Odr := [⟨1, 1, 1, 1, 10, 4⟩, ⟨3, 2, 1, 2, 12, 7⟩]
def fullU : List Auc := [⟨2, 1, 1, false, 10, 7, 1, 20, [⟨2, 7⟩]⟩, ⟨7, 2, 1, true, 1, 2, 0, 5, [⟨1, 5⟩]⟩]
def fullS (fee : Int) : Sta := ⟨9, fee, 4, 8, fullA, fullI, fullR, fullO, fullU⟩
def fullL (z : Int) : List Ln := [⟨1, 0, 6, 100, 100⟩, ⟨1, 5, 7, -50, z⟩]
def fullV (z : Int) : Vws := ⟨[⟨1, 1, 1, 1, 10, 4⟩], [⟨2, 1, 1, 10⟩], [⟨1, 1, 3, 0, 30, 0⟩], fullL z⟩
theorem may_full : mayS (fullS 100) = true := by decide +kernel
theorem may_bad : mayS (fullS 1001) = false := by decide +kernel
theorem view_full : viewsF (fullV 50) = true := by decide +kernel
theorem view_bad : viewsF (fullV 51) = false := by decide +kernel
theorem staA_full (f : Int) : StaA (fullS f) := by
  refine ⟨fun k hk => ?_, fun k hk => ?_, fun k hk => ?_, fun k hk => ?_⟩
  · have hk : k < 3 := hk
    match k, hk with
    | 0, _ => exact of_decide_eq_true rfl
    | 1, _ => exact of_decide_eq_true rfl
    | 2, _ => exact of_decide_eq_true rfl
  · have hk : k < 1 := hk
    match k, hk with
    | 0, _ => exact of_decide_eq_true rfl
  · have hk : k < 6 := hk
    match k, hk with
    | 0, _ => exact ⟨⟨of_decide_eq_true rfl, of_decide_eq_true rfl⟩, ⟨of_decide_eq_true rfl, of_decide_eq_true rfl⟩⟩
    | 1, _ => exact ⟨⟨of_decide_eq_true rfl, of_decide_eq_true rfl⟩, ⟨of_decide_eq_true rfl, of_decide_eq_true rfl⟩⟩
    | 2, _ => exact ⟨⟨of_decide_eq_true rfl, of_decide_eq_true rfl⟩, ⟨of_decide_eq_true rfl, of_decide_eq_true rfl⟩⟩
    | 3, _ => exact ⟨⟨of_decide_eq_true rfl, of_decide_eq_true rfl⟩, ⟨of_decide_eq_true rfl, of_decide_eq_true rfl⟩⟩
    | 4, _ => exact ⟨⟨of_decide_eq_true rfl, of_decide_eq_true rfl⟩, ⟨of_decide_eq_true rfl, of_decide_eq_true rfl⟩⟩
    | 5, _ => exact ⟨⟨of_decide_eq_true rfl, of_decide_eq_true rfl⟩, ⟨of_decide_eq_true rfl, of_decide_eq_true rfl⟩⟩
  · have hk : k < 2 := hk
    match k, hk with
    | 0, _ => exact ⟨of_decide_eq_true rfl, of_decide_eq_true rfl⟩
    | 1, _ => exact ⟨of_decide_eq_true rfl, of_decide_eq_true rfl⟩
theorem vwA_full (z : Int) (h : -9223372036854775808 ≤ z ∧ z ≤ 9223372036854775807) : VwA (fullV z) := by
  refine ⟨fun k hk => ?_, fun k hk => ?_, fun k hk => ?_⟩
  · have hk : k < 1 := hk
    match k, hk with
    | 0, _ => exact ⟨of_decide_eq_true rfl, of_decide_eq_true rfl⟩
  · have hk : k < 2 := hk
    match k, hk with
    | 0, _ => exact ⟨of_decide_eq_true rfl, of_decide_eq_true rfl⟩
    | 1, _ => exact ⟨of_decide_eq_true rfl, of_decide_eq_true rfl⟩
  · have hk : k < 2 := hk
    match k, hk with
    | 0, _ => exact ⟨⟨of_decide_eq_true rfl, of_decide_eq_true rfl⟩, ⟨of_decide_eq_true rfl, of_decide_eq_true rfl⟩⟩
    | 1, _ => exact ⟨⟨of_decide_eq_true rfl, of_decide_eq_true rfl⟩, h⟩
theorem light_full (f : Int) : Light (fullS f) := by
  refine ⟨of_decide_eq_true rfl, of_decide_eq_true rfl, of_decide_eq_true rfl, fun k hk => ?_, of_decide_eq_true rfl, fun k hk => ?_, of_decide_eq_true rfl, fun k hk => ?_⟩
  · have hk : k < 3 := hk
    match k, hk with
    | 0, _ => exact of_decide_eq_true rfl
    | 1, _ => exact of_decide_eq_true rfl
    | 2, _ => exact of_decide_eq_true rfl
  · have hk : k < 1 := hk
    match k, hk with
    | 0, _ => exact of_decide_eq_true rfl
  · have hk : k < 2 := hk
    match k, hk with
    | 0, _ => exact of_decide_eq_true rfl
    | 1, _ => exact of_decide_eq_true rfl
theorem snW_full (f z : Int) (h : -9223372036854775808 ≤ z ∧ z ≤ 9223372036854775807) : SnW (fullS f) (fullV z) := snW_light (light_full f) (staA_full f) (vwA_full z h) (by show 1 + 1 + 1 + 2 < 600; decide)
def FB : List Nat := bodyL (fullS 100) (fullV 50)
theorem body_full : bodyF (fullS 100) (fullV 50) = (FB, 0) := bodyF_yes (light_full _) (by show 1 + 1 + 1 + 2 < 600; decide) may_full view_full
theorem body_badS (z : Int) : bodyF (fullS 1001) (fullV z) = ([], 4) := bodyF_no (light_full _) (by show 1 + 1 + 1 + 2 < 600; decide) (.inl may_bad)
theorem body_badV : bodyF (fullS 100) (fullV 51) = ([], 4) := bodyF_no (light_full _) (by show 1 + 1 + 1 + 2 < 600; decide) (.inr view_bad)
def FF : List Nat := sealL (headL 1048576 FB)
theorem file_full : fileF 1048576 (fullS 100) (fullV 50) = (FF, 0) := by
  unfold fileF
  rw [if_neg (by decide), body_full, if_pos rfl]; rfl
theorem file_neg (s : Sta) (v : Vws) : fileF (-1) s v = ([], 1) := by unfold fileF; rw [if_pos (by decide)]
theorem file_big (s : Sta) (v : Vws) : fileF 1048577 s v = ([], 1) := by unfold fileF; rw [if_pos (by decide)]
theorem file_bad (z : Int) : fileF 5 (fullS 1001) (fullV z) = ([], 4) := by
  unfold fileF
  rw [if_neg (by decide), body_badS, if_neg (by decide)]
theorem FB_byt : Byt FB := bodyL_byt (staB_light (light_full _) (staA_full _) may_full) (snW_full 100 50 ⟨by decide, by decide⟩).vb
theorem rd_full : RdOk FB (fullS 100) (fullV 50) := RdOk.of may_full view_full (vwA_full 50 ⟨by decide, by decide⟩).kd
end Go.Proofs.YtggolnppckpdlaaGreat
set_option linter.unusedSimpArgs false
set_option linter.unusedVariables false
namespace Go.Proofs.YtggolnppckpdlaaGreat
open Go Go.Sk Go.RowKit
theorem body_head (x : Sta) (y : Vws) : ∃ r, bodyL x y = short (u64n x.clock) ++ (short (u64n x.fee) ++ (short (u64n x.nextO) ++ (short (u64n x.nextA) ++ (short x.accts.length ++ ((List.range x.accts.length).flatMap (fun k => accB (ac_ x.accts k)) ++ r))))) := by
  refine ⟨(manyB x.insts.length (fun k => insB (in_ x.insts k)) ++ (manyB x.rows.length (fun k => rowB (rw_ x.rows k)) ++ (manyB x.orders.length (fun k => ordB (od_ x.orders k)) ++ manyB x.aucs.length (fun k => aucB (x.aucs.getD k default))))) ++ viewsB y, ?_⟩
  simp [bodyL, stateB, numsB, manyB, List.append_assoc]
theorem no_nil (x : Sta) (y : Vws) : ¬ RdOk [] x y := by
  intro h
  obtain ⟨r, hr⟩ := body_head x y
  have := h.body
  rw [hr] at this
  have := congrArg List.length this
  have h0 := List.length_pos_iff.2 (short_ne (u64n x.clock))
  simp only [List.length_append, List.length_nil] at this
  omega
theorem RdOk.pre {B t : List Nat} {x x' : Sta} {y y' : Vws} (h : RdOk B x y) (h' : RdOk (B ++ t) x' y') : t = [] := by
  obtain ⟨⟨l, m, h1, h2, h3⟩, _⟩ := h
  obtain ⟨⟨l', m', h1', h2', h3'⟩, _⟩ := h'
  rw [h3, List.append_assoc] at h3'
  obtain ⟨_, e⟩ := uq_sta _ _ _ _ _ _ h1 h1' h3'
  obtain ⟨_, e2⟩ := uq_vws _ _ _ _ t [] h2 h2' (by rw [e, List.append_nil])
  exact e2
theorem no_more (x : Sta) (y : Vws) : ¬ RdOk (FB ++ [0]) x y := fun h => by
  have := rd_full.pre h
  cases this
theorem FB_pos : 0 < FB.length := List.length_pos_iff.2 fun h => no_nil _ _ (h ▸ rd_full)
theorem no_less (x : Sta) (y : Vws) : ¬ RdOk (FB.take (FB.length - 1)) x y := fun h => by
  have hp := FB_pos
  have := h.pre (t := FB.drop (FB.length - 1)) (by rw [List.take_append_drop]; exact rd_full)
  have := congrArg List.length this
  rw [List.length_drop, List.length_nil] at this
  omega
theorem no_128 (t : List Nat) (x : Sta) (y : Vws) : ¬ RdOk (128 :: 0 :: t) x y := fun h => by
  obtain ⟨r, hr⟩ := body_head x y
  have e := h.body
  rw [hr] at e
  generalize u64n x.clock = n at e
  by_cases h1 : n < 128
  · rw [short_lt h1] at e
    simp only [List.singleton_append, List.cons.injEq] at e
    omega
  · rw [short_ge h1] at e
    simp only [List.cons_append, List.cons.injEq] at e
    obtain ⟨e1, e2⟩ := e
    by_cases h2 : n / 128 < 128
    · rw [short_lt h2] at e2
      simp only [List.singleton_append, List.cons.injEq] at e2
      omega
    · rw [short_ge h2] at e2
      simp only [List.cons_append, List.cons.injEq] at e2
      omega
theorem head_is {n k : Nat} {r t : List Nat} (hk : k < 128) (h : k :: t = short n ++ r) : n = k ∧ r = t := by
  have := short_uniq n k r t (by rw [← h, short_lt hk]; rfl)
  exact this
theorem no_flag (t : List Nat) (x : Sta) (y : Vws) : ¬ RdOk (0 :: 0 :: 1 :: 1 :: 1 :: 1 :: 97 :: 2 :: t) x y := fun h => by
  obtain ⟨r, hr⟩ := body_head x y
  have e := h.body
  rw [hr] at e
  obtain ⟨_, e⟩ := head_is (by decide) e
  obtain ⟨_, e⟩ := head_is (by decide) e.symm
  obtain ⟨_, e⟩ := head_is (by decide) e.symm
  obtain ⟨_, e⟩ := head_is (by decide) e.symm
  obtain ⟨hn, e⟩ := head_is (by decide) e.symm
  rw [hn] at e
  simp only [List.range_one, List.flatMap_cons, List.flatMap_nil, List.append_nil, accB, List.append_assoc] at e
  obtain ⟨hs, e⟩ := head_is (by decide) e.symm
  have hl : (strL (ac_ x.accts 0).name).length = 1 := by rw [strL_len, hs]
  match hq : strL (ac_ x.accts 0).name, hl with
  | [a], _ =>
    rw [hq] at e
    simp only [List.singleton_append, List.cons_append, List.nil_append, List.cons.injEq, flagB] at e
    obtain ⟨_, e2, _⟩ := e
    split at e2 <;> omega
theorem no_many (t : List Nat) (x : Sta) (y : Vws) : ¬ RdOk (0 :: 0 :: 1 :: 1 :: 255 :: t) x y := fun h => by
  obtain ⟨r, hr⟩ := body_head x y
  have e := h.body
  rw [hr] at e
  obtain ⟨_, e⟩ := head_is (by decide) e
  obtain ⟨_, e⟩ := head_is (by decide) e.symm
  obtain ⟨_, e⟩ := head_is (by decide) e.symm
  obtain ⟨_, e⟩ := head_is (by decide) e.symm
  have ha : acctsF x.accts = true := mayS_at h.2.1 1 (by decide)
  have := (acctsF_iff.1 ha).1
  rw [short_lt (by omega)] at e
  simp only [List.singleton_append, List.cons.injEq] at e
  omega
theorem sta_zeros : staP Sta.zero (List.replicate 9 0) := by
  have h0 : short 0 = [0] := short_lt (by decide)
  have u0 : u64n 0 = 0 := u64n_nat (by decide) (by decide)
  have n0 : ∀ most : Nat, numP most 0 [0] := fun most => ⟨Int.le_refl _, by omega, by rw [u0, h0]⟩
  have l0 : ∀ {α : Type} (P : α → List Nat → Prop), listP P [] [0] := fun P => ⟨[], rfl, by rw [List.length_nil, h0]; rfl⟩
  exact ⟨_, _, ⟨_, _, ⟨_, _, ⟨_, _, ⟨_, _, ⟨_, _, ⟨_, _, ⟨_, _, ⟨[], _, rfl, n0 _, rfl⟩, n0 _, rfl⟩, n0 _, rfl⟩, n0 _, rfl⟩, l0 _, rfl⟩, l0 _, rfl⟩, l0 _, rfl⟩, l0 _, rfl⟩, l0 _, rfl⟩
theorem vws_zeros : vwsP Vws.zero (List.replicate 4 0) := by
  have h0 : short 0 = [0] := short_lt (by decide)
  have l0 : ∀ {α : Type} (P : α → List Nat → Prop), listP P [] [0] := fun P => ⟨[], rfl, by rw [List.length_nil, h0]; rfl⟩
  exact ⟨_, _, ⟨_, _, ⟨_, _, ⟨[], _, rfl, l0 _, rfl⟩, l0 _, rfl⟩, l0 _, rfl⟩, l0 _, rfl⟩
theorem no_zeros (n : Nat) (x : Sta) (y : Vws) : ¬ RdOk (List.replicate (9 + n) 0) x y := by
  rintro ⟨⟨l, m, h1, h2, h3⟩, h4, _⟩
  obtain ⟨rfl, _⟩ := uq_sta _ _ _ _ _ (List.replicate n 0) h1 sta_zeros (by rw [← h3, List.replicate_append_replicate])
  have h5 : numsF Sta.zero = true := mayS_at h4 0 (by decide)
  exact absurd h5 (by decide)
theorem rdw_zeros (n : Nat) : RdW (List.replicate (9 + (4 + n)) 0) := by
  intro x y l m h1 h2 h3
  obtain ⟨rfl, e⟩ := uq_sta _ _ _ _ _ (List.replicate (4 + n) 0) h1 sta_zeros (by rw [← h3, List.replicate_append_replicate])
  obtain ⟨rfl, _⟩ := uq_vws _ _ _ _ [] (List.replicate n 0) h2 vws_zeros (by rw [List.append_nil, e, List.replicate_append_replicate])
  have no : ∀ {p : Nat → Prop} (k : Nat), k < 0 → p k := fun k hk => absurd hk (Nat.not_lt_zero k)
  exact ⟨⟨Nat.zero_le _, no, Nat.zero_le _, no, no⟩, no⟩
theorem open_42 {X : List Nat} (h4 : 4 ≤ X.length) (h : (openL X).2 ≠ 0) : (openL X).2 = 42 := by
  unfold openL at h ⊢
  rw [if_neg (by omega)] at h ⊢
  split
  · rename_i h5; rw [if_pos h5] at h; exact absurd rfl h
  · rfl
theorem open_8 {X : List Nat} (h4 : X.length < 4) : (openL X).2 = 8 := by unfold openL; rw [if_pos h4]
theorem OpenA.err {X : List Nat} {n : Int} {x : Sta} {y : Vws} {e c : Int} (h : OpenA X n x y e) (hl : X.length ≤ 1048576) (hc : (openL X).2 = c) (h0 : c ≠ 0) : e = c ∧ n = 0 ∧ x = Sta.zero ∧ y = Vws.zero := by
  rcases h with ⟨_, _, q, b, _, h1, h2, _⟩ | ⟨hn, hx, hy, ⟨rfl, h1⟩ | ⟨_, _, h1⟩ | ⟨_, _, h1, _⟩⟩
  · rw [hc] at h2; exact absurd h2 h0
  · omega
  · exact ⟨by rw [← h1, hc], hn, hx, hy⟩
  · rw [hc] at h1; exact absurd h1 h0
theorem OpenA.large {X : List Nat} {n : Int} {x : Sta} {y : Vws} {e : Int} (h : OpenA X n x y e) (hl : 1048576 < X.length) : e = 40 ∧ n = 0 ∧ x = Sta.zero ∧ y = Vws.zero := by
  rcases h with ⟨_, h1, _⟩ | ⟨hn, hx, hy, ⟨he, h1⟩ | ⟨_, h1, _⟩ | ⟨_, h1, _⟩⟩
  · omega
  · exact ⟨he, hn, hx, hy⟩
  · omega
  · omega
set_option maxRecDepth 20000 in
theorem seal_next : ∀ b, b < 256 → stepsN 8 (sealR ^^^ b) ≠ sealR := by
  have h : (List.range 256).all (fun b => stepsN 8 (sealR ^^^ b) != sealR) = true := by decide +kernel
  intro b hb
  have := List.all_eq_true.1 h b (List.mem_range.2 hb)
  simpa using this
theorem open_abcd : (openL [97, 98, 99, 100]).2 = 42 := by
  refine open_42 (by decide) fun h => ?_
  have := (open_iff (B := [97, 98, 99, 100]) (by intro b hb; simp at hb; omega) (by decide)).1 h
  exact absurd this (by decide +kernel)
theorem regN_one (c b : Nat) : regN c [b] = stepsN 8 (c ^^^ b) := by
  unfold regN
  rw [List.foldl_cons, List.foldl_nil]
theorem open_step {X : List Nat} {b : Nat} (hX : Byt X) (hb : b < 256) (h4 : 4 ≤ X.length) : ¬ ((openL X).2 = 0 ∧ (openL (X ++ [b])).2 = 0) := by
  rintro ⟨h1, h2⟩
  have hb1 : Byt [b] := by intro x hx; simp at hx; omega
  have r1 := (open_iff hX h4).1 h1
  have r2 := (open_iff (hX.app hb1) (by rw [List.length_append]; omega)).1 h2
  have hn := seal_next b hb
  generalize sealR = S at r1 r2 hn
  rw [regN_app, r1, regN_one] at r2
  exact hn r2
theorem FF_byt : Byt FF := sealL_byt (headL_byt FB_byt)
theorem FF_open : (openL FF).2 = 0 := by unfold FF; rw [open_seal]
theorem FB_len : FB.length ≤ 300000 := body_small may_full view_full (by decide) (by decide) (by decide)
theorem FF_len : FF.length = FB.length + 20 := by unfold FF; rw [seal_len, headL_len]; omega
theorem FF_more : (openL (FF ++ [0])).2 = 42 := by
  have := FF_len
  refine open_42 (by rw [List.length_append]; omega) fun h => ?_
  exact open_step FF_byt (by decide) (by omega) ⟨FF_open, h⟩
theorem FF_less : (openL (FF.take (FF.length - 1))).2 = 42 := by
  have hl := FF_len
  refine open_42 (by rw [List.length_take]; omega) fun h => ?_
  have hd : (FF.drop (FF.length - 1)).length = 1 := by rw [List.length_drop]; omega
  match hq : FF.drop (FF.length - 1), hd with
  | [a], _ =>
    have ha : a < 256 := FF_byt a (List.mem_of_mem_drop (i := FF.length - 1) (by rw [hq]; exact List.Mem.head _))
    refine open_step (X := FF.take (FF.length - 1)) (b := a) (FF_byt.take _) ha (by rw [List.length_take]; omega) ⟨h, ?_⟩
    rw [← hq, List.take_append_drop]; exact FF_open
theorem FF_flip {i : Nat} (hi : i < FB.length) : (openL (FF.take (16 + i) ++ ([FB.getD i 0 ^^^ 1] ++ FF.drop (17 + i)))).2 = 42 := by
  have hl := FF_len
  have hg : FF.getD (16 + i) 0 = FB.getD i 0 := by
    unfold FF sealL headL
    simp only [List.getD_eq_getElem?_getD]
    rw [List.getElem?_append_left (by simp [be8, be4]; omega)]
    rw [show 16 + i = ([115, 110, 112, 49] : List Nat).length + ((be8 1048576).length + ((be4 FB.length).length + i)) by simp [be8, be4]; omega]
    rw [List.getElem?_append_right (by omega), Nat.add_sub_cancel_left, List.getElem?_append_right (by omega), Nat.add_sub_cancel_left, List.getElem?_append_right (by omega), Nat.add_sub_cancel_left]
  have h1 := flL_step (F := FF) (bits := 1) (fr := 8 * (16 + i)) (i := 0) rfl
  rw [flL_zero, show (8 * (16 + i) + 0) / 8 = 16 + i by omega, show (8 * (16 + i) + 0) % 8 = 0 by omega, hg, List.set_eq_take_append_cons_drop, if_pos (by omega)] at h1
  have e : FF.take (16 + i) ++ ([FB.getD i 0 ^^^ 1] ++ FF.drop (17 + i)) = flL FF 1 (8 * (16 + i)) 1 := by
    rw [← h1, show 16 + i + 1 = 17 + i by omega]; rfl
  rw [e]
  refine open_42 (by rw [flL_len]; omega) (flip_open FF_byt (by omega) FF_open (by decide) (by omega) (by omega) fun h => ?_)
  have := congrArg (fun l : List Nat => l.getD (16 + i) 0) (e.trans h)
  simp only [hg] at this
  rw [List.getD_eq_getElem?_getD, List.getElem?_append_right (by rw [List.length_take]; omega), List.length_take, Nat.min_eq_left (by omega), Nat.sub_self] at this
  simp only [List.singleton_append, List.getElem?_cons_zero, Option.getD_some] at this
  have h2 := xor_left (a := FB.getD i 0) (b := 1) (c := 0) (by rw [this, Nat.xor_zero])
  cases h2
end Go.Proofs.YtggolnppckpdlaaGreat
