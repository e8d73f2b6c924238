/- Texts of ours, joined: the steps of the proof, or the claim's theorem. -/
import Derived.OrdersHeld
import Derived.Test.YtggolnppckpdlaaGreatT02
import Derived.Test.YtggolnppckpdlaaGreatT20
import Derived.Test.YtggolnppckpdlaaGreatT38
set_option linter.unusedSimpArgs false
set_option linter.unusedVariables false
namespace Go.Proofs.YtggolnppckpdlaaGreat
open Go Go.Sk Go.RowKit
attribute [local irreducible] Go.Calls
theorem zMP (c b : Nat) (hb : b < 2) : (c ^^^ b) / 2 = c / 2 := by
 rw [zIx, show b / 2 = 0 by omega, Nat.xor_zero]
theorem zOf (c b : Nat) (hb : b < 2) : (c ^^^ b) % 2 = 1 ↔ c % 2 ≠ b := by
 rw [zLQ]
 omega
theorem zQW (c bt : Nat) (hc : c < 4294967296) (hb : bt < 2) (w : World) : Calls Tryz.prog 266 [.int .u32 (c : Int), .int .u32 (bt : Int)].toArray w (Ret (.int .u32 (zBj (c ^^^ bt) : Nat)) w) := by
 have ho := zOf c bt hb
 have hh := zMP c bt hb
 refine enter [.tmp 4] Tryz.func266 rfl Tryz.ntmps266 rfl rfl ?_
 have H := zE w
 repeat' (first | refine y1 sg ?_ | (with_reducible first | apply zB | apply zD | apply zC | apply zG | apply zH | apply zP) | refine zA ?_ | (refine y23 ?_ ?_; all_goals intro h) | fail)
 all_goals rw [zN6 c hc] at h
 ·have h1 : c % 2 ≠ bt := by
   intro e
   rw [e] at h
   simp at h
  refine zO rfl H.cl (congrArg (Value.int .u32) ?_)
  rw [show min 1 IntKind.u32.bits = 1 from rfl, zGG c 1, show (3988292384 : Int) = ((3988292384 : Nat) : Int) from rfl, zN5 _ _ (by omega) (by decide)]
  unfold zBj; rw [if_pos (ho.2 h1), hh]
 ·have h1 : ¬ c % 2 ≠ bt := by
   intro e
   simp at h
   omega
  refine zO rfl H.cl (congrArg (Value.int .u32) ?_)
  rw [show min 1 IntKind.u32.bits = 1 from rfl, zGG c 1]
  unfold zBj; rw [if_neg (fun e => h1 (ho.1 e)), hh]
def zFB (c b i : Nat) : Nat := zAJ i (c ^^^ (b % 2 ^ i))
theorem zKP (c b : Nat) : zFB c b 0 = c := by unfold zFB; simp [zAJ, Nat.mod_one]
theorem zQX (b i : Nat) : b % 2 ^ (i + 1) = (b % 2 ^ i) ^^^ (2 ^ i * (b / 2 ^ i % 2)) := by
 apply Nat.eq_of_testBit_eq
 intro j
 rw [Nat.testBit_xor, Nat.testBit_mod_two_pow, Nat.testBit_mod_two_pow, Nat.testBit_two_pow_mul]
 by_cases h1 : j < i
 ·simp [h1, show j < i + 1 by omega, show ¬ i ≤ j by omega]
 ·by_cases h2 : j = i
  ·subst h2
   simp [Nat.testBit_zero, Nat.testBit_eq_decide_div_mod_eq]
  ·have h3 : ((b / 2 ^ i % 2).testBit (j - i)) = false := Nat.testBit_lt_two_pow (Nat.lt_of_lt_of_le (Nat.mod_lt _ (by decide)) (by
    have := Nat.pow_le_pow_right (n := 2) (by decide) (show 1 ≤ j - i by omega)
    omega))
   simp [h1, show ¬ j < i + 1 by omega, h3]
theorem zKQ (c b i : Nat) : zFB c b (i + 1) = zBj (zFB c b i ^^^ (b / 2 ^ i % 2)) := by
 unfold zFB
 rw [zQX, ← Nat.xor_assoc]
 show zBj (zAJ i _) = _
 rw [zGl i _ (2 ^ i * _), zFh]
theorem zOg {c b : Nat} (hc : c < 4294967296) (hb : b < 256) (i : Nat) : zFB c b i < 4294967296 :=
 zGm i (lt32 hc (Nat.lt_of_le_of_lt (Nat.mod_le _ _) (Nat.lt_trans hb (by decide))))
theorem c_over (c bt : Nat) (hc : c < 4294967296) (hb : bt < 256) (w0 : World) : Calls Tryz.prog 230 [.int .u32 (c : Int), .int .u8 (bt : Int)].toArray w0 (Ret (.int .u32 (zAJ 8 (c ^^^ bt) : Nat)) w0) := by
 have hw : IntKind.u32.wrap (bt : Int) = (bt : Int) := by rw [w32, Nat.mod_eq_of_lt (by omega)]
 refine enter [.tmp 4] Tryz.func230 rfl Tryz.ntmps230 rfl rfl ?_
 have H := zE w0
 repeat' (first | refine y1 sg ?_ | (with_reducible first | apply zB | apply zD | apply zC | apply zF) | refine zA ?_ | fail)
 refine zK [(0, 0), (5, 17)] (fun i : Nat => [(5, .int .i64 (i : Int)), (0, .int .u32 (zFB c bt i : Nat))]) (fun i w => St w0 [] w ∧ i ≤ 8) (fun i => 8 - i) 0 ⟨rfl, congrArg (fun n : Nat => Value.int .u32 (n : Int)) (zKP c bt).symm, trivial⟩ ⟨H, Nat.zero_le _⟩ ?_
 clear H
 rintro i gh w ⟨H, hi⟩
 by_cases hlt : i < 8
 ·have d1 : decide ((i : Int) < 8) = true := decide_eq_true (by omega)
  have hbit : IntKind.u32.wrap ((BitVec.ofInt IntKind.u32.bits (Int.fdiv (IntKind.u32.wrap (bt : Int)) (2 ^ min (i % (2 ^ IntKind.u64.bits : Int).natAbs) IntKind.u32.bits)) &&& BitVec.ofInt IntKind.u32.bits 1).toNat : Int) = ((bt / 2 ^ i % 2 : Nat) : Int) := by
   have e1 : (2 ^ IntKind.u64.bits : Int).natAbs = 18446744073709551616 := rfl
   have e2 : IntKind.u32.bits = 32 := rfl
   have e3 : min (i % 18446744073709551616) 32 = i := by omega
   rw [hw, e1, e2, e3, zGG]
   have h1 : bt / 2 ^ i < 4294967296 := Nat.lt_of_le_of_lt (Nat.div_le_self _ _) (by omega)
   have h2 := zN6 _ h1
   rw [e2] at h2
   exact h2
  have hC := fun w => zQW (zFB c bt i) (bt / 2 ^ i % 2) (zOg hc hb i) (Nat.mod_lt _ (by decide)) w
  rw [← zKQ, ← hbit] at hC
  repeat' (first | refine y1 sg ?_ | refine y3 ?_ | (refine' y30 ent266 ?_ ?_; rotate_left; exact hC _; intro w hcl; replace H := H.ext hcl; clear hcl) | (with_reducible first | apply zB | apply zD | apply zC | apply zF | apply zH) | refine zA ?_ | (refine y23 ?_ ?_; all_goals (intro h; try (exfalso; first | ((rw [d1] at h; cases h); done)))) | fail)
  exact zM (i + 1) rfl ⟨zV (by omega), rfl, trivial⟩ ⟨H, hlt⟩ (by omega)
 ·obtain rfl : i = 8 := by omega
  have d1 : decide (((8 : Nat) : Int) < 8) = false := rfl
  repeat' (first | refine y1 sg ?_ | (with_reducible first | apply zB | apply zD | apply zC | apply zG | apply zN | apply zW) | refine zA ?_ | refine y24 ?_ | refine y22 ?_ | fail)
  refine zO rfl H.cl (congrArg (fun n : Nat => Value.int .u32 (n : Int)) ?_)
  unfold zFB
  rw [Nat.mod_eq_of_lt (by omega)]
theorem zMQ (c : Nat) (l : List Nat) (b : Nat) : zIE c (l ++ [b]) = zAJ 8 (zIE c l ^^^ b) := by simp [zIE]
theorem c_RAdd (c : Nat) (s : ByteArray) (hc : c < 4294967296) (hs : s.size ≤ 140737488355328) (w0 : World) : Calls Tryz.prog 204 [.int .u32 (c : Int), .string s].toArray w0 (Ret (.int .u32 (4294967295 - zIE (4294967295 - c) (zT s) : Nat)) w0) := by
 have hsb : ∀ k, Byt ((zT s).take k) := fun k => (zBM s).take k
 have hlt := fun k => zQU _ (hsb k) (4294967295 - c) (by omega)
 refine enter [.tmp 4] Tryz.func204 rfl Tryz.ntmps204 rfl rfl ?_
 have H := zE w0
 repeat' (first | refine y1 sg ?_ | refine y3 ?_ | (refine zf rfl rfl (Yq.not32 hc rfl rfl) ?_) | (with_reducible first | apply zB | apply zD | apply zC | apply zF) | refine zA ?_ | fail)
 refine zK [(0, 0), (5, 5), (8, 18)] (fun k : Nat => [(5, .int .i64 (k : Int)), (0, .int .u32 (zIE (4294967295 - c) ((zT s).take k) : Nat))]) (fun k w => St w0 [] w ∧ k ≤ s.size) (fun k => s.size - k) 0 ⟨rfl, rfl, trivial⟩ ⟨H, Nat.zero_le _⟩ ?_
 clear H
 rintro k gh w ⟨H, hk⟩
 by_cases hks : k < s.size
 ·have d1 : decide ((k : Int) < (s.size : Int)) = true := decide_eq_true (by omega)
  obtain ⟨d, hd⟩ : ∃ d, zIE (4294967295 - c) ((zT s).take k) = d := ⟨_, rfl⟩
  have hdl : d < 4294967296 := hd ▸ hlt k
  have hC := fun w => c_over d (zAc s k) hdl (zCT s k) w
  have hn : zIE (4294967295 - c) ((zT s).take (k + 1)) = zAJ 8 (d ^^^ zAc s k) := by rw [zHR s hks, zMQ, hd]
  rw [← hn] at hC
  rw [hd]
  repeat' (first | refine y1 sg ?_ | refine y3 ?_ | refine z13 (Yq.strIx sg rfl rfl rfl rfl rfl (Int.toNat_natCast _) (by omega) (by omega)) ?_ | (refine' y30 ent230 ?_ ?_; rotate_left; exact hC _; intro w hcl; replace H := H.ext hcl; clear hcl) | (with_reducible first | apply zB | apply zD | apply zC | apply zF | apply zH) | refine zA ?_ | (refine y23 ?_ ?_; all_goals (intro h; try (exfalso; first | ((rw [d1] at h; cases h); done)))) | fail)
  exact zM (k + 1) rfl ⟨zV (by omega), rfl, trivial⟩ ⟨H, hks⟩ (by omega)
 ·obtain rfl : k = s.size := by omega
  have d1 : decide ((s.size : Int) < (s.size : Int)) = false := decide_eq_false (by omega)
  have hr := hlt s.size
  rw [List.take_of_length_le (by rw [zU]; exact Nat.le_refl _)] at hr ⊢
  repeat' (first | refine y1 sg ?_ | refine y3 ?_ | (refine zf rfl rfl (Yq.not32 hr rfl rfl) ?_) | (with_reducible first | apply zB | apply zD | apply zC | apply zG | apply zN | apply zW) | refine zA ?_ | refine y24 ?_ | (refine y23 ?_ ?_; all_goals (intro h; try (exfalso; first | ((rw [d1] at h; cases h); done)))) | fail)
  exact zO rfl H.cl rfl
theorem c_ROf (s : ByteArray) (hs : s.size ≤ 140737488355328) (w0 : World) : Calls Tryz.prog 161 [.string s].toArray w0 (Ret (.int .u32 (zEJ (zT s) : Nat)) w0) := by
 have hA := fun w => c_RAdd 0 s (by decide) hs w
 rw [Nat.sub_zero, ← zQV (zBM s)] at hA
 refine enter [.tmp 2] Tryz.func161 rfl Tryz.ntmps161 rfl rfl ?_
 have H := zE w0
 repeat' (first | refine y1 sg ?_ | refine y3 ?_ | (refine' y30 ent204 ?_ ?_; rotate_left; exact hA _; intro w hcl; replace H := H.ext hcl; clear hcl) | (with_reducible first | apply zB | apply zD | apply zC | apply zG) | refine zA ?_ | fail)
 exact zO rfl H.cl rfl
end Go.Proofs.YtggolnppckpdlaaGreat
set_option linter.unusedSimpArgs false
set_option linter.unusedVariables false
namespace Go.Sk
open Go Go.RowKit
section
variable {P : Program} {n : Nw} {ops : Array Oper} {Q : zAW} {o : Oper} {rest : List Oper} {L : List (Nat × Value)} {b0 : Env} {w : World} (S : Sig P)
attribute [local semireducible] OX OW Yq
def u8L (l : List Nat) : List Value := l.map fun k : Nat => Value.int .u8 (k : Int)
theorem zIF (l : List Nat) : (u8L l).length = l.length := by unfold u8L; exact List.length_map _
end
theorem sl_u8 {F : zI} {b z : Nat} {l : List Nat} {E : TypeId} {fr : Nat × Nat} (h : (b, Obj.cells (u8L l ++ List.replicate z (Value.int .u8 0)).toArray E fr) ∈ F) : SlB F 1 (some ⟨b, 0, none⟩) l.length b 0 (u8L l ++ List.replicate z (Value.int .u8 0)) E fr (u8c l) := by
 intro _
 refine ⟨rfl, h, fun j hj => ⟨by rw [List.length_append, zIF]; omega, ?_⟩⟩
 have hj' : j < (u8L l ++ List.replicate z (Value.int .u8 0)).length := by rw [List.length_append, zIF]; omega
 rw [Nat.zero_add, Nat.mul_one, ← List.getElem_cons_drop hj', List.take_succ_cons, List.take_zero, List.getElem_append_left (by rw [zIF]; exact hj)]
 simp [u8L, u8c, List.getD_eq_getElem?_getD, hj]
end Go.Sk
namespace Go.Proofs.YtggolnppckpdlaaGreat
open Go Go.Sk Go.RowKit
end Go.Proofs.YtggolnppckpdlaaGreat
set_option linter.unusedSimpArgs false
set_option linter.unusedVariables false
namespace Go.Proofs.YtggolnppckpdlaaGreat
open Go Go.Sk Go.RowKit
attribute [local irreducible] Go.Calls
theorem zBG (a b : List Nat) : bytesOf (a ++ b) = bytesOf a ++ bytesOf b := by
 unfold bytesOf
 apply ByteArray.ext
 simp
theorem zD6 {b : Nat} {x : Nat} {E : TypeId} : SlB [cb b [Value.int .u8 (x : Int)] E] 1 (some ⟨b, 0, none⟩) 1 b 0 [Value.int .u8 (x : Int)] E (0, 0) (u8c [x]) := fun _ => ⟨rfl, List.Mem.head _, fun j hj => by
 obtain rfl : j = 0 := by omega
 exact ⟨Nat.le_refl _, rfl⟩⟩
theorem sl_u8n {F : zI} {b : Nat} {l : List Nat} {E : TypeId} {fr : Nat × Nat} (h : (b, Obj.cells (u8L l).toArray E fr) ∈ F) : SlB F 1 (some ⟨b, 0, none⟩) l.length b 0 (u8L l) E fr (u8c l) := by
 have := sl_u8 (F := F) (b := b) (z := 0) (l := l) (E := E) (fr := fr) (by simpa using h)
 simpa using this
theorem c_four (n : Nat) (w0 : World) : Calls Tryz.prog 160 [.int .u32 (n : Int)].toArray w0 (Ret (.string (bytesOf (le4 n))) w0) := by
 refine enter [.tmp 2] Tryz.func160 rfl Tryz.ntmps160 rfl rfl ?_
 have H := zE w0
 have e : [Value.int .u8 (IntKind.u8.wrap (n : Int)), Value.int .u8 (IntKind.u8.wrap ((n : Int).fdiv (2 ^ min 8 IntKind.u32.bits))), Value.int .u8 (IntKind.u8.wrap ((n : Int).fdiv (2 ^ min 16 IntKind.u32.bits))), Value.int .u8 (IntKind.u8.wrap ((n : Int).fdiv (2 ^ min 24 IntKind.u32.bits)))] = u8L (le4 n) := by
  rw [show min 8 IntKind.u32.bits = 8 from rfl, show min 16 IntKind.u32.bits = 16 from rfl, show min 24 IntKind.u32.bits = 24 from rfl, zIY, zIY, zIY, w8]
  rfl
 repeat' (first | refine y1 sg ?_ | refine y3 ?_ | ((with_reducible apply OX.buildS sg H); exact rfl; exact rfl; exact rfl; exact rfl; exact rfl; exact rfl; exact rfl; exact rfl; exact rfl; exact rfl; intro b w H _; rw [e] at H) | refine z13 (zBP sg (sl_u8n (F := [cb b (u8L (le4 n)) 5]) (List.Mem.head _)) rfl H.mem rfl rfl rfl rfl rfl rfl rfl rfl) ?_ | (with_reducible first | apply zB | apply zD | apply zC | apply zG) | refine zA ?_ | fail)
 exact zO rfl H.cl rfl
set_option maxRecDepth 20000 in
theorem zQY (s : ByteArray) (hs : s.size ≤ 1000000000) (w0 : World) : Calls Tryz.prog 68 [.string s].toArray w0 (Ret (.string (bytesOf (zA1 (zT s)))) w0) := by
 have he : bytesOf (zA1 (zT s)) = s ++ bytesOf (le4 (zEJ (zT s))) := by
  unfold zA1
  rw [zBG]
  congr 1
  exact zCY (zu (zBM s))
 rw [he]
 refine enter [.tmp 2] Tryz.func68 rfl Tryz.ntmps68 rfl rfl ?_
 have H := zE w0
 repeat' (first | refine y1 sg ?_ | refine y3 ?_ | (refine' y30 ent161 ?_ ?_; rotate_left; exact c_ROf s (by omega) _; intro w hcl; replace H := H.ext hcl; clear hcl) | (refine' y30 ent160 ?_ ?_; rotate_left; exact c_four _ _; intro w hcl; replace H := H.ext hcl; clear hcl) | refine z13 (zAA rfl rfl rfl (by rw [zj]; show s.size + 4 ≤ _; omega)) ?_ | (with_reducible first | apply zB | apply zD | apply zC | apply zG) | refine zA ?_ | fail)
 exact zO rfl H.cl rfl
set_option maxRecDepth 20000 in
theorem zIy : ∀ (n : Nat), n < 18446744073709551616 → ∀ w0 : World, Calls Tryz.prog 203 [.int .u64 (n : Int)].toArray w0 (Ret (.string (bytesOf (short n))) w0) := by
 intro n
 induction n using Nat.strongRecOn with
 | ind n ih =>
   intro hn w0
   by_cases h128 : n < 128
   ·have d1 : decide ((n : Int) < 128) = true := decide_eq_true (by omega)
    have e : Value.int .u8 (IntKind.u8.wrap (n : Int)) = Value.int .u8 ((n : Nat) : Int) := by rw [w8, Nat.mod_eq_of_lt (by omega)]
    rw [zAO h128]
    refine enter [.tmp 2] Tryz.func203 rfl Tryz.ntmps203 rfl rfl ?_
    have H := zE w0
    repeat' (first | refine y1 sg ?_ | refine y3 ?_ | ((with_reducible apply OX.buildS sg H); exact rfl; exact rfl; exact rfl; exact rfl; exact rfl; exact rfl; exact rfl; exact rfl; exact rfl; exact rfl; intro b w H _; rw [e] at H) | refine z13 (zBP sg (zD6 (b := b) (x := n) (E := 5)) rfl H.mem rfl rfl rfl rfl rfl rfl rfl rfl) ?_ | (with_reducible first | apply zB | apply zD | apply zC | apply zG | apply zP) | refine zA ?_ | (refine y23 ?_ ?_; all_goals (intro h; try (exfalso; first | ((rw [d1] at h; cases h); done)))) | fail)
    exact zO rfl H.cl rfl
   ·have d1 : decide ((n : Int) < 128) = false := decide_eq_false (by omega)
    have e : Value.int .u8 (IntKind.u8.wrap (IntKind.u8.wrap ((n : Int).tmod (Int.ofNat (127 + 1))) + 128)) = Value.int .u8 ((n % 128 + 128 : Nat) : Int) := by
     rw [show (n : Int).tmod (Int.ofNat (127 + 1)) = ((n % 128 : Nat) : Int) from rfl, w8, Nat.mod_eq_of_lt (by omega), show ((n % 128 : Nat) : Int) + 128 = ((n % 128 + 128 : Nat) : Int) by omega, w8, Nat.mod_eq_of_lt (by omega)]
    have hq : IntKind.u64.wrap ((n : Int).tdiv (Int.ofNat (127 + 1))) = ((n / 128 : Nat) : Int) := by
     rw [show (n : Int).tdiv (Int.ofNat (127 + 1)) = ((n / 128 : Nat) : Int) from rfl]
     exact zEN (by omega) (by omega)
    have hI := fun w => ih (n / 128) (by omega) (by omega) w
    rw [← hq] at hI
    have hl := zY (n := n / 128) (by omega)
    have he : bytesOf (short n) = bytesOf [n % 128 + 128] ++ bytesOf (short (n / 128)) := by rw [zAw h128, ← zBG]; rfl
    rw [he]
    refine enter [.tmp 2] Tryz.func203 rfl Tryz.ntmps203 rfl rfl ?_
    have H := zE w0
    repeat' (first | refine y1 sg ?_ | refine y3 ?_ | ((with_reducible apply OX.buildS sg H); exact rfl; exact rfl; exact rfl; exact rfl; exact rfl; exact rfl; exact rfl; exact rfl; exact rfl; exact rfl; intro b w H _; rw [e] at H) | refine z13 (zBP sg (zD6 (b := b) (x := n % 128 + 128) (E := 5)) rfl H.mem rfl rfl rfl rfl rfl rfl rfl rfl) ?_ | (refine' y30 zJN ?_ ?_; rotate_left; exact hI _; intro w hcl; replace H := H.ext hcl; clear hcl) | refine z13 (zAA rfl rfl rfl (by rw [zj, zj]; simp only [List.length_singleton]; omega)) ?_ | (refine zAE zZ 11 ?_ ?_; exact rfl; intro w hcl; replace H := H.ext hcl; clear hcl) | ((with_reducible apply zBc); decide +kernel) | (refine' z8 0 ?_ ?_; rotate_left; first | exact z9 sg) | (refine' z8 1 ?_ ?_; rotate_left; first | exact z9 sg) | (refine' z8 2 ?_ ?_; rotate_left; first | exact z9 sg) | (refine' z8 3 ?_ ?_; rotate_left; first | exact z9 sg) | (refine' z8 6 ?_ ?_; rotate_left; first | exact z9 sg) | (refine' z8 7 ?_ ?_; rotate_left; first | exact z9 sg) | refine z10 4 ?_ | refine z10 5 ?_ | refine z10 8 ?_ | refine z10 9 ?_ | refine z10 10 ?_ | refine z11 4 8 ?_ ?_ | refine z11 5 8 ?_ ?_ | (with_reducible first | apply zB | apply zD | apply zC | apply zG | apply zH) | refine zA ?_ | (refine y23 ?_ ?_; all_goals (intro h; try (exfalso; first | ((rw [d1] at h; cases h); done)))) | fail)
    all_goals exact zO rfl H.cl rfl
end Go.Proofs.YtggolnppckpdlaaGreat
set_option linter.unusedSimpArgs false
set_option linter.unusedVariables false
namespace Go.Proofs.YtggolnppckpdlaaGreat
open Go Go.Sk Go.RowKit
attribute [local irreducible] Go.Calls
theorem zC4 (n : Int) (w0 : World) : Calls Tryz.prog 159 [.int .i64 n].toArray w0 (Ret (.string (bytesOf (short (zAX n)))) w0) := by
 have hS := fun w => zIy (zAX n) (zEr n) w
 rw [← zKx] at hS
 refine enter [.tmp 2] Tryz.func159 rfl Tryz.ntmps159 rfl rfl ?_
 have H := zE w0
 repeat' (first | refine y1 sg ?_ | refine y3 ?_ | (refine' y30 zJN ?_ ?_; rotate_left; exact hS _; intro w hcl; replace H := H.ext hcl; clear hcl) | (with_reducible first | apply zB | apply zD | apply zC | apply zG) | refine zA ?_ | fail)
 exact zO rfl H.cl rfl
theorem zIG (x : Bool) (w0 : World) : Calls Tryz.prog 158 [.bool x].toArray w0 (Ret (.string (bytesOf (zk x))) w0) := by
 cases x
 ·refine enter [.tmp 2] Tryz.func158 rfl Tryz.ntmps158 rfl rfl ?_
  have H := zE w0
  repeat' (first | refine y1 sg ?_ | (with_reducible first | apply zB | apply zD | apply zC | apply zG | apply zH) | refine zA ?_ | refine y22 ?_ | fail)
  exact zO rfl H.cl (congrArg Value.string (by decide))
 ·refine enter [.tmp 2] Tryz.func158 rfl Tryz.ntmps158 rfl rfl ?_
  have H := zE w0
  repeat' (first | refine y1 sg ?_ | (with_reducible first | apply zB | apply zD | apply zC | apply zG | apply zP) | refine zA ?_ | refine y21 ?_ | fail)
  exact zO rfl H.cl (congrArg Value.string (by decide))
set_option maxRecDepth 20000 in
theorem zLR (s : ByteArray) (hs : s.size ≤ 1000000000) (w0 : World) : Calls Tryz.prog 157 [.string s].toArray w0 (Ret (.string (bytesOf (short s.size ++ zT s))) w0) := by
 have hS := fun w => zIy s.size (by omega) w
 rw [← zEN (x := (s.size : Int)) (by omega) (by omega)] at hS
 have hl := zY (n := s.size) (by omega)
 have he : bytesOf (short s.size ++ zT s) = bytesOf (short s.size) ++ s := by
  rw [zBG]
  congr 1
  exact zCY (zu (zBM s))
 rw [he]
 refine enter [.tmp 2] Tryz.func157 rfl Tryz.ntmps157 rfl rfl ?_
 have H := zE w0
 repeat' (first | refine y1 sg ?_ | refine y3 ?_ | (refine' y30 zJN ?_ ?_; rotate_left; exact hS _; intro w hcl; replace H := H.ext hcl; clear hcl) | refine z13 (zAA rfl rfl rfl (by rw [zj]; omega)) ?_ | (with_reducible first | apply zB | apply zD | apply zC | apply zG) | refine zA ?_ | fail)
 exact zO rfl H.cl rfl
theorem zKR (xs : List Int) {k : Nat} (hk : k < xs.length) : zX (xs.take (k + 1)) = zX (xs.take k) ++ short (zAX (xs.getD k 0)) := by
 rw [List.take_succ_eq_append_getElem hk, zHG]
 congr 1
 simp [zX, List.getD_eq_getElem?_getD, List.getElem?_eq_getElem hk]
set_option maxRecDepth 20000 in
theorem zA3 {F : zI} {a : Option Addr} {cap : Nat} (xs : List Int) (hn : xs.length ≤ 1000) (w0 : World) (hF : Mem w0 F) (hs : SlA F 1 a xs.length cap (i64c xs)) : Calls Tryz.prog 156 [.slice a xs.length cap].toArray w0 (Ret (.string (bytesOf (zX xs))) w0) := by
 obtain ⟨hnc, hcb, b0, off, cs, T, fr, hs⟩ := hs
 refine enter [.tmp 2] Tryz.func156 rfl Tryz.ntmps156 rfl rfl ?_
 have H := zE w0
 repeat' (first | refine y1 sg ?_ | (with_reducible first | apply zB | apply zD | apply zC | apply zF) | refine zA ?_ | fail)
 refine zK [(3, 17)] (fun k : Nat => [(4, .int .i64 (k : Int)), (3, .string (bytesOf (zX (xs.take k))))]) (fun k w => St w0 [] w ∧ k ≤ xs.length) (fun k => xs.length - k) 0 ⟨rfl, rfl, trivial⟩ ⟨H, Nat.zero_le _⟩ ?_
 clear H
 rintro k gh w ⟨H, hk⟩
 by_cases hlt : k < xs.length
 ·have d1 : decide ((k : Int) < (xs.length : Int)) = true := decide_eq_true (by omega)
  have hl := zDz (xs.take k)
  rw [List.length_take] at hl
  have h10 := zY (zEr (xs.getD k 0))
  have he : bytesOf (zX (xs.take k)) ++ bytesOf (short (zAX (xs.getD k 0))) = bytesOf (zX (xs.take (k + 1))) := by rw [zKR xs hlt, zBG]
  repeat' (first | refine y1 sg ?_ | refine y3 ?_ | (refine y40 sg (hs) ?_ ?_ ?_; (omega); (omega)) | (refine y46 sg (hs) ((H.memF hF)) ?_ ?_; (omega)) | (refine' y30 zCw ?_ ?_; rotate_left; exact zC4 (xs.getD k 0) _; intro w hcl; replace H := H.ext hcl; clear hcl) | refine z13 (zAA rfl rfl rfl (by rw [zj, zj]; omega)) ?_ | (with_reducible first | apply zB | apply zD | apply zC | apply zF | apply zH) | refine zA ?_ | (refine y23 ?_ ?_; all_goals (intro h; try (exfalso; first | ((rw [d1] at h; cases h); done)))) | fail)
  exact zM (k + 1) rfl ⟨zV (by omega), congrArg Value.string he, trivial⟩ ⟨H, hlt⟩ (by omega)
 ·obtain rfl : k = xs.length := by omega
  have d1 : decide ((xs.length : Int) < (xs.length : Int)) = false := decide_eq_false (by omega)
  rw [List.take_length]
  repeat' (first | refine y1 sg ?_ | (with_reducible first | apply zB | apply zD | apply zC | apply zG | apply zN | apply zW) | refine zA ?_ | refine y24 ?_ | (refine y23 ?_ ?_; all_goals (intro h; try (exfalso; first | ((rw [d1] at h; cases h); done)))) | fail)
  exact zO rfl H.cl rfl
theorem zBH (f : Nat → List Nat) (k : Nat) : (List.range (k + 1)).flatMap f = (List.range k).flatMap f ++ f k := by
 rw [List.range_succ, List.flatMap_append]; simp
theorem zBW (n : Nat) (h : n < 18446744073709551616) : short (zAX (n : Int)) = short n := by rw [zAx (by omega) (by omega), Int.toNat_natCast]
theorem zBm (a b : List Nat) : bytesOf a ++ bytesOf b = bytesOf (a ++ b) := (zBG a b).symm
theorem bsz (l : List Nat) : (bytesOf l).size = l.length := zj l
end Go.Proofs.YtggolnppckpdlaaGreat
namespace Go.Sk
open Go Go.RowKit
attribute [local semireducible] CW OW OX QW QX Yq RA
def RH (P : Program) (n : Nw) (l : List Oper) (F0 : zI) (s : Array Bool) (m : Nat) (Q : zAW) (e : Env) (w : World) : Prop :=
 Mem w F0 ∧ ∀ a, Fits n a e → wpAnyH P .any l.toArray (nrm n Q) (fun w => Mem w F0) m s a w
section
variable {P : Program} {n : Nw} {id : Nat} {Q : zAW} {e : Env} {w : World} {l : List Oper} {s : Array Bool} {m : Nat} {F0 : zI}
theorem zBD (hm : P.follows .mixedOrders = true) (N : Nat) (_hM0 : Mem w F0) (hN : Nat.beq l.length N = true) (h : ∀ w', Cl w w' → RH P n l F0 (Array.replicate N false) N Q e w') (hnd : zCl l = true := by exact rfl) : CW P n (.region id l.toArray true) Q e w :=
 zAE hm N hN (fun w' hw a ha => wpAny_of_held _ _ _ _ ((h w' hw).2 a ha)) hnd
theorem RH.nil (hM : Mem w F0) (hr : (Region.ready .any l.toArray s).isEmpty = true) (h : Q .normal e w) : RH P n l F0 s m Q e w :=
 ⟨hM, fun a ha => wpAnyH_done (by simpa using hr) ⟨rfl, nofun, e, ha, h⟩ m⟩
theorem RH.take {L : List (Nat × Value)} {b0 : Env} (i : Nat) {o : Oper} {d : Nat} {v : Value} (hM : Mem w F0) (hB : ((Region.noSelect l.toArray && Region.free .any l.toArray s i) && (Region.ready .any l.toArray s).contains i) = true)
  (ho : l[i]? = some o) (hg : o.guard = none) (hd : o.dst = some d) (hlt : Nat.blt d n.n = true) (hy : ∀ w, Mem w F0 → Yq P o (ovl L b0) w v)
  {m' : Nat} (hm : m' = m + 1) (h : RH P n l F0 (s.setIfInBounds i true) m Q (ovl ((d, v) :: L) b0) w) : RH P n l F0 s m' Q (ovl L b0) w := by
 subst hm
 refine ⟨hM, fun a ha => ?_⟩
 simp only [Bool.and_eq_true] at hB
 obtain ⟨⟨h1, h2⟩, h3⟩ := hB
 refine wpAnyH_take (oi := o) (v := v) (by simpa using ho) h1 h2 h3 (fun c a w hq => absurd hq.1 (by simp)) (.inl ⟨by simp [Region.wanted, hg], fun w' hw' => ?_⟩) hM ?_
 ·rw [ha.eval]; exact hy w' hw' w' (Cl.refl w')
 ·rw [hd]; exact h.2 _ (ha.put hlt v)
theorem RH.c1 (i : Nat) {o : Oper} {m' : Nat} (hM : Mem w F0) (hm : m' = m + 1) (hB : (Region.ready .any l.toArray s == [i]) = true) (ho : l[i]? = some o)
  (h : OW P n l.toArray (thn (fun e' w' => RH P n l F0 (s.setIfInBounds i true) m Q e' w') (fun _ _ _ => False)) [o] e w) : RH P n l F0 s m' Q e w := by
 subst hm
 refine ⟨hM, fun a ha => wpAnyH_all (rs := [i]) (by simpa using hB) (by simp) (fun j hj => ?_)⟩
 simp only [List.mem_singleton] at hj
 subst hj
 exact zBL ho (fun a e w hf hk => ⟨hk.1, hk.2 a hf⟩) h a ha
theorem RH.c2 (i j : Nat) {o o' : Oper} {m' : Nat} (hM : Mem w F0) (hm : m' = m + 1) (hB : (Region.ready .any l.toArray s == [i, j]) = true) (ho : l[i]? = some o) (ho' : l[j]? = some o')
  (h : OW P n l.toArray (thn (fun e' w' => RH P n l F0 (s.setIfInBounds i true) m Q e' w') (fun _ _ _ => False)) [o] e w)
  (h' : OW P n l.toArray (thn (fun e' w' => RH P n l F0 (s.setIfInBounds j true) m Q e' w') (fun _ _ _ => False)) [o'] e w) : RH P n l F0 s m' Q e w := by
 subst hm
 refine ⟨hM, fun a ha => wpAnyH_all (rs := [i, j]) (by simpa using hB) (by simp) (fun k hk => ?_)⟩
 simp only [List.mem_cons, List.not_mem_nil, or_false] at hk
 rcases hk with rfl | rfl
 ·exact zBL ho (fun a e w hf hk => ⟨hk.1, hk.2 a hf⟩) h a ha
 ·exact zBL ho' (fun a e w hf hk => ⟨hk.1, hk.2 a hf⟩) h' a ha
theorem RH.c3 (i j r : Nat) {o o' o'' : Oper} {m' : Nat} (hM : Mem w F0) (hm : m' = m + 1) (hB : (Region.ready .any l.toArray s == [i, j, r]) = true) (ho : l[i]? = some o) (ho' : l[j]? = some o') (ho'' : l[r]? = some o'')
  (h : OW P n l.toArray (thn (fun e' w' => RH P n l F0 (s.setIfInBounds i true) m Q e' w') (fun _ _ _ => False)) [o] e w)
  (h' : OW P n l.toArray (thn (fun e' w' => RH P n l F0 (s.setIfInBounds j true) m Q e' w') (fun _ _ _ => False)) [o'] e w)
  (h'' : OW P n l.toArray (thn (fun e' w' => RH P n l F0 (s.setIfInBounds r true) m Q e' w') (fun _ _ _ => False)) [o''] e w) : RH P n l F0 s m' Q e w := by
 subst hm
 refine ⟨hM, fun a ha => wpAnyH_all (rs := [i, j, r]) (by simpa using hB) (by simp) (fun k hk => ?_)⟩
 simp only [List.mem_cons, List.not_mem_nil, or_false] at hk
 rcases hk with rfl | rfl | rfl
 ·exact zBL ho (fun a e w hf hk => ⟨hk.1, hk.2 a hf⟩) h a ha
 ·exact zBL ho' (fun a e w hf hk => ⟨hk.1, hk.2 a hf⟩) h' a ha
 ·exact zBL ho'' (fun a e w hf hk => ⟨hk.1, hk.2 a hf⟩) h'' a ha
end
theorem z4 {P : Program} (S : Sig P) {o : Oper} {e : Env} {F0 : zI} {v : Value} (h : pvn S.tab e o.op = some v := by exact rfl) : ∀ w, Mem w F0 → Yq P o e w v := fun w _ => zHg S h w
theorem z5 {w0 w : World} {L F0 : zI} (H : St w0 L w) (hs : F0 ⊆ L := by intro p hp; repeat (first | exact hp | apply List.mem_cons_of_mem)) : Mem w F0 := H.mem.sub hs
theorem z6 {w0 w : World} {L F : zI} {x y : Nat × Obj} (H : St w0 L w) (hF : Mem w0 F) (hx : x ∈ L := by repeat (first | exact List.Mem.head _ | refine List.Mem.tail _ ?_)) (hy : y ∈ L := by repeat (first | exact List.Mem.head _ | refine List.Mem.tail _ ?_)) : Mem w (x :: y :: F) := fun p hp => by
 rcases List.mem_cons.1 hp with rfl | hp
 ·exact H.mem _ hx
 ·rcases List.mem_cons.1 hp with rfl | hp
  ·exact H.mem _ hy
  ·exact H.memF hF _ hp
theorem z7 {w0 w : World} {L : zI} {x : Nat × Obj} (H : St w0 L w) (hx : x ∈ L := by repeat (first | exact List.Mem.head _ | refine List.Mem.tail _ ?_)) : Mem w [x] := H.mem.sub (by intro p hp; rw [List.mem_singleton] at hp; exact hp ▸ hx)
section
variable {P : Program} {n : Nw} {Q : zAW} {e : Env} {w : World} {l : List Oper} {s : Array Bool} {m : Nat} {F0 : zI} {o : Oper}
theorem z1 {L : List (Nat × Value)} {b0 : Env} (i : Nat) {d : Nat} {v : Value} (hM : Mem w F0) (hy : ∀ w, Mem w F0 → Yq P o (ovl L b0) w v) (h : RH P n l F0 (s.setIfInBounds i true) m Q (ovl ((d, v) :: L) b0) w) {m' : Nat} (hB : ((Region.noSelect l.toArray && Region.free .any l.toArray s i) && (Region.ready .any l.toArray s).contains i) = true := by decide +kernel)
  (ho : l[i]? = some o := by exact rfl) (hg : o.guard = none := by exact rfl) (hd : o.dst = some d := by exact rfl) (hlt : Nat.blt d n.n = true := by exact rfl) (hm : m' = m + 1 := by exact rfl) : RH P n l F0 s m' Q (ovl L b0) w := RH.take i hM hB ho hg hd hlt hy hm h
theorem z12 (i : Nat) (hM : Mem w F0) (h : OW P n l.toArray (thn (fun e' w' => RH P n l F0 (s.setIfInBounds i true) m Q e' w') (fun _ _ _ => False)) [o] e w) {m' : Nat} (hB : (Region.ready .any l.toArray s == [i]) = true := by decide +kernel) (ho : l[i]? = some o := by exact rfl) (hm : m' = m + 1 := by exact rfl) : RH P n l F0 s m' Q e w := RH.c1 i hM hm hB ho h
theorem z15 (i j : Nat) {o' : Oper} (hM : Mem w F0) (h : OW P n l.toArray (thn (fun e' w' => RH P n l F0 (s.setIfInBounds i true) m Q e' w') (fun _ _ _ => False)) [o] e w)
  (h' : OW P n l.toArray (thn (fun e' w' => RH P n l F0 (s.setIfInBounds j true) m Q e' w') (fun _ _ _ => False)) [o'] e w) {m' : Nat} (hB : (Region.ready .any l.toArray s == [i, j]) = true := by decide +kernel) (ho : l[i]? = some o := by exact rfl) (ho' : l[j]? = some o' := by exact rfl) (hm : m' = m + 1 := by exact rfl) : RH P n l F0 s m' Q e w := RH.c2 i j hM hm hB ho ho' h h'
end
attribute [irreducible] RH
end Go.Sk
namespace Go.Sk
open Go Go.RowKit
inductive KP where
 | val (V : Value)
 | box (n : Nat) (cs : List Value) (T : TypeId)
 | rel (R : zI → Value → Prop) (z : Nat)
 | nul
def KP.holds : KP → Value → World → Prop
 | .val V => fun v _ => v = V
 | .box n cs T => fun v w => ∃ b, v = .slice (some ⟨b, 0, none⟩) n n ∧ Mem w [cb b cs T]
 | .rel R z => fun v w => ∃ M, R M v ∧ Mem w M ∧ (∀ p ∈ M, z ≤ p.1) ∧ (M.map (·.1)).Nodup
 | .nul => fun v _ => ∃ b, v = .slice (some ⟨b, 0, none⟩) 0 0
theorem KP.stable (k : KP) {v : Value} {w w' : World} (hc : Cl w w') (h : k.holds v w) : k.holds v w' := by
 cases k with
 | val V => exact h
 | box n cs T => obtain ⟨b, h1, h2⟩ := h; exact ⟨b, h1, h2.ext hc⟩
 | rel R z => obtain ⟨M, h1, h2, h3, h4⟩ := h; exact ⟨M, h1, h2.ext hc, h3, h4⟩
 | nul => exact h
theorem KP.rel_of {R : zI → Value → Prop} {v : Value} {w w1 w2 : World} {M : zI} (hcl : Cl w w1) (H : St w1 M w2) (h : R M v) : (KP.rel R w.heap.size).holds v w2 :=
 ⟨M, h, H.mem, fun p hp => Nat.le_trans hcl.size (H.ge p hp), H.nodup⟩
theorem St.join {w0 w w1 : World} {L M : zI} (H : St w0 L w) (hcl : Cl w0 w1) (hM : Mem w M) (hg : ∀ p ∈ M, w1.heap.size ≤ p.1) (hn : (M.map (·.1)).Nodup) : ∃ N, St w0 (L ++ N) w ∧ M ⊆ L ++ N := by
 refine ⟨M.filter fun p => !(L.any fun q => Nat.beq q.1 p.1), ⟨H.below, H.mem.app fun p hp => hM p (List.mem_filter.1 hp).1, fun p hp => ?_, ?_⟩, fun p hp => ?_⟩
 ·rcases List.mem_append.1 hp with h | h
  ·exact H.ge p h
  ·exact Nat.le_trans hcl.size (hg p (List.mem_filter.1 h).1)
 ·rw [List.map_append, List.nodup_append]
  refine ⟨H.nodup, (List.filter_sublist.map _).nodup hn, fun a ha b hb he => ?_⟩
  obtain ⟨p, hp, rfl⟩ := List.mem_map.1 ha
  obtain ⟨q, hq, rfl⟩ := List.mem_map.1 hb
  have := (List.mem_filter.1 hq).2
  simp only [Bool.not_eq_true', List.any_eq_false] at this
  exact this p hp (by rw [he]; exact Nat.beq_refl _)
 ·cases h : L.any fun q => Nat.beq q.1 p.1 with
  | false => exact List.mem_append_right _ (List.mem_filter.2 ⟨hp, by rw [h]; rfl⟩)
  | true =>
    obtain ⟨q, hq, hqp⟩ := List.any_eq_true.1 h
    have he : q.1 = p.1 := Nat.eq_of_beq_eq_true hqp
    have h1 := H.mem q hq
    have h2 := hM p hp
    rw [he, h2] at h1
    have : p = q := Prod.ext he.symm (Option.some.inj h1)
    exact List.mem_append_left _ (this ▸ hq)
structure KE where
 i : Nat
 d : Nat
 deps : List Nat
 k : KP
def pkn : List KE → Nat → Value → World → Prop
 | [], _ => fun _ _ => False
 | x :: t, d => bif Nat.beq d x.d then x.k.holds else pkn t d
theorem zGn {T : List KE} {d : Nat} {v : Value} {w w' : World} (hc : Cl w w') (h : pkn T d v w) : pkn T d v w' := by
 induction T with
 | nil => exact h
 | cons x t ih =>
   have h1 : (bif Nat.beq d x.d then x.k.holds else pkn t d) v w := h
   show (bif Nat.beq d x.d then x.k.holds else pkn t d) v w'
   clear h
   cases hb : Nat.beq d x.d
   ·rw [hb] at h1; exact ih h1
   ·rw [hb] at h1; exact x.k.stable hc h1
def Know (p : Nat → Value → World → Prop) : List Nat → World → (List (Nat × Value) → Prop) → Prop
 | [], _, k => k []
 | d :: t, w, k => ∀ v, p d v w → Know p t w (fun l => k ((d, v) :: l))
theorem Know.at {p : Nat → Value → World → Prop} {e : Env} {w : World} : ∀ {ds : List Nat} {k : List (Nat × Value) → Prop}, Know p ds w k → (∀ d, d ∈ ds → p d (e d) w) → ∃ L, k L ∧ zHh e L
 | [], k, h, _ => ⟨[], h, trivial⟩
 | d :: t, k, h, hp => by
   obtain ⟨L, h1, h2⟩ := Know.at (h (e d) (hp d (List.mem_cons_self ..))) (fun d hd => hp d (List.mem_cons_of_mem _ hd))
   exact ⟨(d, e d) :: L, h1, rfl, h2⟩
inductive KSt (l : List Oper) (C : KE → Oper → Prop) : List KE → Prop
 | nil : KSt l C []
 | cons {x : KE} {o : Oper} {t : List KE} (ho : l[x.i]? = some o) (h : C x o) (ht : KSt l C t) : KSt l C (x :: t)
theorem KSt.get {l : List Oper} {C : KE → Oper → Prop} {T : List KE} (h : KSt l C T) {x : KE} (hx : x ∈ T) {o : Oper} (ho : l[x.i]? = some o) : C x o := by
 induction h with
 | nil => cases hx
 | cons ho' hc _ ih =>
   rcases List.mem_cons.1 hx with rfl | hx
   ·obtain rfl := Option.some.inj (ho'.symm.trans ho); exact hc
   ·exact ih hx
def zIz (l : List Oper) : Array Bool → List KE → Bool
 | _, [] => true
 | s, x :: t => (match l[x.i]? with | some o => o.after.toList.all fun e => !Region.binds .any e || s.getD e.on false | none => false) && zIz l (s.setIfInBounds x.i true) t
def KE.strip (x : KE) : KE := ⟨x.i, x.d, x.deps, .val undef⟩
def knB (l : List Oper) (s : Array Bool) (n : Nat) (W : List (Nat × Nat)) (T : List KE) (fd : List Nat) (m : Nat) : Bool :=
 Nat.beq s.size l.length && (Nat.ble T.length m && (zIz l s T && (
 (T.all fun x => !s.getD x.i true && (rg W x.d && (Nat.blt x.d n && match l[x.i]? with | some o => x.deps.all fun d => T.any fun y => Nat.beq y.d d && o.after.toList.any fun e => Region.binds .any e && Nat.beq e.on y.i | none => false))) && (
 (T.all fun x => T.all fun y => Nat.beq x.i y.i == Nat.beq x.d y.d) && (
 ((List.range l.length).all fun i => s.getD i true || T.any fun x => Nat.beq x.i i) &&
 (fd.all fun d => T.any fun x => Nat.beq x.d d))))))
theorem zEa (l : List Oper) : ∀ (T : List KE) (s : Array Bool), zIz l s (T.map KE.strip) = zIz l s T
 | [], _ => rfl
 | x :: t, s => by
   rw [List.map_cons]
   unfold zIz
   rw [zEa l t]
   rfl
theorem zMR (l : List Oper) (s : Array Bool) (n : Nat) (W : List (Nat × Nat)) (T : List KE) (fd : List Nat) (m : Nat) : knB l s n W (T.map KE.strip) fd m = knB l s n W T fd m := by
 unfold knB
 rw [zEa]
 simp only [List.length_map, List.all_map, List.any_map, Function.comp_def, KE.strip]
theorem zGo {l : List Oper} {s' : Array Bool} (hr : Region.ready .any l.toArray s' = []) (hsz : s'.size = l.length) : ∀ {T : List KE} {s : Array Bool}, s.size = l.length → zIz l s T = true → (∀ j, s.getD j false = true → s'.getD j false = true) → ∀ x, x ∈ T → s'.getD x.i false = true
 | [], _, _, _, _, x, hx => by cases hx
 | y :: t, s, hs, ht, hle, x, hx => by
   unfold zIz at ht
   rw [Bool.and_eq_true] at ht
   obtain ⟨h1, h2⟩ := ht
   have hy : s'.getD y.i false = true := by
    cases ho : l[y.i]? with
    | none => rw [ho] at h1; cases h1
    | some o =>
      rw [ho] at h1
      cases hd : s'.getD y.i false with
      | true => rfl
      | false =>
        exfalso
        have hlt : y.i < s'.size := by rw [hsz]; exact (List.getElem?_eq_some_iff.1 ho).1
        have hm : y.i ∈ Region.ready .any l.toArray s' := mem_ready.2 ⟨by
         rw [Array.getD_eq_getD_getElem?, Array.getElem?_eq_getElem hlt] at hd ⊢; exact hd, o, by simpa using ho, fun e he hb => by
          have h3 := List.all_eq_true.1 (show o.after.toList.all _ = true from h1) e (Array.mem_toList_iff.2 he)
          rw [hb] at h3
          exact hle _ (by simpa using h3)⟩
        rw [hr] at hm
        cases hm
   rcases List.mem_cons.1 hx with rfl | hx
   ·exact hy
   ·refine zGo hr hsz (by simpa using hs) h2 (fun j hj => ?_) x hx
    by_cases hji : j = y.i
    ·rw [hji]; exact hy
    ·refine hle j ?_
     rw [Array.getD_eq_getD_getElem?, Array.getElem?_setIfInBounds_ne (Ne.symm hji), ← Array.getD_eq_getD_getElem?] at hj
     exact hj
theorem zIH {α : Type} {f g : α → Bool} : ∀ {l : List α}, (∀ x, x ∈ l → g x = true → f x = true) → (∃ x, x ∈ l ∧ f x = true ∧ g x = false) → (l.filter g).length < (l.filter f).length
 | [], _, ⟨x, hx, _⟩ => by cases hx
 | y :: t, h1, ⟨x, hx, hf, hg⟩ => by
   have hle : ∀ l : List α, (∀ x, x ∈ l → g x = true → f x = true) → (l.filter g).length ≤ (l.filter f).length := by
    intro l
    induction l with
    | nil => intro _; exact Nat.le_refl _
    | cons z u ih =>
      intro h
      have := ih (fun x hx => h x (List.mem_cons_of_mem _ hx))
      rw [List.filter_cons, List.filter_cons]
      cases hgz : g z
      ·cases hfz : f z <;> simp <;> omega
      ·rw [h z (List.mem_cons_self ..) hgz]; simp; omega
   rw [List.filter_cons, List.filter_cons]
   rcases List.mem_cons.1 hx with rfl | hx
   ·rw [hf, hg]
    have := hle t (fun x hx => h1 x (List.mem_cons_of_mem _ hx))
    simp; omega
   ·have := zIH (fun x hx => h1 x (List.mem_cons_of_mem _ hx)) ⟨x, hx, hf, hg⟩
    cases hgy : g y
    ·cases hfy : f y <;> simp <;> omega
    ·rw [h1 y (List.mem_cons_self ..) hgy]; simp; omega
attribute [local semireducible] CW OW OX QW QX Yq RA RH
section
variable {P : Program} {n : Nw} {Q : zAW} {w : World} {l : List Oper} {s : Array Bool} {m : Nat} {F0 : zI}
theorem RH.know {L : List (Nat × Value)} {b0 : Env} (W : List (Nat × Nat)) (T T0 : List KE) (fd : List Nat) (hM : Mem w F0) (hS : T.map KE.strip = T0) (hB : knB l s n.n W T0 fd m = true)
  (hst : KSt l (fun x o => ∀ g w', Cl w w' → Mem w' F0 → Know (pkn T) x.deps w' fun L' => OW P n l.toArray (thn (fun e' w'' => ∃ v, e' = ovl ((x.d, v) :: L') (msk W g (ovl L b0)) ∧ Cl w' w'' ∧ pkn T x.d v w'') (fun _ _ _ => False)) [o] (ovl L' (msk W g (ovl L b0))) w') T)
  (fin : ∀ g w', Cl w w' → Know (pkn T) fd w' fun L' => Q .normal (ovl L' (msk W g (ovl L b0))) w') : RH P n l F0 s m Q (ovl L b0) w := by
 rw [← hS, zMR] at hB
 unfold knB at hB
 simp only [Bool.and_eq_true] at hB
 obtain ⟨hsz, hm, htop, hall, hinj, hcov, hfd⟩ := hB
 have hsz := Nat.eq_of_beq_eq_true hsz
 have hm := Nat.le_of_ble_eq_true hm
 refine ⟨hM, fun a ha => ?_⟩
 have fall : ∀ x, x ∈ T → s.getD x.i true = false ∧ rg W x.d = true ∧ ∀ o, l[x.i]? = some o → ∀ d, d ∈ x.deps → ∃ y, y ∈ T ∧ y.d = d ∧ ∃ e, e ∈ o.after ∧ Region.binds .any e = true ∧ e.on = y.i := fun x hx => by
  have h := List.all_eq_true.1 hall x hx
  simp only [Bool.and_eq_true, Bool.not_eq_true'] at h
  obtain ⟨h1, h2, _, h3⟩ := h
  refine ⟨h1, h2, fun o ho d hd => ?_⟩
  rw [ho] at h3
  obtain ⟨y, hy, h4⟩ := List.any_eq_true.1 (List.all_eq_true.1 (show x.deps.all _ = true from h3) d hd)
  rw [Bool.and_eq_true] at h4
  obtain ⟨e, he, h5⟩ := List.any_eq_true.1 h4.2
  rw [Bool.and_eq_true] at h5
  exact ⟨y, hy, Nat.eq_of_beq_eq_true h4.1, e, Array.mem_toList_iff.1 he, h5.1, Nat.eq_of_beq_eq_true h5.2⟩
 have finj : ∀ x y, x ∈ T → y ∈ T → (x.i = y.i ↔ x.d = y.d) := fun x y hx hy => by
  have h := List.all_eq_true.1 (List.all_eq_true.1 hinj x hx) y hy
  rw [beq_iff_eq] at h
  constructor
  ·intro he; rw [he, Nat.beq_refl] at h; exact Nat.eq_of_beq_eq_true h.symm
  ·intro he; rw [he, Nat.beq_refl] at h; exact Nat.eq_of_beq_eq_true h
 suffices key : ∀ (m : Nat) (s' : Array Bool) (e : Env) (w' : World) (a : Act), Fits n a e → s'.size = l.length → (∀ j, s.getD j false = true → s'.getD j false = true) → (T.filter fun x => !s'.getD x.i true).length ≤ m → Cl w w' → (∀ i, rg W i = false → e i = ovl L b0 i) → (∀ x, x ∈ T → s'.getD x.i true = true → pkn T x.d (e x.d) w') → wpAnyH P .any l.toArray (nrm n Q) (fun w => Mem w F0) m s' a w' by
  refine key m s _ w a ha hsz (fun _ h => h) (Nat.le_trans (List.length_filter_le _ _) hm) (Cl.refl w) (fun _ _ => rfl) (fun x hx h => ?_)
  rw [(fall x hx).1] at h
  cases h
 clear ha
 have goal : ∀ (s' : Array Bool) (e : Env) (w' : World) (a : Act), Fits n a e → Cl w w' → (∀ i, rg W i = false → e i = ovl L b0 i) → (∀ x, x ∈ T → pkn T x.d (e x.d) w') → nrm n Q .normal a w' := by
  intro s' e w' a ha hc hk hp
  obtain ⟨L', h1, h2⟩ := Know.at (e := e) (fin e w' hc) (fun d hd => by
   obtain ⟨x, hx, hxd⟩ := List.any_eq_true.1 (List.all_eq_true.1 hfd d hd)
   have := Nat.eq_of_beq_eq_true hxd
   rw [← this]
   exact hp x hx)
  rw [zCX hk, zBv h2] at h1
  exact ⟨rfl, nofun, e, ha, h1⟩
 have tf : ∀ (s' : Array Bool) (j : Nat), s'.size = l.length → j < l.length → (s'.getD j true = true ↔ s'.getD j false = true) := fun s' j hs hj => by
  rw [Array.getD_eq_getD_getElem?, Array.getD_eq_getD_getElem?, Array.getElem?_eq_getElem (by omega)]
  exact Iff.rfl
 have hin : ∀ x, x ∈ T → x.i < l.length := fun x hx => by
  have h1 := (fall x hx).1
  rcases Nat.lt_or_ge x.i l.length with h | h
  ·exact h
  ·rw [Array.getD_eq_getD_getElem?, Array.getElem?_eq_none (by omega)] at h1; cases h1
 intro m
 induction m with
 | zero =>
   intro s' e w' a ha hs hle hms hc hk hp
   have hdone : ∀ x, x ∈ T → s'.getD x.i true = true := fun x hx => by
    have h0 : (T.filter fun x => !s'.getD x.i true) = [] := List.length_eq_zero_iff.1 (by omega)
    have := List.filter_eq_nil_iff.1 h0 x hx
    simpa using this
   refine ⟨?_, goal s' e w' a ha hc hk fun x hx => hp x hx (hdone x hx)⟩
   rw [List.eq_nil_iff_forall_not_mem]
   intro j hj
   obtain ⟨h1, o, ho, _⟩ := mem_ready.1 hj
   have hjl : j < l.length := by simpa using (Array.getElem?_eq_some_iff.1 ho).1
   have := List.all_eq_true.1 hcov j (List.mem_range.2 hjl)
   rw [Bool.or_eq_true] at this
   rcases this with h2 | h2
   ·rw [tf s j hsz hjl] at h2
    have := hle j h2
    rw [← tf s' j hs hjl, h1] at this
    cases this
   ·obtain ⟨x, hx, hxi⟩ := List.any_eq_true.1 h2
    have := Nat.eq_of_beq_eq_true hxi
    have h3 := hdone x hx
    rw [this, h1] at h3
    cases h3
 | succ m ih =>
   intro s' e w' a ha hs hle hms hc hk hp
   refine ⟨fun hr => goal s' e w' a ha hc hk fun x hx => hp x hx ?_, fun i hi => ?_⟩
   ·exact (tf s' x.i hs (hin x hx)).2 (zGo hr hs hsz htop hle x hx)
   ·obtain ⟨h1, o, ho, haft⟩ := mem_ready.1 hi
    have hil : i < l.length := by simpa using (Array.getElem?_eq_some_iff.1 ho).1
    have hol : l[i]? = some o := by simpa using ho
    obtain ⟨x, hx, hxi⟩ : ∃ x, x ∈ T ∧ x.i = i := by
     have := List.all_eq_true.1 hcov i (List.mem_range.2 hil)
     rw [Bool.or_eq_true] at this
     rcases this with h2 | h2
     ·rw [tf s i hsz hil] at h2
      have := hle i h2
      rw [← tf s' i hs hil, h1] at this
      cases this
     ·obtain ⟨x, hx, hxi⟩ := List.any_eq_true.1 h2
      exact ⟨x, hx, Nat.eq_of_beq_eq_true hxi⟩
    subst hxi
    obtain ⟨_, hrg, hdep⟩ := fall x hx
    obtain ⟨L', h2, h3⟩ := Know.at (e := e) (hst.get hx hol e w' hc (hM.ext hc)) (fun d hd => by
     obtain ⟨y, hy, hyd, ed, he, hb, hon⟩ := hdep o hol d hd
     have := haft ed he hb
     rw [hon] at this
     rw [← hyd]
     exact hp y hy ((tf s' y.i hs (hin y hy)).2 this))
    rw [zCX hk, zBv h3] at h2
    refine zBL hol (fun a' e' w'' hf hK => ?_) h2 a ha
    obtain ⟨v, rfl, hc2, hv⟩ := hK
    have hbase : ∀ j, j ≠ x.d → ovl ((x.d, v) :: L') e j = e j := fun j hj => by
     rw [zBu, if_neg hj, zBv h3]
    refine ⟨hM.ext (hc.trans hc2), ih _ _ _ _ hf (by simpa using hs) (fun j hj => ?_) ?_ (hc.trans hc2) (fun j hj => ?_) (fun y hy hd => ?_)⟩
    ·have h4 := hle j hj
     by_cases hji : j = x.i
     ·subst hji
      rw [Array.getD_eq_getD_getElem?, Array.getElem?_setIfInBounds_self_of_lt (by omega)]; rfl
     ·rw [Array.getD_eq_getD_getElem?, Array.getElem?_setIfInBounds_ne (Ne.symm hji), ← Array.getD_eq_getD_getElem?]; exact h4
    ·have : (T.filter fun y => !(s'.setIfInBounds x.i true).getD y.i true).length < (T.filter fun y => !s'.getD y.i true).length := by
      refine zIH (fun y hy h => ?_) ⟨x, hx, by rw [h1]; rfl, ?_⟩
      ·by_cases hji : y.i = x.i
       ·rw [hji, h1]; rfl
       ·rw [Array.getD_eq_getD_getElem?, Array.getElem?_setIfInBounds_ne (Ne.symm hji), ← Array.getD_eq_getD_getElem?] at h; exact h
      ·rw [Array.getD_eq_getD_getElem?, Array.getElem?_setIfInBounds_self_of_lt (by omega)]; rfl
     omega
    ·rw [hbase j (fun hjd => by rw [hjd, hrg] at hj; cases hj)]; exact hk j hj
    ·by_cases hji : y.i = x.i
     ·have hyd := (finj y x hy hx).1 hji
      rw [hyd, zBu, if_pos rfl]; exact hv
     ·have hyd : y.d ≠ x.d := fun h => hji ((finj y x hy hx).2 h)
      rw [hbase y.d hyd]
      rw [Array.getD_eq_getD_getElem?, Array.getElem?_setIfInBounds_ne (Ne.symm hji), ← Array.getD_eq_getD_getElem?] at hd
      exact zGn hc2 (hp y hy hd)
end
end Go.Sk
namespace Go.Sk
open Go Go.RowKit
def zFi (l : List Oper) (i j : Nat) : Bool := match l[i]? with | some o => o.after.toList.any fun e => Region.binds .any e && Nat.beq e.on j | none => false
def zGp (l : List Oper) (z : Nat) : List KE → Bool
 | [] => true
 | x :: t => (zFi l z x.i || t.any fun y => zFi l y.i x.i) && zGp l z t
theorem zFj (l : List Oper) (z : Nat) : ∀ T : List KE, zGp l z (T.map KE.strip) = zGp l z T
 | [] => rfl
 | x :: t => by
   rw [List.map_cons]
   unfold zGp
   rw [zFj l z t, List.any_map]
   rfl
theorem zHX {l : List Oper} {z : Nat} {D : Nat → Prop} (hz : ∀ j, zFi l z j = true → D j) : ∀ {T : List KE}, zGp l z T = true → (∀ y, y ∈ T → D y.i → ∀ j, zFi l y.i j = true → D j) → ∀ x, x ∈ T → D x.i
 | [], _, _, x, hx => by cases hx
 | y :: t, h, hc, x, hx => by
   unfold zGp at h
   rw [Bool.and_eq_true, Bool.or_eq_true] at h
   have ht := zHX hz h.2 fun y hy => hc y (List.mem_cons_of_mem _ hy)
   rcases List.mem_cons.1 hx with rfl | hx
   ·rcases h.1 with h1 | h1
    ·exact hz _ h1
    ·obtain ⟨u, hu, h2⟩ := List.any_eq_true.1 h1
     exact hc u (List.mem_cons_of_mem _ hu) (ht u hu) _ h2
   ·exact ht x hx
def knT (l : List Oper) (s : Array Bool) (n : Nat) (W : List (Nat × Nat)) (T : List KE) (fd : List Nat) (m k : Nat) : Bool :=
 Nat.beq s.size l.length && (Nat.ble (T.length + k) m && (zIz l s T && (
 (T.all fun x => !s.getD x.i true && (rg W x.d && (Nat.blt x.d n && match l[x.i]? with | some o => x.deps.all fun d => T.any fun y => Nat.beq y.d d && o.after.toList.any fun e => Region.binds .any e && Nat.beq e.on y.i | none => false))) && (
 (T.all fun x => T.all fun y => Nat.beq x.i y.i == Nat.beq x.d y.d) && (
 ((List.range l.length).all fun i => s.getD i true || (T.any fun x => Nat.beq x.i i) || (zGp l i T || (List.range l.length).any fun j => !s.getD j true && (!(T.any fun x => Nat.beq x.i j) && zFi l i j))) &&
 (fd.all fun d => T.any fun x => Nat.beq x.d d))))))
theorem zMS (l : List Oper) (s : Array Bool) (n : Nat) (W : List (Nat × Nat)) (T : List KE) (fd : List Nat) (m k : Nat) : knT l s n W (T.map KE.strip) fd m k = knT l s n W T fd m k := by
 unfold knT
 rw [zEa]
 simp only [zFj, List.length_map, List.all_map, List.any_map, Function.comp_def, KE.strip]
def zHY (T : List KE) (s : Array Bool) : Array Bool := T.foldl (fun s x => s.setIfInBounds x.i true) s
theorem zGq : ∀ (T : List KE) (s : Array Bool), (zHY T s).size = s.size
 | [], _ => rfl
 | x :: t, s => by
   show (zHY t (s.setIfInBounds x.i true)).size = _
   rw [zGq t]; simp
theorem zHZ (s : Array Bool) (i j : Nat) (hi : i < s.size) : (s.setIfInBounds i true).getD j true = (Nat.beq i j || s.getD j true) := by
 by_cases h : i = j
 ·subst h
  rw [Array.getD_eq_getD_getElem?, Array.getElem?_setIfInBounds_self_of_lt hi, Nat.beq_refl]; rfl
 ·rw [Array.getD_eq_getD_getElem?, Array.getElem?_setIfInBounds_ne h, ← Array.getD_eq_getD_getElem?]
  have : Nat.beq i j = false := by
   cases hb : Nat.beq i j with
   | false => rfl
   | true => exact absurd (Nat.eq_of_beq_eq_true hb) h
  rw [this]; rfl
theorem zGr : ∀ (T : List KE) (s : Array Bool) (j : Nat), (∀ x, x ∈ T → x.i < s.size) → (zHY T s).getD j true = ((T.any fun x => Nat.beq x.i j) || s.getD j true)
 | [], _, _, _ => rfl
 | x :: t, s, j, h => by
   show (zHY t (s.setIfInBounds x.i true)).getD j true = _
   rw [zGr t _ j (fun y hy => by simpa using h y (List.mem_cons_of_mem _ hy)), zHZ s x.i j (h x (List.mem_cons_self ..)), List.any_cons]
   cases Nat.beq x.i j <;> cases t.any _ <;> rfl
theorem zOh {s t : Array Bool} (hs : s.size = t.size) (h : ∀ j, j < s.size → s.getD j true = t.getD j true) : s = t := by
 refine Array.ext hs fun j h1 h2 => ?_
 have := h j h1
 rwa [Array.getD_eq_getD_getElem?, Array.getD_eq_getD_getElem?, Array.getElem?_eq_getElem h1, Array.getElem?_eq_getElem h2] at this
attribute [local semireducible] CW OW OX QW QX Yq RA RH
section
variable {P : Program} {n : Nw} {Q : zAW} {w : World} {l : List Oper} {s : Array Bool} {m : Nat} {F0 : zI}
theorem RH.knowThen {L : List (Nat × Value)} {b0 : Env} (W : List (Nat × Nat)) (T T0 : List KE) (fd : List Nat) (k : Nat) (hM : Mem w F0) (hS : T.map KE.strip = T0) (hB : knT l s n.n W T0 fd m k = true)
  (hst : KSt l (fun x o => ∀ g w', Cl w w' → Mem w' F0 → Know (pkn T) x.deps w' fun L' => OW P n l.toArray (thn (fun e' w'' => ∃ v, e' = ovl ((x.d, v) :: L') (msk W g (ovl L b0)) ∧ Cl w' w'' ∧ pkn T x.d v w'') (fun _ _ _ => False)) [o] (ovl L' (msk W g (ovl L b0))) w') T)
  (fin : ∀ g w' m', Cl w w' → Know (pkn T) fd w' fun L' => RH P n l F0 (zHY T0 s) (m' + k) Q (ovl L' (msk W g (ovl L b0))) w') : RH P n l F0 s m Q (ovl L b0) w := by
 rw [← hS, zMS] at hB
 unfold knT at hB
 simp only [Bool.and_eq_true] at hB
 obtain ⟨hsz, hm, htop, hall, hinj, hcov, hfd⟩ := hB
 have hsz := Nat.eq_of_beq_eq_true hsz
 have hm := Nat.le_of_ble_eq_true hm
 refine ⟨hM, fun a ha => ?_⟩
 have fall : ∀ x, x ∈ T → s.getD x.i true = false ∧ rg W x.d = true ∧ ∀ o, l[x.i]? = some o → ∀ d, d ∈ x.deps → ∃ y, y ∈ T ∧ y.d = d ∧ ∃ e, e ∈ o.after ∧ Region.binds .any e = true ∧ e.on = y.i := fun x hx => by
  have h := List.all_eq_true.1 hall x hx
  simp only [Bool.and_eq_true, Bool.not_eq_true'] at h
  obtain ⟨h1, h2, _, h3⟩ := h
  refine ⟨h1, h2, fun o ho d hd => ?_⟩
  rw [ho] at h3
  obtain ⟨y, hy, h4⟩ := List.any_eq_true.1 (List.all_eq_true.1 (show x.deps.all _ = true from h3) d hd)
  rw [Bool.and_eq_true] at h4
  obtain ⟨e, he, h5⟩ := List.any_eq_true.1 h4.2
  rw [Bool.and_eq_true] at h5
  exact ⟨y, hy, Nat.eq_of_beq_eq_true h4.1, e, Array.mem_toList_iff.1 he, h5.1, Nat.eq_of_beq_eq_true h5.2⟩
 have finj : ∀ x y, x ∈ T → y ∈ T → (x.i = y.i ↔ x.d = y.d) := fun x y hx hy => by
  have h := List.all_eq_true.1 (List.all_eq_true.1 hinj x hx) y hy
  rw [beq_iff_eq] at h
  constructor
  ·intro he; rw [he, Nat.beq_refl] at h; exact Nat.eq_of_beq_eq_true h.symm
  ·intro he; rw [he, Nat.beq_refl] at h; exact Nat.eq_of_beq_eq_true h
 have hin : ∀ x, x ∈ T → x.i < l.length := fun x hx => by
  have h1 := (fall x hx).1
  rcases Nat.lt_or_ge x.i l.length with h | h
  ·exact h
  ·rw [Array.getD_eq_getD_getElem?, Array.getElem?_eq_none (by omega)] at h1; cases h1
 have tf : ∀ (s' : Array Bool) (j : Nat), s'.size = l.length → j < l.length → (s'.getD j true = true ↔ s'.getD j false = true) := fun s' j hs hj => by
  rw [Array.getD_eq_getD_getElem?, Array.getD_eq_getD_getElem?, Array.getElem?_eq_getElem (by omega)]
  exact Iff.rfl
 have depL : ∀ {i j : Nat} {o : Oper}, l[i]? = some o → zFi l i j = true → ∃ e, e ∈ o.after ∧ Region.binds .any e = true ∧ e.on = j := fun {i j o} ho h => by
  unfold zFi at h
  rw [ho] at h
  obtain ⟨e, he, h5⟩ := List.any_eq_true.1 (show o.after.toList.any _ = true from h)
  rw [Bool.and_eq_true] at h5
  exact ⟨e, Array.mem_toList_iff.1 he, h5.1, Nat.eq_of_beq_eq_true h5.2⟩
 suffices key : ∀ (c : Nat) (s' : Array Bool) (e : Env) (w' : World) (a : Act) (m : Nat), Fits n a e → s'.size = l.length → (∀ j, s'.getD j true = true → s.getD j true = true ∨ T.any (fun x => Nat.beq x.i j) = true) → (∀ j, s.getD j true = true → s'.getD j true = true) → (∀ y, y ∈ T → s'.getD y.i true = true → ∀ j, zFi l y.i j = true → s'.getD j false = true) → (T.filter fun x => !s'.getD x.i true).length ≤ c → c + k ≤ m → Cl w w' → (∀ i, rg W i = false → e i = ovl L b0 i) → (∀ x, x ∈ T → s'.getD x.i true = true → pkn T x.d (e x.d) w') → wpAnyH P .any l.toArray (nrm n Q) (fun w => Mem w F0) m s' a w' by
  refine key T.length s _ w a m ha hsz (fun j h => .inl h) (fun j h => h) (fun y hy h => ?_) (List.length_filter_le _ _) hm (Cl.refl w) (fun _ _ => rfl) (fun x hx h => ?_)
  ·rw [(fall y hy).1] at h; cases h
  ·rw [(fall x hx).1] at h; cases h
 clear ha hm
 have goal : ∀ (s' : Array Bool) (e : Env) (w' : World) (a : Act) (m : Nat), Fits n a e → s'.size = l.length → (∀ j, s'.getD j true = true → s.getD j true = true ∨ T.any (fun x => Nat.beq x.i j) = true) → (∀ j, s.getD j true = true → s'.getD j true = true) → k ≤ m → Cl w w' → (∀ i, rg W i = false → e i = ovl L b0 i) → (∀ x, x ∈ T → s'.getD x.i true = true) → (∀ x, x ∈ T → pkn T x.d (e x.d) w') → wpAnyH P .any l.toArray (nrm n Q) (fun w => Mem w F0) m s' a w' := by
  intro s' e w' a m ha hs hle1 hle2 hkm hc hk hd hp
  obtain ⟨m', rfl⟩ : ∃ m', m = m' + k := ⟨m - k, by omega⟩
  obtain ⟨L', h1, h2⟩ := Know.at (e := e) (fin e w' m' hc) (fun d hd => by
   obtain ⟨x, hx, hxd⟩ := List.any_eq_true.1 (List.all_eq_true.1 hfd d hd)
   have := Nat.eq_of_beq_eq_true hxd
   rw [← this]
   exact hp x hx)
  rw [zCX hk, zBv h2] at h1
  have he : zHY T0 s = s' := by
   rw [← hS]
   refine zOh (by rw [zGq]; omega) fun j hj => ?_
   rw [zGr _ _ _ (fun x hx => by
    obtain ⟨y, hy, rfl⟩ := List.mem_map.1 hx
    rw [hsz]; exact hin y hy), List.any_map]
   show ((T.any fun x => Nat.beq x.i j) || s.getD j true) = s'.getD j true
   rw [Bool.eq_iff_iff, Bool.or_eq_true]
   constructor
   ·rintro (h | h)
    ·obtain ⟨x, hx, hxj⟩ := List.any_eq_true.1 h
     rw [← Nat.eq_of_beq_eq_true hxj]; exact hd x hx
    ·exact hle2 j h
   ·intro h; exact (hle1 j h).symm
  rw [he] at h1
  exact h1.2 a ha
 intro c
 induction c with
 | zero =>
   intro s' e w' a m ha hs hle1 hle2 hcl hms hkm hc hk hp
   have hdone : ∀ x, x ∈ T → s'.getD x.i true = true := fun x hx => by
    have h0 : (T.filter fun x => !s'.getD x.i true) = [] := List.length_eq_zero_iff.1 (by omega)
    have := List.filter_eq_nil_iff.1 h0 x hx
    simpa using this
   exact goal s' e w' a m ha hs hle1 hle2 (by omega) hc hk hdone fun x hx => hp x hx (hdone x hx)
 | succ c ih =>
   intro s' e w' a m ha hs hle1 hle2 hcl hms hkm hc hk hp
   by_cases hdone : ∀ x, x ∈ T → s'.getD x.i true = true
   ·exact goal s' e w' a m ha hs hle1 hle2 (by omega) hc hk hdone fun x hx => hp x hx (hdone x hx)
   have hle2' : ∀ j, s.getD j false = true → s'.getD j false = true := fun j hj => by
    have hjl : j < l.length := by
     rcases Nat.lt_or_ge j l.length with h | h
     ·exact h
     ·rw [Array.getD_eq_getD_getElem?, Array.getElem?_eq_none (by omega)] at hj; cases hj
    exact (tf s' j hs hjl).1 (hle2 j ((tf s j hsz hjl).2 hj))
   obtain ⟨m, rfl⟩ : ∃ m', m = m' + 1 := ⟨m - 1, by omega⟩
   refine ⟨fun hr => absurd (fun x hx => (tf s' x.i hs (hin x hx)).2 (zGo hr hs hsz htop hle2' x hx)) hdone, fun i hi => ?_⟩
   obtain ⟨h1, o, ho, haft⟩ := mem_ready.1 hi
   have hil : i < l.length := by simpa using (Array.getElem?_eq_some_iff.1 ho).1
   have hol : l[i]? = some o := by simpa using ho
   obtain ⟨x, hx, hxi⟩ : ∃ x, x ∈ T ∧ x.i = i := by
    have := List.all_eq_true.1 hcov i (List.mem_range.2 hil)
    rw [Bool.or_eq_true, Bool.or_eq_true, Bool.or_eq_true] at this
    rcases this with (h2 | h2) | h2 | h2
    ·have := hle2 i h2
     rw [h1] at this
     cases this
    ·obtain ⟨x, hx, hxi⟩ := List.any_eq_true.1 h2
     exact ⟨x, hx, Nat.eq_of_beq_eq_true hxi⟩
    ·exfalso
     refine hdone fun x hx => ?_
     refine (tf s' x.i hs (hin x hx)).2 (zHX (D := fun j => s'.getD j false = true) (fun j hj => ?_) h2 (fun y hy hd j hj => hcl y hy ((tf s' y.i hs (hin y hy)).2 hd) j hj) x hx)
     obtain ⟨ed, he, hb, hon⟩ := depL hol hj
     have := haft ed he hb
     rwa [hon] at this
    ·exfalso
     obtain ⟨j, hj, h3⟩ := List.any_eq_true.1 h2
     simp only [Bool.and_eq_true, Bool.not_eq_true'] at h3
     obtain ⟨h4, h5, h6⟩ := h3
     obtain ⟨ed, he, hb, hon⟩ := depL hol h6
     have h7 := haft ed he hb
     rw [hon] at h7
     rcases hle1 j ((tf s' j hs (List.mem_range.1 hj)).2 h7) with h8 | h8
     ·rw [h4] at h8; cases h8
     ·rw [h5] at h8; cases h8
   subst hxi
   obtain ⟨_, hrg, hdep⟩ := fall x hx
   obtain ⟨L', h2, h3⟩ := Know.at (e := e) (hst.get hx hol e w' hc (hM.ext hc)) (fun d hd => by
    obtain ⟨y, hy, hyd, ed, he, hb, hon⟩ := hdep o hol d hd
    have := haft ed he hb
    rw [hon] at this
    rw [← hyd]
    exact hp y hy ((tf s' y.i hs (hin y hy)).2 this))
   rw [zCX hk, zBv h3] at h2
   refine zBL hol (fun a' e' w'' hf hK => ?_) h2 a ha
   obtain ⟨v, rfl, hc2, hv⟩ := hK
   have hbase : ∀ j, j ≠ x.d → ovl ((x.d, v) :: L') e j = e j := fun j hj => by
    rw [zBu, if_neg hj, zBv h3]
   have hup : ∀ j, (s'.setIfInBounds x.i true).getD j true = (Nat.beq x.i j || s'.getD j true) := fun j => zHZ s' x.i j (by omega)
   have hupf : ∀ j, s'.getD j false = true → (s'.setIfInBounds x.i true).getD j false = true := fun j hj => by
    by_cases hji : x.i = j
    ·subst hji
     rw [Array.getD_eq_getD_getElem?, Array.getElem?_setIfInBounds_self_of_lt (by omega)]; rfl
    ·rw [Array.getD_eq_getD_getElem?, Array.getElem?_setIfInBounds_ne hji, ← Array.getD_eq_getD_getElem?]; exact hj
   refine ⟨hM.ext (hc.trans hc2), ih _ _ _ _ _ hf (by simpa using hs) (fun j hj => ?_) (fun j hj => ?_) (fun y hy hd j hj => ?_) ?_ (by omega) (hc.trans hc2) (fun j hj => ?_) (fun y hy hd => ?_)⟩
   ·rw [hup, Bool.or_eq_true] at hj
    rcases hj with hj | hj
    ·exact .inr (List.any_eq_true.2 ⟨x, hx, hj⟩)
    ·exact hle1 j hj
   ·rw [hup, hle2 j hj, Bool.or_true]
   ·rw [hup, Bool.or_eq_true] at hd
    rcases hd with hd | hd
    ·rw [← Nat.eq_of_beq_eq_true hd] at hj
     obtain ⟨ed, he, hb, hon⟩ := depL hol hj
     have := haft ed he hb
     rw [hon] at this
     exact hupf j this
    ·exact hupf j (hcl y hy hd j hj)
   ·have : (T.filter fun y => !(s'.setIfInBounds x.i true).getD y.i true).length < (T.filter fun y => !s'.getD y.i true).length := by
     refine zIH (fun y hy h => ?_) ⟨x, hx, by rw [h1]; rfl, ?_⟩
     ·rw [hup] at h
      cases hb : Nat.beq x.i y.i <;> rw [hb] at h
      ·exact h
      ·cases h
     ·rw [hup, Nat.beq_refl]; rfl
    omega
   ·rw [hbase j (fun hjd => by rw [hjd, hrg] at hj; cases hj)]; exact hk j hj
   ·by_cases hji : y.i = x.i
    ·have hyd := (finj y x hy hx).1 hji
     rw [hyd, zBu, if_pos rfl]; exact hv
    ·have hyd : y.d ≠ x.d := fun h => hji ((finj y x hy hx).2 h)
     rw [hbase y.d hyd]
     rw [hup] at hd
     have hb : Nat.beq x.i y.i = false := by
      cases hb : Nat.beq x.i y.i with
      | false => rfl
      | true => exact absurd (Nat.eq_of_beq_eq_true hb).symm hji
     rw [hb, Bool.false_or] at hd
     exact zGn hc2 (hp y hy hd)
end
theorem Again.mk3 {ι : Type} {w : World} {L L' L'' : List (Nat × Value)} {W W' W'' : List (Nat × Nat)} {e0 g g' g'' : Env} {val : ι → List (Nat × Value)} {I : ι → World → Prop} {μ : ι → Nat} {m : Nat} (x' : ι) (hk : (keeps W L && (sbR W W' && (keeps W L' && (sbR W W'' && keeps W L'')))) = true)
  (hv : zHh (ovl L (msk W' g' (ovl L' (msk W'' g'' (ovl L'' (msk W g e0)))))) (val x')) (hI : I x' w) (hm : μ x' < m) : Again W e0 val I μ m (ovl L (msk W' g' (ovl L' (msk W'' g'' (ovl L'' (msk W g e0)))))) w := by
 simp only [Bool.and_eq_true] at hk
 refine ⟨x', fun i hi => ?_, hv, hI, hm⟩
 rw [zDx hk.1 i hi]
 have h1 : msk W' g' (ovl L' (msk W'' g'' (ovl L'' (msk W g e0)))) i = ovl L' (msk W'' g'' (ovl L'' (msk W g e0))) i := by unfold msk; rw [zJI hk.2.1 hi]; rfl
 rw [h1, zDx hk.2.2.1 i hi]
 have h2 : msk W'' g'' (ovl L'' (msk W g e0)) i = ovl L'' (msk W g e0) i := by unfold msk; rw [zJI hk.2.2.2.1 hi]; rfl
 rw [h2]
 exact zDw hk.2.2.2.2 i hi
theorem memT {w : World} {L : zI} {x : Nat × Obj} (h : Mem w L) (hx : x ∈ L) : Mem w [x] := h.sub (by intro p hp; rw [List.mem_singleton] at hp; exact hp ▸ hx)
theorem zI0 {w : World} {L F : zI} {x y : Nat × Obj} (h : Mem w L) (hx : x ∈ L) (hy : y ∈ L) (hF : Mem w F) : Mem w (x :: y :: F) := fun p hp => by
 rcases List.mem_cons.1 hp with rfl | hp
 ·exact h _ hx
 ·rcases List.mem_cons.1 hp with rfl | hp
  ·exact h _ hy
  ·exact hF _ hp
end Go.Sk
