/- Texts of ours, joined: the steps of the proof, or the claim's theorem. -/
import Derived.Test.YtggolnppckpdlaaGreatQ03
import Derived.Test.YtggolnppckpdlaaGreatQ04
set_option linter.unusedSimpArgs false
set_option linter.unusedVariables false
namespace Go.Proofs.YtggolnppckpdlaaGreat
open Go Go.Sk Go.RowKit
attribute [local irreducible] Go.Calls
def Wr (M : Frag) (pw : Nat) (l : List Nat) : Prop := ∃ a cap M2, M = cb pw [.slice a l.length cap] 90 :: M2 ∧ Own M2 5 1 a l.length cap (wrB l)
def WrR (G : Frag) (pw : Nat) (l : List Nat) : Frag → Value → Prop := fun N v => v = .tuple #[] ∧ ∃ M', N = M' ++ G ∧ Wr M' pw l
abbrev ptr (b : Nat) : Value := .pointer (some ⟨b, 0, none⟩)
theorem Wr.mk {pw : Nat} {a : Option Addr} {cap n : Nat} {M2 : Frag} {l : List Nat} {xs : List Value} (hO : Own M2 5 1 a n cap xs) (hx : xs = wrB l) (hn : n = l.length) : Wr (cb pw [.slice a n cap] 90 :: M2) pw l := by
  subst hn; subst hx; exact ⟨a, cap, M2, rfl, hO⟩
theorem w8 (n : Nat) : IntKind.u8.wrap ((n : Nat) : Int) = ((n % 256 : Nat) : Int) := by
  simp [IntKind.wrap, IntKind.bits, IntKind.signed]
theorem c_fixed1 {w0 w : World} {M G : Frag} {pw : Nat} {l : List Nat} {q : Int} (n : Nat) (hq : q = (n : Int)) (H : St w0 (M ++ G) w) (hM : Wr M pw l) (hl : l.length ≤ 70368744177664) :
    Calls Tryz.prog 113 [ptr pw, .int .u64 q, .int .i64 1].toArray w (RetF (WrR G pw (l ++ [n % 256])) w0) := by
  subst hq
  obtain ⟨a, cap, M2, rfl, hO⟩ := hM
  replace H : St w0 (cb pw [.slice a l.length cap] 90 :: (M2 ++ G)) w := H
  refine enter [] Tryz.func113 rfl Tryz.ntmps113 rfl rfl ?_
  repeat' (first | refine y1 sg ?_ | refine y3 ?_ | refine y7 sg H ?_ | (refine y11 sg H ?_; intro w H) | ((with_reducible apply OX.buildS sg H); exact rfl; exact rfl; exact rfl; exact rfl; exact rfl; exact rfl; exact rfl; exact rfl; exact rfl; exact rfl; intro b w H _) | (have hp := H.perm (perm2 M2 G); refine OX.append sg 1 1 (M := M2) hp rfl rfl rfl rfl rfl rfl rfl rfl rfl rfl rfl hO (Src.whole hp.mem (List.mem_append_right _ (List.Mem.head _))) rfl (oneAll rfl) (by unfold maxLen; omega) (by omega) ?_; clear hp hO; intro a cap M2 w hO H; replace H := (H.perm (perm2 M2 G).symm).sub (List.sublist_cons_self _ _)) | with_reducible apply OW.nil | with_reducible apply thn_n | with_reducible apply CW.seq | refine CW.region ?_ | with_reducible apply CW.block | with_reducible apply CW.exit | with_reducible apply CW.skip | with_reducible apply thn_e | refine y24 ?_ | refine y25 ?_ | refine y22 ?_ | fail)
  exact retVFn (vs := []) trivial H ⟨rfl, _, rfl, Wr.mk hO (by rw [← wrB_app]; simp [wrB, w8]) (by simp)⟩
theorem fdivN (n m : Nat) : (n : Int).fdiv (2 ^ m) = ((n / 2 ^ m : Nat) : Int) := by
  rw [Int.fdiv_eq_ediv_of_nonneg _ (by exact Int.pow_nonneg (by decide))]
  push_cast
  rfl
theorem shr8 (n m : Nat) : IntKind.u8.wrap ((n : Int).fdiv (2 ^ m)) = ((n / 2 ^ m % 256 : Nat) : Int) := by
  rw [← w8]
  congr 1
  rw [Int.fdiv_eq_ediv_of_nonneg _ (by exact Int.pow_nonneg (by decide))]
  push_cast
  rfl
def be4 (n : Nat) : List Nat := [n / 2 ^ 24 % 256, n / 2 ^ 16 % 256, n / 2 ^ 8 % 256, n % 256]
def be8 (n : Nat) : List Nat := [n / 2 ^ 56 % 256, n / 2 ^ 48 % 256, n / 2 ^ 40 % 256, n / 2 ^ 32 % 256, n / 2 ^ 24 % 256, n / 2 ^ 16 % 256, n / 2 ^ 8 % 256, n % 256]
theorem c_fixed4 {w0 w : World} {M G : Frag} {pw : Nat} {l : List Nat} {q : Int} (n : Nat) (hq : q = (n : Int)) (H : St w0 (M ++ G) w) (hM : Wr M pw l) (hl : l.length ≤ 70368744177664) :
    Calls Tryz.prog 113 [ptr pw, .int .u64 q, .int .i64 4].toArray w (RetF (WrR G pw (l ++ be4 n)) w0) := by
  subst hq
  obtain ⟨a, cap, M2, rfl, hO⟩ := hM
  replace H : St w0 (cb pw [.slice a l.length cap] 90 :: (M2 ++ G)) w := H
  refine enter [] Tryz.func113 rfl Tryz.ntmps113 rfl rfl ?_
  repeat' (first | refine y1 sg ?_ | refine y3 ?_ | refine y7 sg H ?_ | (refine y11 sg H ?_; intro w H) | ((with_reducible apply OX.buildS sg H); exact rfl; exact rfl; exact rfl; exact rfl; exact rfl; exact rfl; exact rfl; exact rfl; exact rfl; exact rfl; intro b w H _) | (have hp := H.perm (perm2 M2 G); refine OX.append sg 1 1 (M := M2) hp rfl rfl rfl rfl rfl rfl rfl rfl rfl rfl rfl hO (Src.whole hp.mem (List.mem_append_right _ (List.Mem.head _))) rfl (oneAll rfl) (by unfold maxLen; omega) (by omega) ?_; clear hp hO; intro a cap M2 w hO H; replace H := (H.perm (perm2 M2 G).symm).sub (List.sublist_cons_self _ _)) | with_reducible apply OW.nil | with_reducible apply thn_n | with_reducible apply CW.seq | refine CW.region ?_ | with_reducible apply CW.block | with_reducible apply CW.exit | with_reducible apply CW.skip | with_reducible apply blk_n | refine y24 ?_ | refine y21 ?_ | refine y22 ?_ | fail)
  exact retVFn (vs := []) trivial H ⟨rfl, _, rfl, Wr.mk hO (by rw [← wrB_app]; simp [wrB, w8, shr8, be4]; repeat (first | exact rfl | refine ⟨rfl, ?_⟩)) (by simp [be4])⟩
theorem c_fixed8 {w0 w : World} {M G : Frag} {pw : Nat} {l : List Nat} {q : Int} (n : Nat) (hq : q = (n : Int)) (H : St w0 (M ++ G) w) (hM : Wr M pw l) (hl : l.length ≤ 70368744177664) :
    Calls Tryz.prog 113 [ptr pw, .int .u64 q, .int .i64 8].toArray w (RetF (WrR G pw (l ++ be8 n)) w0) := by
  subst hq
  obtain ⟨a, cap, M2, rfl, hO⟩ := hM
  replace H : St w0 (cb pw [.slice a l.length cap] 90 :: (M2 ++ G)) w := H
  refine enter [] Tryz.func113 rfl Tryz.ntmps113 rfl rfl ?_
  repeat' (first | refine y1 sg ?_ | refine y3 ?_ | refine y7 sg H ?_ | (refine y11 sg H ?_; intro w H) | ((with_reducible apply OX.buildS sg H); exact rfl; exact rfl; exact rfl; exact rfl; exact rfl; exact rfl; exact rfl; exact rfl; exact rfl; exact rfl; intro b w H _) | (have hp := H.perm (perm2 M2 G); refine OX.append sg 1 1 (M := M2) hp rfl rfl rfl rfl rfl rfl rfl rfl rfl rfl rfl hO (Src.whole hp.mem (List.mem_append_right _ (List.Mem.head _))) rfl (oneAll rfl) (by unfold maxLen; omega) (by omega) ?_; clear hp hO; intro a cap M2 w hO H; replace H := (H.perm (perm2 M2 G).symm).sub (List.sublist_cons_self _ _)) | with_reducible apply OW.nil | with_reducible apply thn_n | with_reducible apply CW.seq | refine CW.region ?_ | with_reducible apply CW.block | with_reducible apply CW.exit | with_reducible apply CW.skip | with_reducible apply blk_n | refine y24 ?_ | refine y21 ?_ | refine y22 ?_ | fail)
  exact retVFn (vs := []) trivial H ⟨rfl, _, rfl, Wr.mk hO (by rw [← wrB_app]; simp [wrB, w8, shr8, be8]; repeat (first | exact rfl | refine ⟨rfl, ?_⟩)) (by simp [be8])⟩
theorem w64u {n : Nat} (h : n < 18446744073709551616) : IntKind.u64.wrap (n : Int) = (n : Int) := u64_id (by omega) (by omega)
theorem c_U8 {w0 w : World} {M G : Frag} {pw : Nat} {l : List Nat} {q : Int} (n : Nat) (hn : n < 256) (hq : q = (n : Int)) (H : St w0 (M ++ G) w) (hM : Wr M pw l) (hl : l.length ≤ 70368744177664) :
    Calls Tryz.prog 99 [ptr pw, .int .u8 q].toArray w (RetF (WrR G pw (l ++ [n])) w0) := by
  subst hq
  refine enter [] Tryz.func99 rfl Tryz.ntmps99 rfl rfl ?_
  repeat' (first | refine y1 sg ?_ | refine y3 ?_ | (refine' y33 ent113 ?_ ?_; rotate_left 2; exact c_fixed1 n (w64u (by omega)) H hM hl; rintro v N w ⟨rfl, M, rfl, hM⟩ H) | with_reducible apply OW.nil | refine CW.region ?_ | fail)
  exact retVFn (vs := []) trivial H ⟨rfl, _, rfl, by rw [Nat.mod_eq_of_lt hn] at hM; exact hM⟩
theorem c_U32 {w0 w : World} {M G : Frag} {pw : Nat} {l : List Nat} {q : Int} (n : Nat) (hn : n < 4294967296) (hq : q = (n : Int)) (H : St w0 (M ++ G) w) (hM : Wr M pw l) (hl : l.length ≤ 70368744177664) :
    Calls Tryz.prog 41 [ptr pw, .int .u32 q].toArray w (RetF (WrR G pw (l ++ be4 n)) w0) := by
  subst hq
  refine enter [] Tryz.func41 rfl Tryz.ntmps41 rfl rfl ?_
  repeat' (first | refine y1 sg ?_ | refine y3 ?_ | (refine' y33 ent113 ?_ ?_; rotate_left 2; exact c_fixed4 n (w64u (by omega)) H hM hl; rintro v N w ⟨rfl, M, rfl, hM⟩ H) | with_reducible apply OW.nil | refine CW.region ?_ | fail)
  exact retVFn (vs := []) trivial H ⟨rfl, _, rfl, hM⟩
theorem c_U64 {w0 w : World} {M G : Frag} {pw : Nat} {l : List Nat} {q : Int} (n : Nat) (hq : q = (n : Int)) (H : St w0 (M ++ G) w) (hM : Wr M pw l) (hl : l.length ≤ 70368744177664) :
    Calls Tryz.prog 40 [ptr pw, .int .u64 q].toArray w (RetF (WrR G pw (l ++ be8 n)) w0) := by
  subst hq
  refine enter [] Tryz.func40 rfl Tryz.ntmps40 rfl rfl ?_
  repeat' (first | refine y1 sg ?_ | refine y3 ?_ | (refine' y33 ent113 ?_ ?_; rotate_left 2; exact c_fixed8 n rfl H hM hl; rintro v N w ⟨rfl, M, rfl, hM⟩ H) | with_reducible apply OW.nil | refine CW.region ?_ | fail)
  exact retVFn (vs := []) trivial H ⟨rfl, _, rfl, hM⟩
def short (n : Nat) : List Nat := if h : n < 128 then [n] else (n % 128 + 128) :: short (n / 128)
termination_by n
decreasing_by omega
theorem short_lt {n : Nat} (h : n < 128) : short n = [n] := by rw [short, dif_pos h]
theorem short_ge {n : Nat} (h : ¬ n < 128) : short n = (n % 128 + 128) :: short (n / 128) := by rw [short, dif_neg h]
theorem or128 (n : Nat) : IntKind.u8.wrap ((BitVec.ofInt IntKind.u8.bits (IntKind.u8.wrap (n : Int)) ||| BitVec.ofInt IntKind.u8.bits 128).toNat : Int) = ((n % 128 + 128 : Nat) : Int) := by
  rw [w8, w8]
  congr 1
  have h1 : (BitVec.ofInt IntKind.u8.bits ((n % 256 : Nat) : Int)) = BitVec.ofNat 8 (n % 256) := by
    apply BitVec.eq_of_toNat_eq
    simp [IntKind.bits]
    omega
  have h2 : (BitVec.ofInt IntKind.u8.bits 128) = BitVec.ofNat 8 128 := rfl
  rw [h1, h2]
  have : ∀ x : Fin 256, (BitVec.ofNat 8 x.1 ||| BitVec.ofNat 8 128).toNat % 256 = x.1 % 128 + 128 := by decide +kernel
  have h3 := this ⟨n % 256, by omega⟩
  refine Eq.trans h3 ?_
  simp only
  omega
theorem short_len : ∀ (k n : Nat), n < 128 ^ (k + 1) → (short n).length ≤ k + 1
  | 0, n, h => by rw [short_lt (by simpa using h)]; simp
  | k + 1, n, h => by
    by_cases g : n < 128
    · rw [short_lt g]; simp
    · rw [short_ge g, List.length_cons]
      have := short_len k (n / 128) (by rw [Nat.div_lt_iff_lt_mul (by decide)]; rw [Nat.pow_succ] at h; exact h)
      omega
theorem short_len10 {n : Nat} (h : n < 18446744073709551616) : (short n).length ≤ 10 := short_len 9 n (by rw [show 128 ^ (9 + 1) = 1180591620717411303424 from by decide]; omega)
theorem c_Short {w0 w : World} {M G : Frag} {pw : Nat} {l : List Nat} {q : Int} (n : Nat) (hn : n < 18446744073709551616) (hq : q = (n : Int)) (H : St w0 (M ++ G) w) (hM : Wr M pw l) (hl : l.length ≤ 35184372088832) :
    Calls Tryz.prog 186 [ptr pw, .int .u64 q].toArray w (RetF (WrR G pw (l ++ short n)) w0) := by
  subst hq
  have h10 := short_len10 hn
  refine enter [] Tryz.func186 rfl Tryz.ntmps186 rfl rfl ?_
  repeat' (first | with_reducible apply CW.seq | with_reducible apply CW.block | fail)
  refine CW.loopI [(1, 1), (4, 12)] (fun x : Nat × List Nat × Frag => [(1, .int .u64 (x.1 : Int))]) (fun x w => St w0 (x.2.2 ++ G) w ∧ Wr x.2.2 pw x.2.1 ∧ x.1 ≤ n ∧ x.2.1 ++ short x.1 = l ++ short n) (fun x => x.1) (n, l, M) ⟨rfl, trivial⟩ ⟨H, hM, Nat.le_refl _, rfl⟩ ?_
  clear H hM
  rintro ⟨k, lk, M⟩ gh w ⟨H, hM, hkn, he⟩
  simp only at H hM hkn he ⊢
  have hb : lk.length + (short k).length = l.length + (short n).length := by rw [← List.length_append, he, List.length_append]
  repeat' (first | refine y1 sg ?_ | with_reducible apply OW.nil | with_reducible apply thn_n | with_reducible apply CW.seq | refine CW.region ?_ | fail)
  refine CW.cond rfl (fun h => ?_) (fun h => ?_)
  · have hge : ¬ k < 128 := by have := of_decide_eq_true h; omega
    clear h
    repeat' (first | refine y1 sg ?_ | refine y3 ?_ | (refine' y33 ent99 ?_ ?_; rotate_left 2; exact c_U8 (k % 128 + 128) (by omega) (or128 k) H hM (by omega); rintro v N w ⟨rfl, M, rfl, hM⟩ H) | with_reducible apply OW.nil | with_reducible apply thn_n | with_reducible apply CW.seq | refine CW.region ?_ | with_reducible apply CW.block | with_reducible apply CW.skip | fail)
    rw [short_ge hge] at he
    exact Again.mk (k / 128, lk ++ [k % 128 + 128], M) rfl ⟨congrArg (Value.int .u64) (fdivN k 7), trivial⟩ ⟨H, hM, by simp only; omega, by rw [← he]; simp⟩ (by simp only; omega)
  · have hlt : k < 128 := by have := of_decide_eq_false h; omega
    clear h
    rw [short_lt hlt] at he
    repeat' (first | refine y1 sg ?_ | refine y3 ?_ | (refine' y33 ent99 ?_ ?_; rotate_left 2; exact c_U8 k (by omega) (by rw [w8, Nat.mod_eq_of_lt (by omega)]) H hM (by omega); rintro v N w ⟨rfl, M, rfl, hM⟩ H) | with_reducible apply OW.nil | refine CW.region ?_ | with_reducible apply CW.exit | fail)
    exact retVFn (vs := []) trivial H ⟨rfl, _, rfl, by rw [he] at hM; exact hM⟩
theorem c_WRaw {w0 w : World} {M G : Frag} {pw : Nat} {l : List Nat} (s : ByteArray) (hs : s.size ≤ 35184372088832) (H : St w0 (M ++ G) w) (hM : Wr M pw l) (hl : l.length ≤ 35184372088832) :
    Calls Tryz.prog 39 [ptr pw, .string s].toArray w (RetF (WrR G pw (l ++ strL s)) w0) := by
  obtain ⟨a, cap, M2, rfl, hO⟩ := hM
  replace H : St w0 (cb pw [.slice a l.length cap] 90 :: (M2 ++ G)) w := H
  refine enter [] Tryz.func39 rfl Tryz.ntmps39 rfl rfl ?_
  repeat' (first | refine y1 sg ?_ | refine y3 ?_ | refine y7 sg H ?_ | (refine y11 sg H ?_; intro w H) | (have hp := H.perm (perm1 M2 G); refine OX.appendS sg (M := M2) hp rfl rfl rfl rfl rfl rfl rfl rfl rfl rfl rfl rfl rfl hO (by omega) ?_; clear hp hO; intro a cap M2 w hO H; replace H := H.perm (perm1 M2 G).symm) | with_reducible apply OW.nil | with_reducible apply thn_n | with_reducible apply CW.seq | refine CW.region ?_ | refine y21 ?_ | fail)
  exact retVFn (vs := []) trivial H ⟨rfl, _, rfl, Wr.mk hO (wrB_app _ _) (by rw [List.length_append, strL_len])⟩
theorem c_WText {w0 w : World} {M G : Frag} {pw : Nat} {l : List Nat} (s : ByteArray) (hs : s.size ≤ 35184372088832) (H : St w0 (M ++ G) w) (hM : Wr M pw l) (hl : l.length ≤ 17592186044416) :
    Calls Tryz.prog 90 [ptr pw, .string s].toArray w (RetF (WrR G pw (l ++ (short s.size ++ strL s))) w0) := by
  have h10 := short_len10 (n := s.size) (by omega)
  refine enter [] Tryz.func90 rfl Tryz.ntmps90 rfl rfl ?_
  repeat' (first | refine y1 sg ?_ | refine y3 ?_ | (refine' y33 ent186 ?_ ?_; rotate_left 2; exact c_Short s.size (by omega) (w64u (by omega)) H hM (by omega); rintro v N w ⟨rfl, M, rfl, hM⟩ H) | (refine' y33 ent39 ?_ ?_; rotate_left 2; exact c_WRaw s hs H hM (by rw [List.length_append]; omega); rintro v N w ⟨rfl, M, rfl, hM⟩ H) | with_reducible apply OW.nil | with_reducible apply thn_n | with_reducible apply CW.seq | refine CW.region ?_ | fail)
  exact retVFn (vs := []) trivial H ⟨rfl, _, rfl, by rw [← List.append_assoc]; exact hM⟩
theorem wrB_flat (l : List Nat) : (List.range l.length).flatMap (u8c l) = wrB l := by
  have : ∀ k, k ≤ l.length → (List.range k).flatMap (u8c l) = wrB (l.take k) := by
    intro k
    induction k with
    | zero => intro _; rfl
    | succ k ih =>
      intro hk
      rw [List.range_succ, List.flatMap_append, ih (by omega), List.flatMap_singleton, List.take_succ_eq_append_getElem (by omega), ← wrB_app]
      congr 1
      simp [u8c, wrB, List.getElem?_eq_getElem (show k < l.length by omega)]
  rw [this _ (Nat.le_refl _), List.take_length]
theorem c_WBytes {F : Frag} {pw : Nat} {l : List Nat} {M : Frag} (w0 : World) (hF : Mem w0 F) (hs : M ⊆ F) (hM : Wr M pw l) (hl : l.length ≤ 140737488355328) :
    Calls Tryz.prog 38 [ptr pw].toArray w0 (Ret (.string (bytesOf l)) w0) := by
  obtain ⟨a, cap, M2, rfl, hO⟩ := hM
  rw [← wrB_flat] at hO
  obtain ⟨_, _, b, off, cs, T, fr, hB⟩ := Own.sl hO (F := F) (fun x hx => hs (List.Mem.tail _ hx)) (fun j _ => rfl) hl
  refine enter [.tmp 2] Tryz.func38 rfl Tryz.ntmps38 rfl rfl ?_
  have H := St.start w0
  repeat' (first | refine y1 sg ?_ | refine y3 ?_ | ((with_reducible apply OX.val); exact rfl; exact rfl; exact Yq.loadS sg rfl rfl (H.memF hF) (hs (List.Mem.head _)) rfl rfl) | (refine OX.val rfl rfl (Yq.toStr sg hB rfl (H.memF hF) rfl rfl rfl rfl rfl rfl rfl rfl) ?_) | with_reducible apply OW.nil | with_reducible apply thn_n | with_reducible apply CW.seq | refine CW.region ?_ | with_reducible apply CW.ret | with_reducible apply CW.skip | refine y22 ?_ | fail)
  exact ret1 rfl H.cl rfl
theorem bytesOf_size (l : List Nat) : (bytesOf l).size = l.length := by simp [bytesOf, ByteArray.size]
theorem c_WLen {F : Frag} {pw : Nat} {l : List Nat} {M : Frag} (w0 : World) (hF : Mem w0 F) (hs : M ⊆ F) (hM : Wr M pw l) (hl : l.length ≤ 140737488355328) :
    Calls Tryz.prog 37 [ptr pw].toArray w0 (Ret (.int .i64 l.length) w0) := by
  refine enter [.tmp 2] Tryz.func37 rfl Tryz.ntmps37 rfl rfl ?_
  have H := St.start w0
  repeat' (first | refine y1 sg ?_ | refine y3 ?_ | (refine' y30 ent38 ?_ ?_; rotate_left; exact c_WBytes _ (H.memF hF) hs hM hl; intro w hcl; replace H := H.ext hcl; clear hcl) | with_reducible apply OW.nil | with_reducible apply thn_n | with_reducible apply CW.seq | refine CW.region ?_ | with_reducible apply CW.ret | fail)
  exact ret1 rfl H.cl (congrArg (Value.int .i64) (by rw [bytesOf_size]))
end Go.Proofs.YtggolnppckpdlaaGreat
