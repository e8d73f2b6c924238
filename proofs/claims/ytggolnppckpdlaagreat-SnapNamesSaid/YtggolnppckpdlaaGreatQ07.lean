/- Texts of ours, joined: the steps of the proof, or the claim's theorem. -/
import Derived.Test.YtggolnppckpdlaaGreatQ06
set_option linter.unusedSimpArgs false
set_option linter.unusedVariables false
namespace Go.Proofs.YtggolnppckpdlaaGreat
open Go Go.Sk Go.RowKit
attribute [local irreducible] Go.Calls
def beV (l : List Nat) : Nat := l.foldl (fun n b => n * 256 + b) 0
theorem beV_snoc (l : List Nat) (b : Nat) : beV (l ++ [b]) = beV l * 256 + b := by simp [beV]
theorem beV_lt {l : List Nat} (h : Byt l) : ∀ k, beV (l.take k) < 256 ^ k
  | 0 => by simp [beV]
  | k + 1 => by
    have ih := beV_lt h k
    rw [Nat.pow_succ]
    by_cases g : k < l.length
    · rw [List.take_succ_eq_append_getElem g, beV_snoc]
      have := h l[k] (List.getElem_mem g)
      omega
    · rw [List.take_of_length_le (by omega)] at ih ⊢; omega
def beK : Nat → Nat → List Nat
  | 1, n => [n % 256]
  | 4, n => be4 n
  | _, n => be8 n
theorem be1_V {a : Nat} (ha : a < 256) : beK 1 (beV [a]) = [a] := by simp [beK, beV]; omega
theorem be4_V {a b c d : Nat} (ha : a < 256) (hb : b < 256) (hc : c < 256) (hd : d < 256) : beK 4 (beV [a, b, c, d]) = [a, b, c, d] := by simp [beK, be4, beV]; omega
theorem be8_V {a b c d e f g h : Nat} (ha : a < 256) (hb : b < 256) (hc : c < 256) (hd : d < 256) (he : e < 256) (hf : f < 256) (hg : g < 256) (hh : h < 256) : beK 8 (beV [a, b, c, d, e, f, g, h]) = [a, b, c, d, e, f, g, h] := by simp [beK, be8, beV]; omega
theorem V_be1 {n : Nat} (h : n < 256) : beV (beK 1 n) = n := by simp [beK, beV]; omega
theorem V_be4 {n : Nat} (h : n < 4294967296) : beV (beK 4 n) = n := by simp [beK, be4, beV]; omega
theorem V_be8 {n : Nat} (h : n < 18446744073709551616) : beV (beK 8 n) = n := by simp [beK, be8, beV]; omega
theorem len1 {l : List Nat} (h : l.length = 1) : ∃ a, l = [a] := List.length_eq_one_iff.1 h
theorem len4 {l : List Nat} (h : l.length = 4) : ∃ a b c d, l = [a, b, c, d] := by
  match l, h with
  | [a, b, c, d], _ => exact ⟨a, b, c, d, rfl⟩
theorem len8 {l : List Nat} (h : l.length = 8) : ∃ a b c d e f g i, l = [a, b, c, d, e, f, g, i] := by
  match l, h with
  | [a, b, c, d, e, f, g, i], _ => exact ⟨a, b, c, d, e, f, g, i, rfl⟩
theorem beK_V1 {l : List Nat} (hb : Byt l) (h : l.length = 1) : beK 1 (beV l) = l := by
  obtain ⟨a, rfl⟩ := len1 h
  exact be1_V (hb a (by simp))
theorem beK_V4 {l : List Nat} (hb : Byt l) (h : l.length = 4) : beK 4 (beV l) = l := by
  obtain ⟨a, b, c, d, rfl⟩ := len4 h
  exact be4_V (hb a (by simp)) (hb b (by simp)) (hb c (by simp)) (hb d (by simp))
theorem beK_V8 {l : List Nat} (hb : Byt l) (h : l.length = 8) : beK 8 (beV l) = l := by
  obtain ⟨a, b, c, d, e, f, g, i, rfl⟩ := len8 h
  exact be8_V (hb a (by simp)) (hb b (by simp)) (hb c (by simp)) (hb d (by simp)) (hb e (by simp)) (hb f (by simp)) (hb g (by simp)) (hb i (by simp))
theorem or8 {n b : Nat} (hn : n < 72057594037927936) (hb : b < 256) :
    IntKind.u64.wrap ((BitVec.ofInt IntKind.u64.bits (IntKind.u64.wrap ((n : Int) * 2 ^ (min 8 IntKind.u64.bits))) ||| BitVec.ofInt IntKind.u64.bits (b : Int)).toNat : Int) = ((n * 256 + b : Nat) : Int) := by
  have h1 : (n : Int) * 2 ^ (min 8 IntKind.u64.bits) = ((n * 256 : Nat) : Int) := by
    rw [show min 8 IntKind.u64.bits = 8 from by decide, Int.natCast_mul]; rfl
  rw [h1, w64u (n := n * 256) (by omega), BitVec.ofInt_natCast, BitVec.ofInt_natCast, BitVec.toNat_or, BitVec.toNat_ofNat, BitVec.toNat_ofNat, show n * 256 % 2 ^ IntKind.u64.bits = n * 256 from Nat.mod_eq_of_lt (show n * 256 < 2 ^ 64 by omega), show b % 2 ^ IntKind.u64.bits = b from Nat.mod_eq_of_lt (show b < 2 ^ 64 by omega)]
  have := Nat.two_pow_add_eq_or_of_lt (i := 8) (b := b) (by omega) n
  rw [Nat.mul_comm] at this
  rw [← this, w64u (by omega)]
def fixP (K : Nat) (x : Nat) (l : List Nat) : Prop := x < 256 ^ K ∧ l = beK K x
def FixR (pr : Nat) (s : ByteArray) (G : Frag) (p : Rs) (K : Nat) (q : IntKind) : Frag → Value → Prop := fun N v => ∃ (x : Nat) (p' : Rs), v = .int q (x : Int) ∧ N = rd pr s p' :: G ∧ x < 256 ^ K ∧ p'.bad = p.bad ∧ Step (strL s) (fixP K) p p' x
theorem byt_V {l : List Nat} (h : Byt l) {K : Nat} (hK : l.length = K) : beV l < 256 ^ K := by
  have := beV_lt h l.length
  rw [List.take_length] at this
  rw [← hK]; exact this
theorem wrK8 {n : Nat} (h : n < 256 ^ 1) : IntKind.u8.wrap (n : Int) = (n : Int) := by rw [w8, Nat.mod_eq_of_lt (by omega)]
theorem wrK32 {n : Nat} (h : n < 256 ^ 4) : IntKind.u32.wrap (n : Int) = (n : Int) := by
  have h' : n < 4294967296 := h
  have : IntKind.u32.wrap ((n : Nat) : Int) = ((n % 4294967296 : Nat) : Int) := by simp [IntKind.wrap, IntKind.bits, IntKind.signed]
  rw [this, Nat.mod_eq_of_lt h']
theorem c_rfix1 {w0 w : World} {G : Frag} {pr : Nat} {s : ByteArray} {p : Rs} (hp : p.pos ≤ s.size) (hs : s.size ≤ 1073741824) (H : St w0 (rd pr s p :: G) w) :
    Calls Tryz.prog 191 [ptr pr, .int .i64 1].toArray w (RetF (FixR pr s G p 1 .u8) w0) := by
  have hlen := strL_len s
  have hbt := byt_str s
  by_cases he : p.e = 0
  · by_cases hn : p.pos + 1 ≤ s.size
    · have hxs : (s.extract p.pos (p.pos + 1)).size = 1 := by rw [← strL_len, strL_extract, List.length_take, List.length_drop]; omega
      have hL : strL (s.extract p.pos (p.pos + 1)) = ((strL s).drop p.pos).take 1 := by rw [strL_extract]; congr 1; omega
      obtain ⟨x, hx⟩ : ∃ x, s.extract p.pos (p.pos + 1) = x := ⟨_, rfl⟩
      have hbx := byt_str x
      have hxl : (strL x).length = 1 := by rw [strL_len, ← hx]; exact hxs
      rw [hx] at hL hxs
      refine enter [.tmp 4] Tryz.func191 rfl Tryz.ntmps191 rfl rfl ?_
      repeat' (first | refine y1 sg ?_ | refine y3 ?_ | (refine' y33 ent116 ?_ ?_; rotate_left 2; exact (hx ▸ c_takeG 1 rfl he hs hn H); rintro v N w ⟨rfl, rfl⟩ H) | with_reducible apply OW.nil | with_reducible apply thn_n | with_reducible apply CW.seq | refine CW.region ?_ | with_reducible apply CW.block | fail)
      refine CW.loopI [(7, 8), (17, 27)] (fun i : Nat => [(7, .int .u64 ((beV ((strL x).take i) : Nat) : Int)), (17, .int .i64 ((i : Nat) : Int))]) (fun i w => St w0 (rd pr s ⟨p.pos + 1, p.e, p.to, p.bad⟩ :: G) w ∧ i ≤ 1) (fun i => 1 - i) 0 ⟨rfl, rfl, trivial⟩ ⟨H, by omega⟩ ?_
      clear H
      rintro i gh w ⟨H, hi⟩
      have hV := beV_lt hbx i
      by_cases hik : i < 1
      · have hd : decide ((i : Int) < (x.size : Int)) = true := decide_eq_true (by omega)
        obtain ⟨b, hb⟩ : ∃ b, byteAt x i = b := ⟨_, rfl⟩
        have hb8 : b < 256 := hb ▸ byteAt_lt x i
        have hv : IntKind.u64.wrap (b : Int) = (b : Int) := w64u (by omega)
        have hnx : beV ((strL x).take (i + 1)) = beV ((strL x).take i) * 256 + b := by
          rw [List.take_succ_eq_append_getElem (by omega), beV_snoc, ← hb, ← strL_at' x (by omega)]
          simp [List.getElem?_eq_getElem (show i < (strL x).length by omega)]
        have hVs : beV ((strL x).take i) < 72057594037927936 := Nat.lt_of_lt_of_le hV (Nat.le_trans (Nat.pow_le_pow_right (by decide) (show i ≤ 7 by omega)) (by decide))
        repeat' (first | refine y1 sg ?_ | refine y3 ?_ | (refine OX.val rfl rfl (Yq.strIxB sg hb rfl rfl rfl rfl rfl (Int.toNat_natCast _) (by omega) (by omega)) ?_) | with_reducible apply OW.nil | with_reducible apply thn_n | with_reducible apply CW.seq | refine CW.region ?_ | with_reducible apply CW.block | with_reducible apply CW.skip | (refine y23 ?_ ?_; all_goals (intro h; try (exfalso; first | ((rw [hd] at h; cases h); done)))) | fail)
        exact Again.mk (i + 1) rfl ⟨congrArg (Value.int .u64) (by rw [hv, or8 hVs hb8, hnx]), congrArg (Value.int .i64) (by rw [w64 (by omega) (by omega)]; omega), trivial⟩ ⟨H, by omega⟩ (by omega)
      · have hd : decide ((i : Int) < (x.size : Int)) = false := decide_eq_false (by omega)
        have hVK : beV (strL x) < 256 ^ 1 := byt_V hbx hxl
        have hall : (strL x).take i = strL x := List.take_of_length_le (by omega)
        have hdrop : (strL s).drop p.pos = strL x ++ (strL s).drop (p.pos + 1) := by rw [hL, ← List.drop_drop, List.take_append_drop]
        repeat' (first | refine y1 sg ?_ | with_reducible apply OW.nil | with_reducible apply thn_n | with_reducible apply CW.seq | refine CW.region ?_ | with_reducible apply CW.ret | with_reducible apply CW.exit | with_reducible apply thn_e | refine y24 ?_ | (refine y23 ?_ ?_; all_goals (intro h; try (exfalso; first | ((rw [hd] at h; cases h); done)))) | fail)
        refine retVF (vs := [_]) ⟨rdvT rfl, trivial⟩ H ⟨beV (strL x), _, congrArg (Value.int .u8) (by rw [hall]; rw [wrK8 hVK]), rfl, hVK, rfl, by simp only; omega, fun hl => ⟨hl, _, ⟨hVK, (beK_V1 hbx hxl).symm⟩, hdrop⟩, fun hl y l r hy hr => ?_⟩
        obtain ⟨hy1, rfl⟩ := hy
        rw [hdrop] at hr
        obtain ⟨e1, e2⟩ := List.append_inj hr (by rw [hxl]; rfl)
        exact ⟨hl, by rw [e1]; exact V_be1 (by omega), e2⟩
    · refine enter [.tmp 4] Tryz.func191 rfl Tryz.ntmps191 rfl rfl ?_
      repeat' (first | refine y1 sg ?_ | refine y3 ?_ | (refine' y33 ent116 ?_ ?_; rotate_left 2; exact c_takeS 1 rfl he hp hs (by omega) H; rintro v N w ⟨rfl, rfl⟩ H) | with_reducible apply OW.nil | with_reducible apply thn_n | with_reducible apply CW.seq | refine CW.region ?_ | with_reducible apply CW.block | fail)
      refine CW.loopI [(7, 8), (17, 27)] (fun _ : Unit => [(7, .int .u64 0), (17, .int .i64 0)]) (fun _ w => St w0 (rd pr s ⟨p.pos, 8, p.pos, p.bad⟩ :: G) w) (fun _ => 0) () ⟨rfl, rfl, trivial⟩ H ?_
      clear H
      rintro _ gh w H
      repeat' (first | refine y1 sg ?_ | with_reducible apply OW.nil | with_reducible apply thn_n | with_reducible apply CW.seq | refine CW.region ?_ | with_reducible apply CW.ret | with_reducible apply CW.exit | with_reducible apply thn_e | refine y24 ?_ | refine y22 ?_ | fail)
      exact retVF (vs := [_]) ⟨rdvT rfl, trivial⟩ H ⟨0, _, rfl, rfl, by decide, rfl, by simp only; omega, fun h => absurd h.1 (by simp), fun _ y l r hy hr => (by have hle := congrArg List.length hr; rw [List.length_drop, List.length_append, hy.2, show (beK 1 y).length = 1 from rfl] at hle; omega)⟩
  · refine enter [.tmp 4] Tryz.func191 rfl Tryz.ntmps191 rfl rfl ?_
    repeat' (first | refine y1 sg ?_ | refine y3 ?_ | (refine' y33 ent116 ?_ ?_; rotate_left 2; exact c_takeN he H; rintro v N w ⟨rfl, rfl⟩ H) | with_reducible apply OW.nil | with_reducible apply thn_n | with_reducible apply CW.seq | refine CW.region ?_ | with_reducible apply CW.block | fail)
    refine CW.loopI [(7, 8), (17, 27)] (fun _ : Unit => [(7, .int .u64 0), (17, .int .i64 0)]) (fun _ w => St w0 (rd pr s p :: G) w) (fun _ => 0) () ⟨rfl, rfl, trivial⟩ H ?_
    clear H
    rintro _ gh w H
    repeat' (first | refine y1 sg ?_ | with_reducible apply OW.nil | with_reducible apply thn_n | with_reducible apply CW.seq | refine CW.region ?_ | with_reducible apply CW.ret | with_reducible apply CW.exit | with_reducible apply thn_e | refine y24 ?_ | refine y22 ?_ | fail)
    exact retVF (vs := [_]) ⟨rdvT rfl, trivial⟩ H ⟨0, _, rfl, rfl, by decide, rfl, Step.dead (by omega) (fun h => he h.1) (fun h => he h.1)⟩
theorem c_rfix4 {w0 w : World} {G : Frag} {pr : Nat} {s : ByteArray} {p : Rs} (hp : p.pos ≤ s.size) (hs : s.size ≤ 1073741824) (H : St w0 (rd pr s p :: G) w) :
    Calls Tryz.prog 118 [ptr pr, .int .i64 4].toArray w (RetF (FixR pr s G p 4 .u32) w0) := by
  have hlen := strL_len s
  have hbt := byt_str s
  by_cases he : p.e = 0
  · by_cases hn : p.pos + 4 ≤ s.size
    · have hxs : (s.extract p.pos (p.pos + 4)).size = 4 := by rw [← strL_len, strL_extract, List.length_take, List.length_drop]; omega
      have hL : strL (s.extract p.pos (p.pos + 4)) = ((strL s).drop p.pos).take 4 := by rw [strL_extract]; congr 1; omega
      obtain ⟨x, hx⟩ : ∃ x, s.extract p.pos (p.pos + 4) = x := ⟨_, rfl⟩
      have hbx := byt_str x
      have hxl : (strL x).length = 4 := by rw [strL_len, ← hx]; exact hxs
      rw [hx] at hL hxs
      refine enter [.tmp 4] Tryz.func118 rfl Tryz.ntmps118 rfl rfl ?_
      repeat' (first | refine y1 sg ?_ | refine y3 ?_ | (refine' y33 ent116 ?_ ?_; rotate_left 2; exact (hx ▸ c_takeG 4 rfl he hs hn H); rintro v N w ⟨rfl, rfl⟩ H) | with_reducible apply OW.nil | with_reducible apply thn_n | with_reducible apply CW.seq | refine CW.region ?_ | with_reducible apply CW.block | fail)
      refine CW.loopI [(7, 8), (17, 27)] (fun i : Nat => [(7, .int .u64 ((beV ((strL x).take i) : Nat) : Int)), (17, .int .i64 ((i : Nat) : Int))]) (fun i w => St w0 (rd pr s ⟨p.pos + 4, p.e, p.to, p.bad⟩ :: G) w ∧ i ≤ 4) (fun i => 4 - i) 0 ⟨rfl, rfl, trivial⟩ ⟨H, by omega⟩ ?_
      clear H
      rintro i gh w ⟨H, hi⟩
      have hV := beV_lt hbx i
      by_cases hik : i < 4
      · have hd : decide ((i : Int) < (x.size : Int)) = true := decide_eq_true (by omega)
        obtain ⟨b, hb⟩ : ∃ b, byteAt x i = b := ⟨_, rfl⟩
        have hb8 : b < 256 := hb ▸ byteAt_lt x i
        have hv : IntKind.u64.wrap (b : Int) = (b : Int) := w64u (by omega)
        have hnx : beV ((strL x).take (i + 1)) = beV ((strL x).take i) * 256 + b := by
          rw [List.take_succ_eq_append_getElem (by omega), beV_snoc, ← hb, ← strL_at' x (by omega)]
          simp [List.getElem?_eq_getElem (show i < (strL x).length by omega)]
        have hVs : beV ((strL x).take i) < 72057594037927936 := Nat.lt_of_lt_of_le hV (Nat.le_trans (Nat.pow_le_pow_right (by decide) (show i ≤ 7 by omega)) (by decide))
        repeat' (first | refine y1 sg ?_ | refine y3 ?_ | (refine OX.val rfl rfl (Yq.strIxB sg hb rfl rfl rfl rfl rfl (Int.toNat_natCast _) (by omega) (by omega)) ?_) | with_reducible apply OW.nil | with_reducible apply thn_n | with_reducible apply CW.seq | refine CW.region ?_ | with_reducible apply CW.block | with_reducible apply CW.skip | (refine y23 ?_ ?_; all_goals (intro h; try (exfalso; first | ((rw [hd] at h; cases h); done)))) | fail)
        exact Again.mk (i + 1) rfl ⟨congrArg (Value.int .u64) (by rw [hv, or8 hVs hb8, hnx]), congrArg (Value.int .i64) (by rw [w64 (by omega) (by omega)]; omega), trivial⟩ ⟨H, by omega⟩ (by omega)
      · have hd : decide ((i : Int) < (x.size : Int)) = false := decide_eq_false (by omega)
        have hVK : beV (strL x) < 256 ^ 4 := byt_V hbx hxl
        have hall : (strL x).take i = strL x := List.take_of_length_le (by omega)
        have hdrop : (strL s).drop p.pos = strL x ++ (strL s).drop (p.pos + 4) := by rw [hL, ← List.drop_drop, List.take_append_drop]
        repeat' (first | refine y1 sg ?_ | with_reducible apply OW.nil | with_reducible apply thn_n | with_reducible apply CW.seq | refine CW.region ?_ | with_reducible apply CW.ret | with_reducible apply CW.exit | with_reducible apply thn_e | refine y24 ?_ | (refine y23 ?_ ?_; all_goals (intro h; try (exfalso; first | ((rw [hd] at h; cases h); done)))) | fail)
        refine retVF (vs := [_]) ⟨rdvT rfl, trivial⟩ H ⟨beV (strL x), _, congrArg (Value.int .u32) (by rw [hall]; rw [wrK32 hVK]), rfl, hVK, rfl, by simp only; omega, fun hl => ⟨hl, _, ⟨hVK, (beK_V4 hbx hxl).symm⟩, hdrop⟩, fun hl y l r hy hr => ?_⟩
        obtain ⟨hy1, rfl⟩ := hy
        rw [hdrop] at hr
        obtain ⟨e1, e2⟩ := List.append_inj hr (by rw [hxl]; rfl)
        exact ⟨hl, by rw [e1]; exact V_be4 (by omega), e2⟩
    · refine enter [.tmp 4] Tryz.func118 rfl Tryz.ntmps118 rfl rfl ?_
      repeat' (first | refine y1 sg ?_ | refine y3 ?_ | (refine' y33 ent116 ?_ ?_; rotate_left 2; exact c_takeS 4 rfl he hp hs (by omega) H; rintro v N w ⟨rfl, rfl⟩ H) | with_reducible apply OW.nil | with_reducible apply thn_n | with_reducible apply CW.seq | refine CW.region ?_ | with_reducible apply CW.block | fail)
      refine CW.loopI [(7, 8), (17, 27)] (fun _ : Unit => [(7, .int .u64 0), (17, .int .i64 0)]) (fun _ w => St w0 (rd pr s ⟨p.pos, 8, p.pos, p.bad⟩ :: G) w) (fun _ => 0) () ⟨rfl, rfl, trivial⟩ H ?_
      clear H
      rintro _ gh w H
      repeat' (first | refine y1 sg ?_ | with_reducible apply OW.nil | with_reducible apply thn_n | with_reducible apply CW.seq | refine CW.region ?_ | with_reducible apply CW.ret | with_reducible apply CW.exit | with_reducible apply thn_e | refine y24 ?_ | refine y22 ?_ | fail)
      exact retVF (vs := [_]) ⟨rdvT rfl, trivial⟩ H ⟨0, _, rfl, rfl, by decide, rfl, by simp only; omega, fun h => absurd h.1 (by simp), fun _ y l r hy hr => (by have hle := congrArg List.length hr; rw [List.length_drop, List.length_append, hy.2, show (beK 4 y).length = 4 from rfl] at hle; omega)⟩
  · refine enter [.tmp 4] Tryz.func118 rfl Tryz.ntmps118 rfl rfl ?_
    repeat' (first | refine y1 sg ?_ | refine y3 ?_ | (refine' y33 ent116 ?_ ?_; rotate_left 2; exact c_takeN he H; rintro v N w ⟨rfl, rfl⟩ H) | with_reducible apply OW.nil | with_reducible apply thn_n | with_reducible apply CW.seq | refine CW.region ?_ | with_reducible apply CW.block | fail)
    refine CW.loopI [(7, 8), (17, 27)] (fun _ : Unit => [(7, .int .u64 0), (17, .int .i64 0)]) (fun _ w => St w0 (rd pr s p :: G) w) (fun _ => 0) () ⟨rfl, rfl, trivial⟩ H ?_
    clear H
    rintro _ gh w H
    repeat' (first | refine y1 sg ?_ | with_reducible apply OW.nil | with_reducible apply thn_n | with_reducible apply CW.seq | refine CW.region ?_ | with_reducible apply CW.ret | with_reducible apply CW.exit | with_reducible apply thn_e | refine y24 ?_ | refine y22 ?_ | fail)
    exact retVF (vs := [_]) ⟨rdvT rfl, trivial⟩ H ⟨0, _, rfl, rfl, by decide, rfl, Step.dead (by omega) (fun h => he h.1) (fun h => he h.1)⟩
theorem c_rfix8 {w0 w : World} {G : Frag} {pr : Nat} {s : ByteArray} {p : Rs} (hp : p.pos ≤ s.size) (hs : s.size ≤ 1073741824) (H : St w0 (rd pr s p :: G) w) :
    Calls Tryz.prog 117 [ptr pr, .int .i64 8].toArray w (RetF (FixR pr s G p 8 .u64) w0) := by
  have hlen := strL_len s
  have hbt := byt_str s
  by_cases he : p.e = 0
  · by_cases hn : p.pos + 8 ≤ s.size
    · have hxs : (s.extract p.pos (p.pos + 8)).size = 8 := by rw [← strL_len, strL_extract, List.length_take, List.length_drop]; omega
      have hL : strL (s.extract p.pos (p.pos + 8)) = ((strL s).drop p.pos).take 8 := by rw [strL_extract]; congr 1; omega
      obtain ⟨x, hx⟩ : ∃ x, s.extract p.pos (p.pos + 8) = x := ⟨_, rfl⟩
      have hbx := byt_str x
      have hxl : (strL x).length = 8 := by rw [strL_len, ← hx]; exact hxs
      rw [hx] at hL hxs
      refine enter [.tmp 4] Tryz.func117 rfl Tryz.ntmps117 rfl rfl ?_
      repeat' (first | refine y1 sg ?_ | refine y3 ?_ | (refine' y33 ent116 ?_ ?_; rotate_left 2; exact (hx ▸ c_takeG 8 rfl he hs hn H); rintro v N w ⟨rfl, rfl⟩ H) | with_reducible apply OW.nil | with_reducible apply thn_n | with_reducible apply CW.seq | refine CW.region ?_ | with_reducible apply CW.block | fail)
      refine CW.loopI [(7, 8), (17, 27)] (fun i : Nat => [(7, .int .u64 ((beV ((strL x).take i) : Nat) : Int)), (17, .int .i64 ((i : Nat) : Int))]) (fun i w => St w0 (rd pr s ⟨p.pos + 8, p.e, p.to, p.bad⟩ :: G) w ∧ i ≤ 8) (fun i => 8 - i) 0 ⟨rfl, rfl, trivial⟩ ⟨H, by omega⟩ ?_
      clear H
      rintro i gh w ⟨H, hi⟩
      have hV := beV_lt hbx i
      by_cases hik : i < 8
      · have hd : decide ((i : Int) < (x.size : Int)) = true := decide_eq_true (by omega)
        obtain ⟨b, hb⟩ : ∃ b, byteAt x i = b := ⟨_, rfl⟩
        have hb8 : b < 256 := hb ▸ byteAt_lt x i
        have hv : IntKind.u64.wrap (b : Int) = (b : Int) := w64u (by omega)
        have hnx : beV ((strL x).take (i + 1)) = beV ((strL x).take i) * 256 + b := by
          rw [List.take_succ_eq_append_getElem (by omega), beV_snoc, ← hb, ← strL_at' x (by omega)]
          simp [List.getElem?_eq_getElem (show i < (strL x).length by omega)]
        have hVs : beV ((strL x).take i) < 72057594037927936 := Nat.lt_of_lt_of_le hV (Nat.le_trans (Nat.pow_le_pow_right (by decide) (show i ≤ 7 by omega)) (by decide))
        repeat' (first | refine y1 sg ?_ | refine y3 ?_ | (refine OX.val rfl rfl (Yq.strIxB sg hb rfl rfl rfl rfl rfl (Int.toNat_natCast _) (by omega) (by omega)) ?_) | with_reducible apply OW.nil | with_reducible apply thn_n | with_reducible apply CW.seq | refine CW.region ?_ | with_reducible apply CW.block | with_reducible apply CW.skip | (refine y23 ?_ ?_; all_goals (intro h; try (exfalso; first | ((rw [hd] at h; cases h); done)))) | fail)
        exact Again.mk (i + 1) rfl ⟨congrArg (Value.int .u64) (by rw [hv, or8 hVs hb8, hnx]), congrArg (Value.int .i64) (by rw [w64 (by omega) (by omega)]; omega), trivial⟩ ⟨H, by omega⟩ (by omega)
      · have hd : decide ((i : Int) < (x.size : Int)) = false := decide_eq_false (by omega)
        have hVK : beV (strL x) < 256 ^ 8 := byt_V hbx hxl
        have hall : (strL x).take i = strL x := List.take_of_length_le (by omega)
        have hdrop : (strL s).drop p.pos = strL x ++ (strL s).drop (p.pos + 8) := by rw [hL, ← List.drop_drop, List.take_append_drop]
        repeat' (first | refine y1 sg ?_ | with_reducible apply OW.nil | with_reducible apply thn_n | with_reducible apply CW.seq | refine CW.region ?_ | with_reducible apply CW.ret | with_reducible apply CW.exit | with_reducible apply thn_e | refine y24 ?_ | (refine y23 ?_ ?_; all_goals (intro h; try (exfalso; first | ((rw [hd] at h; cases h); done)))) | fail)
        refine retVF (vs := [_]) ⟨rdvT rfl, trivial⟩ H ⟨beV (strL x), _, congrArg (Value.int .u64) (by rw [hall]; skip), rfl, hVK, rfl, by simp only; omega, fun hl => ⟨hl, _, ⟨hVK, (beK_V8 hbx hxl).symm⟩, hdrop⟩, fun hl y l r hy hr => ?_⟩
        obtain ⟨hy1, rfl⟩ := hy
        rw [hdrop] at hr
        obtain ⟨e1, e2⟩ := List.append_inj hr (by rw [hxl]; rfl)
        exact ⟨hl, by rw [e1]; exact V_be8 (by omega), e2⟩
    · refine enter [.tmp 4] Tryz.func117 rfl Tryz.ntmps117 rfl rfl ?_
      repeat' (first | refine y1 sg ?_ | refine y3 ?_ | (refine' y33 ent116 ?_ ?_; rotate_left 2; exact c_takeS 8 rfl he hp hs (by omega) H; rintro v N w ⟨rfl, rfl⟩ H) | with_reducible apply OW.nil | with_reducible apply thn_n | with_reducible apply CW.seq | refine CW.region ?_ | with_reducible apply CW.block | fail)
      refine CW.loopI [(7, 8), (17, 27)] (fun _ : Unit => [(7, .int .u64 0), (17, .int .i64 0)]) (fun _ w => St w0 (rd pr s ⟨p.pos, 8, p.pos, p.bad⟩ :: G) w) (fun _ => 0) () ⟨rfl, rfl, trivial⟩ H ?_
      clear H
      rintro _ gh w H
      repeat' (first | refine y1 sg ?_ | with_reducible apply OW.nil | with_reducible apply thn_n | with_reducible apply CW.seq | refine CW.region ?_ | with_reducible apply CW.ret | with_reducible apply CW.exit | with_reducible apply thn_e | refine y24 ?_ | refine y22 ?_ | fail)
      exact retVF (vs := [_]) ⟨rdvT rfl, trivial⟩ H ⟨0, _, rfl, rfl, by decide, rfl, by simp only; omega, fun h => absurd h.1 (by simp), fun _ y l r hy hr => (by have hle := congrArg List.length hr; rw [List.length_drop, List.length_append, hy.2, show (beK 8 y).length = 8 from rfl] at hle; omega)⟩
  · refine enter [.tmp 4] Tryz.func117 rfl Tryz.ntmps117 rfl rfl ?_
    repeat' (first | refine y1 sg ?_ | refine y3 ?_ | (refine' y33 ent116 ?_ ?_; rotate_left 2; exact c_takeN he H; rintro v N w ⟨rfl, rfl⟩ H) | with_reducible apply OW.nil | with_reducible apply thn_n | with_reducible apply CW.seq | refine CW.region ?_ | with_reducible apply CW.block | fail)
    refine CW.loopI [(7, 8), (17, 27)] (fun _ : Unit => [(7, .int .u64 0), (17, .int .i64 0)]) (fun _ w => St w0 (rd pr s p :: G) w) (fun _ => 0) () ⟨rfl, rfl, trivial⟩ H ?_
    clear H
    rintro _ gh w H
    repeat' (first | refine y1 sg ?_ | with_reducible apply OW.nil | with_reducible apply thn_n | with_reducible apply CW.seq | refine CW.region ?_ | with_reducible apply CW.ret | with_reducible apply CW.exit | with_reducible apply thn_e | refine y24 ?_ | refine y22 ?_ | fail)
    exact retVF (vs := [_]) ⟨rdvT rfl, trivial⟩ H ⟨0, _, rfl, rfl, by decide, rfl, Step.dead (by omega) (fun h => he h.1) (fun h => he h.1)⟩
end Go.Proofs.YtggolnppckpdlaaGreat
