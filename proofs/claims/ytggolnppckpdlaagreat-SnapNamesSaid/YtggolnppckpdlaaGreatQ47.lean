/- Texts of ours, joined: the steps of the proof, or the claim's theorem. -/
import Derived.Test.YtggolnppckpdlaaGreatQ45
set_option linter.unusedSimpArgs false
set_option linter.unusedVariables false
namespace Go.Proofs.YtggolnppckpdlaaGreat
open Go Go.Sk Go.RowKit
attribute [local irreducible] Go.Calls
def manyC (n c i : Nat) : List Value := List.replicate i (Value.int .u8 (c : Int)) ++ List.replicate (n - i) (Value.int .u8 0)
theorem manyC_len {n c i : Nat} (h : i ≤ n) : (manyC n c i).length = n := by simp [manyC]; omega
theorem manyC_next {n c i : Nat} (h : i < n) : wr (manyC n c i) i [Value.int .u8 (c : Int)] = manyC n c (i + 1) := by
  obtain ⟨m, rfl⟩ : ∃ m, n = i + 1 + m := ⟨n - i - 1, by omega⟩
  unfold wr manyC
  rw [show i + 1 + m - i = m + 1 by omega, show i + 1 + m - (i + 1) = m by omega, List.replicate_succ]
  rw [List.take_left' (by simp), List.drop_append]
  simp [List.replicate_succ', List.append_assoc]
theorem c_manyS (n c : Nat) (hn : n ≤ 16777216) (w0 : World) : Calls Tryz.prog 19 [.int .i64 (n : Int), .int .u8 (c : Int)].toArray w0 (Ret (.string (bytesOf (List.replicate n c))) w0) := by
  refine enter [.tmp 4] Tryz.func19 rfl Tryz.ntmps19 rfl rfl ?_
  have H := St.start w0
  repeat' (first | refine y1 sg ?_ | refine y3 ?_ | (refine OX.makeB sg H rfl hn rfl rfl rfl rfl rfl rfl rfl rfl rfl rfl rfl ?_; intro b w H) | with_reducible apply OW.nil | with_reducible apply thn_n | with_reducible apply CW.seq | refine CW.region ?_ | with_reducible apply CW.block | fail)
  refine CW.loopI [(6, 6), (9, 17)] (fun i : Nat => [(6, .int .i64 (i : Int))]) (fun i w => St w0 [cb b (manyC n c i) 5] w ∧ i ≤ n) (fun i => n - i) 0 ⟨rfl, trivial⟩ ⟨H, Nat.zero_le _⟩ ?_
  clear H
  rintro i gh w ⟨H, hi⟩
  have hlen := manyC_len (c := c) hi
  by_cases hin : i < n
  · have d1 : decide ((i : Int) < (n : Int)) = true := decide_eq_true (by omega)
    have hs : SlB [cb b (manyC n c i) 5] 1 (some ⟨b, 0, none⟩) n b 0 (manyC n c i) 5 (0, 0) (fun j => ((manyC n c i).drop (0 + j * 1)).take 1) := fun _ => ⟨rfl, List.Mem.head _, fun j hj => ⟨by omega, rfl⟩⟩
    repeat' (first | refine y1 sg ?_ | refine y3 ?_ | (refine y40 sg (hs) ?_ ?_ ?_; (omega); (omega)) | (refine OX.storeX sg (vs := [Value.int .u8 (c : Int)]) H rfl rfl rfl rfl rfl rfl rfl Up.here (by simp only [List.length_singleton]; omega) (oneAll rfl) ?_; intro w H) | with_reducible apply OW.nil | with_reducible apply thn_n | with_reducible apply CW.seq | refine CW.region ?_ | with_reducible apply CW.block | with_reducible apply CW.skip | (refine y23 ?_ ?_; all_goals (intro h; try (exfalso; first | ((rw [d1] at h; cases h); done)))) | fail)
    rw [Nat.zero_add, Nat.mul_one, manyC_next hin] at H
    exact Again.mk (i + 1) rfl ⟨vsucc (by omega), trivial⟩ ⟨H, hin⟩ (by omega)
  · have d1 : decide ((i : Int) < (n : Int)) = false := decide_eq_false (by omega)
    obtain rfl : i = n := by omega
    have hc : manyC i c i = List.replicate i (Value.int .u8 (c : Int)) := by simp [manyC]
    have hs : SlB [cb b (manyC i c i) 5] 1 (some ⟨b, 0, none⟩) i b 0 (manyC i c i) 5 (0, 0) (u8c (List.replicate i c)) := fun _ => ⟨rfl, List.Mem.head _, fun j hj => ⟨by omega, by rw [hc, Nat.zero_add, Nat.mul_one, List.drop_replicate, List.take_replicate, Nat.min_eq_left (by omega)]; simp [u8c, List.getD_eq_getElem?_getD, hj]⟩⟩
    repeat' (first | refine y1 sg ?_ | refine y3 ?_ | (refine OX.val rfl rfl (Yq.toStr sg hs (by simp) H.mem rfl rfl rfl rfl rfl rfl rfl rfl) ?_) | with_reducible apply OW.nil | with_reducible apply thn_n | with_reducible apply CW.seq | refine CW.region ?_ | with_reducible apply CW.ret | with_reducible apply CW.exit | with_reducible apply thn_e | refine y24 ?_ | (refine y23 ?_ ?_; all_goals (intro h; try (exfalso; first | ((rw [d1] at h; cases h); done)))) | fail)
    exact ret1 rfl H.cl rfl
theorem open_seal (l : List Nat) : openL (sealL l) = (l, 0) := by
  have h1 : (sealL l).length = l.length + 4 := by simp [sealL, le4]
  have h2 : (sealL l).take ((sealL l).length - 4) = l := by rw [h1]; simp [sealL]
  unfold openL
  rw [if_neg (by omega), h2, if_pos rfl]
theorem OpenA.file {l : List Nat} {q : Nat} {b : List Nat} {n : Int} {x : Sta} {y : Vws} {e : Int} {s : Sta} {v : Vws} (h : OpenA (sealL l) n x y e) (hl : l.length ≤ 1048572) (hh : HdOk l q b) (hr : RdOk b s v) : e = 0 ∧ n = (q : Nat) ∧ x = s ∧ y = v := by
  have h4 : (sealL l).length = l.length + 4 := by simp [sealL, le4]
  unfold OpenA at h
  rw [open_seal] at h
  rcases h with ⟨rfl, _, q', b', rfl, h1, _, _, h2⟩ | ⟨_, _, _, ⟨_, h1⟩ | ⟨h1, _, h2⟩ | ⟨_, _, _, h1⟩⟩
  · obtain rfl := h1.inj hh
    have hq : q' = q := by
      have e := h1.2.symm.trans hh.2
      unfold headL at e
      obtain ⟨_, e1⟩ := List.append_inj e rfl
      obtain ⟨e2, _⟩ := List.append_inj e1 rfl
      have a := V_be8 (n := q') (by have := h1.1; omega)
      have b := V_be8 (n := q) (by have := hh.1; omega)
      rw [← a, ← b]
      exact congrArg beV e2
    obtain ⟨rfl, rfl⟩ := h2.uniq hr
    exact ⟨rfl, by rw [hq], rfl, rfl⟩
  · omega
  · exact absurd h2.symm h1
  · exact absurd hr (h1 q b s v hh)
end Go.Proofs.YtggolnppckpdlaaGreat
set_option linter.unusedSimpArgs false
set_option linter.unusedVariables false
namespace Go.Proofs.YtggolnppckpdlaaGreat
open Go Go.Sk Go.RowKit
attribute [local irreducible] Go.Calls
def Sta.at (n : Int) : Sta := ⟨n, 0, 1, 1, [], [], [], [], []⟩
theorem snW_at (n : Int) : SnW (Sta.at n) Vws.zero := by
  have no : ∀ {p : Nat → Prop} (k : Nat), k < 0 → p k := fun k hk => absurd hk (Nat.not_lt_zero k)
  exact ⟨⟨Nat.zero_le _, no, Nat.zero_le _, no, no⟩, fun _ => ⟨Nat.zero_le _, no, Nat.zero_le _, no, Nat.zero_le _, Nat.zero_le _, no, Nat.zero_le _, no⟩, ⟨Nat.zero_le _, no, Nat.zero_le _, Nat.zero_le _, Nat.zero_le _, no⟩, no⟩
theorem may_at (n : Int) (h0 : 0 ≤ n) (h1 : n ≤ 1099511627776) : mayS (Sta.at n) = true := by
  have h7 : ∀ k, k < 7 → stOk (Sta.at n) k = true := by
    intro k hk
    match k, hk with
    | 0, _ => show numsF (Sta.at n) = true; unfold numsF; simp only [Bool.and_eq_true, rangeF_iff]; simp only [Sta.at]; omega
    | 1, _ => exact (by decide +kernel : acctsF [] = true)
    | 2, _ => exact (by decide +kernel : instsF [] = true)
    | 3, _ => show rowsSt (Sta.at n) = true; exact (by decide +kernel : rowsSt (Sta.at 0) = true)
    | 4, _ => show ordersSt (Sta.at n) = true; exact (by decide +kernel : ordersSt (Sta.at 0) = true)
    | 5, _ => show aucsSt (Sta.at n) = true; exact (by decide +kernel : aucsSt (Sta.at 0) = true)
    | 6, _ => show stHeld (Sta.at n) = true; exact (by decide +kernel : stHeld (Sta.at 0) = true)
  unfold mayS
  exact List.all_eq_true.2 fun k hk => h7 k (List.mem_range.1 hk)
theorem may_v0 : viewsF Vws.zero = true := by decide +kernel
theorem body_at (n : Nat) : bodyL (Sta.at (n : Int)) Vws.zero = short (u64n n) ++ [0, 1, 1, 0, 0, 0, 0, 0, 0, 0, 0, 0] := by
  have h0 : short 0 = [0] := short_lt (by decide)
  have h1 : short 1 = [1] := short_lt (by decide)
  have u0 : u64n 0 = 0 := u64n_nat (by decide) (by decide)
  have u1 : u64n 1 = 1 := u64n_nat (by decide) (by decide)
  simp [bodyL, stateB, viewsB, numsB, manyB, Sta.at, Vws.zero, h0, h1, u0, u1]
theorem kind0 : KindB Vws.zero := fun k hk => absurd hk (Nat.not_lt_zero k)
theorem may_st (n : Nat) (h : n ≤ 1099511627776) : bodyF (Sta.at (n : Int)) Vws.zero = (short n ++ [0, 1, 1, 0, 0, 0, 0, 0, 0, 0, 0, 0], 0) := by
  have hl := body_at n
  rw [show u64n (n : Int) = n by rw [u64n_nat (by omega) (by omega)]; simp] at hl
  have hs := short_len10 (n := n) (by omega)
  unfold bodyF
  rw [may_at _ (by omega) (by omega), may_v0, Bool.and_true, if_pos rfl, hl, if_neg (by simp; omega)]
theorem body0 : bodyF (Sta.at 0) Vws.zero = ([0, 0, 1, 1, 0, 0, 0, 0, 0, 0, 0, 0, 0], 0) := by
  have := may_st 0 (by decide)
  rw [short_lt (by decide)] at this
  exact this
theorem body300 : bodyF (Sta.at 300) Vws.zero = ([172, 2, 0, 1, 1, 0, 0, 0, 0, 0, 0, 0, 0, 0], 0) := by
  have := may_st 300 (by decide)
  rw [short_ge (by decide), short_lt (by decide)] at this
  exact this
theorem rd0 : RdOk [0, 0, 1, 1, 0, 0, 0, 0, 0, 0, 0, 0, 0] (Sta.at 0) Vws.zero := by
  have h := RdOk.of (may_at 0 (by decide) (by decide)) may_v0 kind0
  have e : bodyL (Sta.at 0) Vws.zero = [0, 0, 1, 1, 0, 0, 0, 0, 0, 0, 0, 0, 0] := by
    have := body_at 0
    rw [show u64n ((0 : Nat) : Int) = 0 from u64n_nat (by decide) (by decide), short_lt (by decide)] at this
    exact this
  rw [e] at h; exact h
theorem rd300 : RdOk [172, 2, 0, 1, 1, 0, 0, 0, 0, 0, 0, 0, 0, 0] (Sta.at 300) Vws.zero := by
  have h := RdOk.of (may_at 300 (by decide) (by decide)) may_v0 kind0
  have e : bodyL (Sta.at 300) Vws.zero = [172, 2, 0, 1, 1, 0, 0, 0, 0, 0, 0, 0, 0, 0] := by
    have := body_at 300
    rw [show u64n ((300 : Nat) : Int) = 300 from u64n_nat (by decide) (by decide), short_ge (by decide), short_lt (by decide)] at this
    exact this
  rw [e] at h; exact h
theorem file7 : fileF 7 (Sta.at 0) Vws.zero = (sealL (headL 7 [0, 0, 1, 1, 0, 0, 0, 0, 0, 0, 0, 0, 0]), 0) := by
  unfold fileF
  rw [if_neg (by decide), body0, if_pos rfl]; rfl
theorem no13 (x : Sta) (y : Vws) : ¬ RdOk (List.replicate 13 0) x y := by
  rintro ⟨⟨l, m, h1, h2, h3⟩, h4, _⟩
  have hz : staP Sta.zero (List.replicate 9 0) := by
    have h0 : short 0 = [0] := short_lt (by decide)
    have u0 : u64n 0 = 0 := u64n_nat (by decide) (by decide)
    have e : stateB Sta.zero = List.replicate 9 0 := by simp [stateB, numsB, manyB, Sta.zero, h0, u0, List.replicate]
    have n0 : ∀ most : Nat, numP most 0 [0] := fun most => ⟨Int.le_refl _, by omega, by rw [u0, h0]⟩
    have l0 : ∀ {α : Type} (P : α → List Nat → Prop), listP P [] [0] := fun P => ⟨[], rfl, by rw [List.length_nil, h0]; rfl⟩
    exact ⟨_, _, ⟨_, _, ⟨_, _, ⟨_, _, ⟨_, _, ⟨_, _, ⟨_, _, ⟨_, _, ⟨[], _, rfl, n0 _, rfl⟩, n0 _, rfl⟩, n0 _, rfl⟩, n0 _, rfl⟩, l0 _, rfl⟩, l0 _, rfl⟩, l0 _, rfl⟩, l0 _, rfl⟩, l0 _, rfl⟩
  obtain ⟨rfl, _⟩ := uq_sta _ _ _ _ _ (List.replicate 4 0) h1 hz (h3.symm.trans rfl)
  have h5 : numsF Sta.zero = true := mayS_at h4 0 (by decide)
  exact absurd h5 (by decide)
end Go.Proofs.YtggolnppckpdlaaGreat
