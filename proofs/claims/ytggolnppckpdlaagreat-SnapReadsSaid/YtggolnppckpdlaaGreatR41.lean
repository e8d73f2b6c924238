/- Texts of ours, joined: the steps of the proof, or the claim's theorem. -/
import Derived.Test.YtggolnppckpdlaaGreatR25
import Derived.Test.YtggolnppckpdlaaGreatR26
import Derived.Test.YtggolnppckpdlaaGreatR27
import Derived.Test.YtggolnppckpdlaaGreatR40
set_option linter.unusedSimpArgs false
set_option linter.unusedVariables false
namespace Go.Proofs.YtggolnppckpdlaaGreat
open Go Go.Sk Go.RowKit
attribute [local irreducible] Go.Calls
theorem permX2 {a b r q : Nat × Obj} {G : zI} : (a :: b :: r :: q :: G).Perm (r :: q :: a :: b :: G) := by
 have := List.perm_append_comm_assoc [a, b] [r, q] G
 simpa using this
theorem zQp {a b c d e : Int} (l : List Nat) (h : zOu ((((((), a), b), c), d), e) l) : zHz ⟨a, b, c, zAU d, e⟩ l := by
 have hc : 0 ≤ d ∧ d ≤ 4611686018427387904 := by obtain ⟨_, _, ⟨_, _, _, h3, _⟩, _, _⟩ := h; exact ⟨h3.1, h3.2.1⟩
 refine ⟨?_, zNr hc.1 hc.2⟩
 simp only
 rw [zFb hc.1 hc.2]; exact h
theorem zQq (x : Ln) (l : List Nat) (h : zHz x l) : (⟨x.acct, x.seq, x.kind, zAU (zA3 x.delta), x.bal⟩ : Ln) = x ∧ zOu ((((((), x.acct), x.seq), x.kind), zA3 x.delta), x.bal) l := by
 refine ⟨?_, h.1⟩
 rw [h.2]
theorem linV0 {d : Int} (h0 : 0 ≤ d) (h1 : d ≤ 4611686018427387904) (h : (d.tmod (Int.ofNat (1 + 1)) == 1) = false) : IntKind.i64.wrap (d.tdiv (Int.ofNat (1 + 1))) = zAU d := by
 rw [show Int.ofNat (1 + 1) = (2 : Int) from rfl] at h ⊢
 have h := neI h
 rw [Int.tmod_eq_emod_of_nonneg h0] at h
 rw [Int.tdiv_eq_ediv_of_nonneg h0]
 unfold zAU
 rw [if_pos (by omega), w64 (by omega) (by omega)]
theorem linV1 {d : Int} (h0 : 0 ≤ d) (h1 : d ≤ 4611686018427387904) (h : (d.tmod (Int.ofNat (1 + 1)) == 1) = true) : IntKind.i64.wrap (0 - IntKind.i64.wrap (IntKind.i64.wrap (d.tdiv (Int.ofNat (1 + 1))) + 1)) = zAU d := by
 rw [show Int.ofNat (1 + 1) = (2 : Int) from rfl] at h ⊢
 have h := eqI h
 rw [Int.tmod_eq_emod_of_nonneg h0] at h
 rw [Int.tdiv_eq_ediv_of_nonneg h0]
 unfold zAU
 rw [if_neg (by omega), w64 (x := d / 2) (by omega) (by omega), w64 (x := d / 2 + 1) (by omega) (by omega), w64 (by omega) (by omega)]
 omega
def XViewR (br pr : Nat) (s : ByteArray) (G : zI) (p : Rs) : zI → Value → Prop := fun N v => ∃ (x : Vws) (pt : VPt) (p' : Rs) (M : zI), v = .agg (x.cells pt).toArray ∧ N = rdR pr s p' :: xr br pr p'.bad :: (M ++ G) ∧ VwM M x pt ∧ Step (zN s) zI0 p p' x
set_option maxHeartbeats 16000000 in
theorem zOx {w0 w : World} {G : zI} {br pr : Nat} {s : ByteArray} {p : Rs} (hp : p.pos ≤ s.size) (hs : s.size ≤ 16777216) (H : St w0 (rdR pr s p :: xr br pr p.bad :: G) w) :
  Calls Tryz.prog 78 [ptr br].toArray w (zf (XViewR br pr s G p) w0) := by
 have hlen := zP s
 have hs' : s.size ≤ 1073741824 := by omega
 have hA := zg (B := zN s) (p := p) (by omega)
 refine enter [.cell 2 35] Tryz.func78 rfl Tryz.ntmps78 rfl rfl ?_
 repeat' (first | refine y1 sg ?_ | refine y3 ?_ | (refine y10 sg H ?_; intro b w H) | (refine' y33 zCk ?_ ?_; rotate_left 2; exact zB2 (Nat.le_trans hA.inv (Nat.le_of_eq hlen)) hs' (H.perm permX2); rintro v N w ⟨x, q, rfl, rfl, ⟨hx0, hx1⟩, hS1⟩ H) | (with_reducible first | apply zB | apply zD | apply zC) | refine zA ?_ | fail)
 obtain ⟨n, rfl⟩ : ∃ n : Nat, x = (n : Int) := ⟨x.toNat, by omega⟩
 have b := (); rename_i b2 _ _ b3 _ _; clear b
 refine CW.midL [(4, 5), (15, 50)] (fun _ : List Opn × Option Addr × Nat × zI × Rs => []) (fun y w => St w0 (rdR pr s y.2.2.2.2 :: xr br pr y.2.2.2.2.bad :: cb b3 [.slice y.2.1 y.1.length y.2.2.1, .slice none 0 0, .slice none 0 0, .slice none 0 0] 35 :: cb b2 [.slice none 0 0, .slice none 0 0, .slice none 0 0, .slice none 0 0] 35 :: (y.2.2.2.1 ++ G)) w ∧ Go.Sk.Own y.2.2.2.1 83 6 y.2.1 y.1.length y.2.2.1 ((List.range y.1.length).flatMap (opl y.1)) ∧ y.1.length ≤ s.size ∧ Step (zN s) (zy zKL) p y.2.2.2.2 y.1) ?_ ?_
 ·repeat' (first | with_reducible apply zE | fail)
  refine zK [(4, 5), (15, 50)] (fun y : List Opn × Option Addr × Nat × zI × Rs => [(4, .int .i64 ((n : Int) - (y.1.length : Int)))]) (fun y w => St w0 (rdR pr s y.2.2.2.2 :: xr br pr y.2.2.2.2.bad :: cb b3 [.slice y.2.1 y.1.length y.2.2.1, .slice none 0 0, .slice none 0 0, .slice none 0 0] 35 :: cb b2 [.slice none 0 0, .slice none 0 0, .slice none 0 0, .slice none 0 0] 35 :: (y.2.2.2.1 ++ G)) w ∧ Go.Sk.Own y.2.2.2.1 83 6 y.2.1 y.1.length y.2.2.1 ((List.range y.1.length).flatMap (opl y.1)) ∧ y.1.length ≤ n ∧ ListAt (zN s) zKL q y.2.2.2.2 n y.1) (fun y => n - y.1.length) ([], none, 0, [], q) ⟨congrArg (Value.int .i64) (Int.sub_zero _).symm, trivial⟩ ⟨H, zAG _ _ _, Nat.zero_le _, zd hS1.inv⟩ ?_
  clear H
  rintro ⟨xs, a, cap, M, pk⟩ gh w ⟨H, hO, hk, hL⟩
  simp only at H hO hk hL ⊢
  have hpk := hL.inv
  obtain ⟨lv, hlv⟩ : ∃ b, pk.liveB = b := ⟨_, rfl⟩
  by_cases hg : lv = true ∧ xs.length < n
  ·obtain ⟨rfl, hkn⟩ := hg
   have hE := zg (B := zN s) (p := pk) hpk
   have hd : decide ((n : Int) - (xs.length : Int) > 0) = true := decide_eq_true (by omega)
   repeat' (first | refine y1 sg ?_ | refine y3 ?_ | refine y5 sg ?_ | refine y7 sg H ?_ | (refine y10 sg H ?_; intro b w H) | (refine y11 sg H ?_; intro w H) | (refine' y30 zBZ ?_ ?_; rotate_left; exact hlv ▸ zAb H.mem (List.Mem.head _) (List.Mem.tail _ (List.Mem.head _)); intro w hcl; replace H := H.ext hcl; clear hcl) | (refine' y33 zBg ?_ ?_; rotate_left 2; exact zEK (Nat.le_trans hE.inv (Nat.le_of_eq hlen)) hs' H; rintro v N w ⟨x, p', rfl, rfl, ⟨hx0, hx1⟩, hS⟩ H; replace hE := hE.seq hS; clear hS) | (refine' y33 zBg ?_ ?_; rotate_left 2; exact zEK (Nat.le_trans hE.inv (Nat.le_of_eq hlen)) hs' (H.perm zDf); rintro v N w ⟨x, p', rfl, rfl, ⟨hx0, hx1⟩, hS⟩ H; replace hE := hE.seq hS; clear hS) | (refine' y33 zBw ?_ ?_; rotate_left 2; exact zA2 (Nat.le_trans hE.inv (Nat.le_of_eq hlen)) hs' H; rintro v N w ⟨x, p', rfl, rfl, -, hS⟩ H; replace hE := hE.seq hS; clear hS) | (refine' y33 zGp ?_ ?_; rotate_left 2; exact zH0 (Nat.le_trans hE.inv (Nat.le_of_eq hlen)) hs' H; rintro v N w ⟨x, p', rfl, rfl, ⟨hb0, hb1⟩, hS⟩ H; replace hE := hE.seq hS; clear hS) | (refine z14 sg H ?_; intro b w H) | (have hp := H.perm (zBv M G); refine zi sg 6 200 (M := M) hp rfl rfl rfl rfl rfl rfl rfl rfl rfl rfl rfl hO (zk hp.mem (List.mem_append_right _ (List.Mem.head _))) rfl (zAh rfl) (by unfold maxLen; omega) (by omega) ?_; clear hp hO; intro a cap M w hO H; replace H := (H.perm (zBv M G).symm).sub (List.sublist_cons_self _ _)) | refine y13 ?_ | (refine y17 ?_ ?_; all_goals (intro h; try (exfalso; first | ((rw [hd] at h; cases h); done)))) | (with_reducible first | apply zB | apply zD | apply zC | apply zE | apply zG) | refine zA ?_ | refine y21 ?_ | fail)
   all_goals
    have hS : Step (zN s) zKL pk p' _ := hE.map (fun z => (⟨z.1.1.1.1.1.2, z.1.1.1.1.2, z.1.1.1.2, z.1.1.2, z.1.2, z.2⟩ : Opn)) (fun x => (((((((), x.acct), x.id), x.inst), x.side), x.price), x.left)) ?_ ?_
    ·obtain ⟨e, he, hS⟩ := hS.named
     rw [u8id hb0 hb1] at hO
     refine zJ (xs ++ [e], a, cap, M, p') rfl ⟨?_, trivial⟩ ⟨by simpa only [List.length_append, List.length_singleton] using (H.sub (((List.sublist_cons_self _ _).cons_cons _).cons_cons _)), ?_, by simp only; rw [List.length_append]; exact hkn, hL.next hS hkn⟩ (by simp only; rw [List.length_append, List.length_singleton]; omega)
     ·exact congrArg (Value.int .i64) (by simp only; rw [List.length_append, List.length_singleton, w64 (by omega) (by omega)]; omega)
     ·simp only; rw [zNm, List.length_append, ← he]; exact hO
    ·intro l h; exact h
    ·intro z l h; exact ⟨by cases z; rfl, h⟩
  ·rw [← hlv] at hg
   have hfin := hL.fin (fun x l h => zQi h) (Nat.le_of_eq hlen) (by omega) hS1 hg hk
   by_cases hkn : xs.length < n
   ·have hlv0 : pk.liveB = false := by cases h : pk.liveB with | false => rfl | true => exact absurd ⟨h, hkn⟩ hg
    have hd : decide ((n : Int) - (xs.length : Int) > 0) = true := decide_eq_true (by omega)
    repeat' (first | refine y1 sg ?_ | refine y5 sg ?_ | (refine' y30 zBZ ?_ ?_; rotate_left; exact hlv0 ▸ zAb H.mem (List.Mem.head _) (List.Mem.tail _ (List.Mem.head _)); intro w hcl; replace H := H.ext hcl; clear hcl) | refine y13 ?_ | (refine y17 ?_ ?_; all_goals (intro h; try (exfalso; first | ((rw [hd] at h; cases h); done)))) | (with_reducible first | apply zB | apply zD | apply zC | apply zL | apply zS) | refine zA ?_ | refine y24 ?_ | refine y22 ?_ | fail)
    exact zJ (xs, a, cap, M, pk) rfl trivial ⟨H, hO, by simp only; omega, hfin⟩ (Nat.lt_succ_self 0)
   ·have hd : decide ((n : Int) - (xs.length : Int) > 0) = false := decide_eq_false (by omega)
    repeat' (first | refine y1 sg ?_ | refine y14 ?_ | (refine y17 ?_ ?_; all_goals (intro h; try (exfalso; first | ((rw [hd] at h; cases h); done)))) | (with_reducible first | apply zB | apply zD | apply zC | apply zL | apply zS) | refine zA ?_ | refine y24 ?_ | refine y22 ?_ | fail)
    exact zJ (xs, a, cap, M, pk) rfl trivial ⟨H, hO, by simp only; omega, hfin⟩ (Nat.lt_succ_self 0)
 clear H hS1 hx0 hx1
 rintro ⟨x0, a0, c0, M0, p1⟩ gh w ⟨H, O0, n0, hS⟩
 simp only at H O0 n0 hS ⊢
 replace hA := hA.seq hS; clear hS
 obtain ⟨R1, hR1⟩ : ∃ R, M0 ++ G = R := ⟨_, rfl⟩
 rw [hR1] at H
 repeat' (first | refine y1 sg ?_ | refine y3 ?_ | (refine' y33 zCk ?_ ?_; rotate_left 2; exact zB2 (Nat.le_trans hA.inv (Nat.le_of_eq hlen)) hs' H; rintro v N w ⟨x, q, rfl, rfl, ⟨hx0, hx1⟩, hS1⟩ H) | (with_reducible first | apply zB | apply zD | apply zC) | refine zA ?_ | fail)
 obtain ⟨n, rfl⟩ : ∃ n : Nat, x = (n : Int) := ⟨x.toNat, by omega⟩
 refine CW.midL [(6, 7), (53, 78)] (fun _ : List Lt × Option Addr × Nat × zI × Rs => []) (fun y w => St w0 (rdR pr s y.2.2.2.2 :: xr br pr y.2.2.2.2.bad :: cb b3 [.slice a0 x0.length c0, .slice y.2.1 y.1.length y.2.2.1, .slice none 0 0, .slice none 0 0] 35 :: cb b2 [.slice none 0 0, .slice none 0 0, .slice none 0 0, .slice none 0 0] 35 :: (y.2.2.2.1 ++ R1)) w ∧ Go.Sk.Own y.2.2.2.1 85 4 y.2.1 y.1.length y.2.2.1 ((List.range y.1.length).flatMap (ltl y.1)) ∧ y.1.length ≤ s.size ∧ Step (zN s) (zy zKM) p1 y.2.2.2.2 y.1) ?_ ?_
 ·repeat' (first | with_reducible apply zE | fail)
  refine zK [(6, 7), (53, 78)] (fun y : List Lt × Option Addr × Nat × zI × Rs => [(6, .int .i64 ((n : Int) - (y.1.length : Int)))]) (fun y w => St w0 (rdR pr s y.2.2.2.2 :: xr br pr y.2.2.2.2.bad :: cb b3 [.slice a0 x0.length c0, .slice y.2.1 y.1.length y.2.2.1, .slice none 0 0, .slice none 0 0] 35 :: cb b2 [.slice none 0 0, .slice none 0 0, .slice none 0 0, .slice none 0 0] 35 :: (y.2.2.2.1 ++ R1)) w ∧ Go.Sk.Own y.2.2.2.1 85 4 y.2.1 y.1.length y.2.2.1 ((List.range y.1.length).flatMap (ltl y.1)) ∧ y.1.length ≤ n ∧ ListAt (zN s) zKM q y.2.2.2.2 n y.1) (fun y => n - y.1.length) ([], none, 0, [], q) ⟨congrArg (Value.int .i64) (Int.sub_zero _).symm, trivial⟩ ⟨H, zAG _ _ _, Nat.zero_le _, zd hS1.inv⟩ ?_
  clear H
  rintro ⟨xs, a, cap, M, pk⟩ gh w ⟨H, hO, hk, hL⟩
  simp only at H hO hk hL ⊢
  have hpk := hL.inv
  obtain ⟨lv, hlv⟩ : ∃ b, pk.liveB = b := ⟨_, rfl⟩
  by_cases hg : lv = true ∧ xs.length < n
  ·obtain ⟨rfl, hkn⟩ := hg
   have hE := zg (B := zN s) (p := pk) hpk
   have hd : decide ((n : Int) - (xs.length : Int) > 0) = true := decide_eq_true (by omega)
   repeat' (first | refine y1 sg ?_ | refine y3 ?_ | refine y5 sg ?_ | refine y7 sg H ?_ | (refine y10 sg H ?_; intro b w H) | (refine y11 sg H ?_; intro w H) | (refine' y30 zBZ ?_ ?_; rotate_left; exact hlv ▸ zAb H.mem (List.Mem.head _) (List.Mem.tail _ (List.Mem.head _)); intro w hcl; replace H := H.ext hcl; clear hcl) | (refine' y33 zBg ?_ ?_; rotate_left 2; exact zEK (Nat.le_trans hE.inv (Nat.le_of_eq hlen)) hs' H; rintro v N w ⟨x, p', rfl, rfl, ⟨hx0, hx1⟩, hS⟩ H; replace hE := hE.seq hS; clear hS) | (refine' y33 zBw ?_ ?_; rotate_left 2; exact zA2 (Nat.le_trans hE.inv (Nat.le_of_eq hlen)) hs' H; rintro v N w ⟨x, p', rfl, rfl, -, hS⟩ H; replace hE := hE.seq hS; clear hS) | (refine' y33 zBw ?_ ?_; rotate_left 2; exact zA2 (Nat.le_trans hE.inv (Nat.le_of_eq hlen)) hs' (H.perm zDf); rintro v N w ⟨x, p', rfl, rfl, -, hS⟩ H; replace hE := hE.seq hS; clear hS) | (refine z14 sg H ?_; intro b w H) | (have hp := H.perm (zBv M R1); refine zi sg 4 200 (M := M) hp rfl rfl rfl rfl rfl rfl rfl rfl rfl rfl rfl hO (zk hp.mem (List.mem_append_right _ (List.Mem.head _))) rfl (zAh rfl) (by unfold maxLen; omega) (by omega) ?_; clear hp hO; intro a cap M w hO H; replace H := (H.perm (zBv M R1).symm).sub (List.sublist_cons_self _ _)) | refine y13 ?_ | (refine y17 ?_ ?_; all_goals (intro h; try (exfalso; first | ((rw [hd] at h; cases h); done)))) | (with_reducible first | apply zB | apply zD | apply zC | apply zE | apply zG) | refine zA ?_ | refine y21 ?_ | fail)
   all_goals
    have hS : Step (zN s) zKM pk p' _ := hE.map (fun z => (⟨z.1.1.1.2, z.1.1.2, z.1.2, z.2⟩ : Lt)) (fun x => (((((), x.id), x.seller), x.inst), x.qty)) ?_ ?_
    ·obtain ⟨e, he, hS⟩ := hS.named
     refine zJ (xs ++ [e], a, cap, M, p') rfl ⟨?_, trivial⟩ ⟨by simpa only [List.length_append, List.length_singleton] using (H.sub (((List.sublist_cons_self _ _).cons_cons _).cons_cons _)), ?_, by simp only; rw [List.length_append]; exact hkn, hL.next hS hkn⟩ (by simp only; rw [List.length_append, List.length_singleton]; omega)
     ·exact congrArg (Value.int .i64) (by simp only; rw [List.length_append, List.length_singleton, w64 (by omega) (by omega)]; omega)
     ·simp only; rw [zNn, List.length_append, ← he]; exact hO
    ·intro l h; exact h
    ·intro z l h; exact ⟨by cases z; rfl, h⟩
  ·rw [← hlv] at hg
   have hfin := hL.fin (fun x l h => zQj h) (Nat.le_of_eq hlen) (by omega) hS1 hg hk
   by_cases hkn : xs.length < n
   ·have hlv0 : pk.liveB = false := by cases h : pk.liveB with | false => rfl | true => exact absurd ⟨h, hkn⟩ hg
    have hd : decide ((n : Int) - (xs.length : Int) > 0) = true := decide_eq_true (by omega)
    repeat' (first | refine y1 sg ?_ | refine y5 sg ?_ | (refine' y30 zBZ ?_ ?_; rotate_left; exact hlv0 ▸ zAb H.mem (List.Mem.head _) (List.Mem.tail _ (List.Mem.head _)); intro w hcl; replace H := H.ext hcl; clear hcl) | refine y13 ?_ | (refine y17 ?_ ?_; all_goals (intro h; try (exfalso; first | ((rw [hd] at h; cases h); done)))) | (with_reducible first | apply zB | apply zD | apply zC | apply zL | apply zS) | refine zA ?_ | refine y24 ?_ | refine y22 ?_ | fail)
    exact zJ (xs, a, cap, M, pk) rfl trivial ⟨H, hO, by simp only; omega, hfin⟩ (Nat.lt_succ_self 0)
   ·have hd : decide ((n : Int) - (xs.length : Int) > 0) = false := decide_eq_false (by omega)
    repeat' (first | refine y1 sg ?_ | refine y14 ?_ | (refine y17 ?_ ?_; all_goals (intro h; try (exfalso; first | ((rw [hd] at h; cases h); done)))) | (with_reducible first | apply zB | apply zD | apply zC | apply zL | apply zS) | refine zA ?_ | refine y24 ?_ | refine y22 ?_ | fail)
    exact zJ (xs, a, cap, M, pk) rfl trivial ⟨H, hO, by simp only; omega, hfin⟩ (Nat.lt_succ_self 0)
 clear H hS1 hx0 hx1
 rintro ⟨x1, a1, c1, M1, p2⟩ gh w ⟨H, O1, n1, hS⟩
 simp only at H O1 n1 hS ⊢
 replace hA := hA.seq hS; clear hS
 obtain ⟨R2, hR2⟩ : ∃ R, M1 ++ R1 = R := ⟨_, rfl⟩
 rw [hR2] at H
 repeat' (first | refine y1 sg ?_ | refine y3 ?_ | (refine' y33 zCk ?_ ?_; rotate_left 2; exact zB2 (Nat.le_trans hA.inv (Nat.le_of_eq hlen)) hs' H; rintro v N w ⟨x, q, rfl, rfl, ⟨hx0, hx1⟩, hS1⟩ H) | (with_reducible first | apply zB | apply zD | apply zC) | refine zA ?_ | fail)
 obtain ⟨n, rfl⟩ : ∃ n : Nat, x = (n : Int) := ⟨x.toNat, by omega⟩
 refine CW.midL [(8, 9), (81, 112)] (fun _ : List Psn × Option Addr × Nat × zI × Rs => []) (fun y w => St w0 (rdR pr s y.2.2.2.2 :: xr br pr y.2.2.2.2.bad :: cb b3 [.slice a0 x0.length c0, .slice a1 x1.length c1, .slice y.2.1 y.1.length y.2.2.1, .slice none 0 0] 35 :: cb b2 [.slice none 0 0, .slice none 0 0, .slice none 0 0, .slice none 0 0] 35 :: (y.2.2.2.1 ++ R2)) w ∧ Go.Sk.Own y.2.2.2.1 87 6 y.2.1 y.1.length y.2.2.1 ((List.range y.1.length).flatMap (psl y.1)) ∧ y.1.length ≤ s.size ∧ Step (zN s) (zy zKN) p2 y.2.2.2.2 y.1) ?_ ?_
 ·repeat' (first | with_reducible apply zE | fail)
  refine zK [(8, 9), (81, 112)] (fun y : List Psn × Option Addr × Nat × zI × Rs => [(8, .int .i64 ((n : Int) - (y.1.length : Int)))]) (fun y w => St w0 (rdR pr s y.2.2.2.2 :: xr br pr y.2.2.2.2.bad :: cb b3 [.slice a0 x0.length c0, .slice a1 x1.length c1, .slice y.2.1 y.1.length y.2.2.1, .slice none 0 0] 35 :: cb b2 [.slice none 0 0, .slice none 0 0, .slice none 0 0, .slice none 0 0] 35 :: (y.2.2.2.1 ++ R2)) w ∧ Go.Sk.Own y.2.2.2.1 87 6 y.2.1 y.1.length y.2.2.1 ((List.range y.1.length).flatMap (psl y.1)) ∧ y.1.length ≤ n ∧ ListAt (zN s) zKN q y.2.2.2.2 n y.1) (fun y => n - y.1.length) ([], none, 0, [], q) ⟨congrArg (Value.int .i64) (Int.sub_zero _).symm, trivial⟩ ⟨H, zAG _ _ _, Nat.zero_le _, zd hS1.inv⟩ ?_
  clear H
  rintro ⟨xs, a, cap, M, pk⟩ gh w ⟨H, hO, hk, hL⟩
  simp only at H hO hk hL ⊢
  have hpk := hL.inv
  obtain ⟨lv, hlv⟩ : ∃ b, pk.liveB = b := ⟨_, rfl⟩
  by_cases hg : lv = true ∧ xs.length < n
  ·obtain ⟨rfl, hkn⟩ := hg
   have hE := zg (B := zN s) (p := pk) hpk
   have hd : decide ((n : Int) - (xs.length : Int) > 0) = true := decide_eq_true (by omega)
   repeat' (first | refine y1 sg ?_ | refine y3 ?_ | refine y5 sg ?_ | refine y7 sg H ?_ | (refine y10 sg H ?_; intro b w H) | (refine y11 sg H ?_; intro w H) | (refine' y30 zBZ ?_ ?_; rotate_left; exact hlv ▸ zAb H.mem (List.Mem.head _) (List.Mem.tail _ (List.Mem.head _)); intro w hcl; replace H := H.ext hcl; clear hcl) | (refine' y33 zBg ?_ ?_; rotate_left 2; exact zEK (Nat.le_trans hE.inv (Nat.le_of_eq hlen)) hs' H; rintro v N w ⟨x, p', rfl, rfl, ⟨hx0, hx1⟩, hS⟩ H; replace hE := hE.seq hS; clear hS) | (refine' y33 zBw ?_ ?_; rotate_left 2; exact zA2 (Nat.le_trans hE.inv (Nat.le_of_eq hlen)) hs' H; rintro v N w ⟨x, p', rfl, rfl, -, hS⟩ H; replace hE := hE.seq hS; clear hS) | (refine' y33 zBw ?_ ?_; rotate_left 2; exact zA2 (Nat.le_trans hE.inv (Nat.le_of_eq hlen)) hs' (H.perm zDf); rintro v N w ⟨x, p', rfl, rfl, -, hS⟩ H; replace hE := hE.seq hS; clear hS) | (refine z14 sg H ?_; intro b w H) | (have hp := H.perm (zBv M R2); refine zi sg 6 200 (M := M) hp rfl rfl rfl rfl rfl rfl rfl rfl rfl rfl rfl hO (zk hp.mem (List.mem_append_right _ (List.Mem.head _))) rfl (zAh rfl) (by unfold maxLen; omega) (by omega) ?_; clear hp hO; intro a cap M w hO H; replace H := (H.perm (zBv M R2).symm).sub (List.sublist_cons_self _ _)) | refine y13 ?_ | (refine y17 ?_ ?_; all_goals (intro h; try (exfalso; first | ((rw [hd] at h; cases h); done)))) | (with_reducible first | apply zB | apply zD | apply zC | apply zE | apply zG) | refine zA ?_ | refine y21 ?_ | fail)
   all_goals
    have hS : Step (zN s) zKN pk p' _ := hE.map (fun z => (⟨z.1.1.1.1.1.2, z.1.1.1.1.2, z.1.1.1.2, z.1.1.2, z.1.2, z.2⟩ : Psn)) (fun x => (((((((), x.acct), x.inst), x.bought), x.sold), x.spent), x.got)) ?_ ?_
    ·obtain ⟨e, he, hS⟩ := hS.named
     refine zJ (xs ++ [e], a, cap, M, p') rfl ⟨?_, trivial⟩ ⟨by simpa only [List.length_append, List.length_singleton] using (H.sub (((List.sublist_cons_self _ _).cons_cons _).cons_cons _)), ?_, by simp only; rw [List.length_append]; exact hkn, hL.next hS hkn⟩ (by simp only; rw [List.length_append, List.length_singleton]; omega)
     ·exact congrArg (Value.int .i64) (by simp only; rw [List.length_append, List.length_singleton, w64 (by omega) (by omega)]; omega)
     ·simp only; rw [zNo, List.length_append, ← he]; exact hO
    ·intro l h; exact h
    ·intro z l h; exact ⟨by cases z; rfl, h⟩
  ·rw [← hlv] at hg
   have hfin := hL.fin (fun x l h => zQk h) (Nat.le_of_eq hlen) (by omega) hS1 hg hk
   by_cases hkn : xs.length < n
   ·have hlv0 : pk.liveB = false := by cases h : pk.liveB with | false => rfl | true => exact absurd ⟨h, hkn⟩ hg
    have hd : decide ((n : Int) - (xs.length : Int) > 0) = true := decide_eq_true (by omega)
    repeat' (first | refine y1 sg ?_ | refine y5 sg ?_ | (refine' y30 zBZ ?_ ?_; rotate_left; exact hlv0 ▸ zAb H.mem (List.Mem.head _) (List.Mem.tail _ (List.Mem.head _)); intro w hcl; replace H := H.ext hcl; clear hcl) | refine y13 ?_ | (refine y17 ?_ ?_; all_goals (intro h; try (exfalso; first | ((rw [hd] at h; cases h); done)))) | (with_reducible first | apply zB | apply zD | apply zC | apply zL | apply zS) | refine zA ?_ | refine y24 ?_ | refine y22 ?_ | fail)
    exact zJ (xs, a, cap, M, pk) rfl trivial ⟨H, hO, by simp only; omega, hfin⟩ (Nat.lt_succ_self 0)
   ·have hd : decide ((n : Int) - (xs.length : Int) > 0) = false := decide_eq_false (by omega)
    repeat' (first | refine y1 sg ?_ | refine y14 ?_ | (refine y17 ?_ ?_; all_goals (intro h; try (exfalso; first | ((rw [hd] at h; cases h); done)))) | (with_reducible first | apply zB | apply zD | apply zC | apply zL | apply zS) | refine zA ?_ | refine y24 ?_ | refine y22 ?_ | fail)
    exact zJ (xs, a, cap, M, pk) rfl trivial ⟨H, hO, by simp only; omega, hfin⟩ (Nat.lt_succ_self 0)
 clear H hS1 hx0 hx1
 rintro ⟨x2, a2, c2, M2, p3⟩ gh w ⟨H, O2, n2, hS⟩
 simp only at H O2 n2 hS ⊢
 replace hA := hA.seq hS; clear hS
 obtain ⟨R3, hR3⟩ : ∃ R, M2 ++ R2 = R := ⟨_, rfl⟩
 rw [hR3] at H
 repeat' (first | refine y1 sg ?_ | refine y3 ?_ | (refine' y33 zCk ?_ ?_; rotate_left 2; exact zB2 (Nat.le_trans hA.inv (Nat.le_of_eq hlen)) hs' H; rintro v N w ⟨x, q, rfl, rfl, ⟨hx0, hx1⟩, hS1⟩ H) | (with_reducible first | apply zB | apply zD | apply zC) | refine zA ?_ | fail)
 obtain ⟨n, rfl⟩ : ∃ n : Nat, x = (n : Int) := ⟨x.toNat, by omega⟩
 refine CW.midL [(10, 12), (115, 157)] (fun _ : List Ln × Option Addr × Nat × zI × Rs => []) (fun y w => St w0 (rdR pr s y.2.2.2.2 :: xr br pr y.2.2.2.2.bad :: cb b3 [.slice a0 x0.length c0, .slice a1 x1.length c1, .slice a2 x2.length c2, .slice y.2.1 y.1.length y.2.2.1] 35 :: cb b2 [.slice none 0 0, .slice none 0 0, .slice none 0 0, .slice none 0 0] 35 :: (y.2.2.2.1 ++ R3)) w ∧ Go.Sk.Own y.2.2.2.1 52 5 y.2.1 y.1.length y.2.2.1 ((List.range y.1.length).flatMap (lnl y.1)) ∧ y.1.length ≤ s.size ∧ Step (zN s) (zy zHz) p3 y.2.2.2.2 y.1) ?_ ?_
 ·repeat' (first | with_reducible apply zE | fail)
  refine zK [(10, 12), (115, 157)] (fun y : List Ln × Option Addr × Nat × zI × Rs => [(10, .int .i64 ((n : Int) - (y.1.length : Int)))]) (fun y w => St w0 (rdR pr s y.2.2.2.2 :: xr br pr y.2.2.2.2.bad :: cb b3 [.slice a0 x0.length c0, .slice a1 x1.length c1, .slice a2 x2.length c2, .slice y.2.1 y.1.length y.2.2.1] 35 :: cb b2 [.slice none 0 0, .slice none 0 0, .slice none 0 0, .slice none 0 0] 35 :: (y.2.2.2.1 ++ R3)) w ∧ Go.Sk.Own y.2.2.2.1 52 5 y.2.1 y.1.length y.2.2.1 ((List.range y.1.length).flatMap (lnl y.1)) ∧ y.1.length ≤ n ∧ ListAt (zN s) zHz q y.2.2.2.2 n y.1) (fun y => n - y.1.length) ([], none, 0, [], q) ⟨congrArg (Value.int .i64) (Int.sub_zero _).symm, trivial⟩ ⟨H, zAG _ _ _, Nat.zero_le _, zd hS1.inv⟩ ?_
  clear H
  rintro ⟨xs, a, cap, M, pk⟩ gh w ⟨H, hO, hk, hL⟩
  simp only at H hO hk hL ⊢
  have hpk := hL.inv
  obtain ⟨lv, hlv⟩ : ∃ b, pk.liveB = b := ⟨_, rfl⟩
  by_cases hg : lv = true ∧ xs.length < n
  ·obtain ⟨rfl, hkn⟩ := hg
   have hE := zg (B := zN s) (p := pk) hpk
   have hd : decide ((n : Int) - (xs.length : Int) > 0) = true := decide_eq_true (by omega)
   repeat' (first | refine y1 sg ?_ | refine y3 ?_ | refine y5 sg ?_ | refine y7 sg H ?_ | (refine y10 sg H ?_; intro b w H) | (refine y11 sg H ?_; intro w H) | (refine' y30 zBZ ?_ ?_; rotate_left; exact hlv ▸ zAb H.mem (List.Mem.head _) (List.Mem.tail _ (List.Mem.head _)); intro w hcl; replace H := H.ext hcl; clear hcl) | (refine' y33 zBg ?_ ?_; rotate_left 2; exact zEK (Nat.le_trans hE.inv (Nat.le_of_eq hlen)) hs' H; rintro v N w ⟨x, p', rfl, rfl, ⟨hx0, hx1⟩, hS⟩ H; replace hE := hE.seq hS; clear hS) | (refine' y33 zBg ?_ ?_; rotate_left 2; exact zEK (Nat.le_trans hE.inv (Nat.le_of_eq hlen)) hs' (H.perm zDf); rintro v N w ⟨x, p', rfl, rfl, ⟨hx0, hx1⟩, hS⟩ H; replace hE := hE.seq hS; clear hS) | (refine' y33 zBw ?_ ?_; rotate_left 2; exact zA2 (Nat.le_trans hE.inv (Nat.le_of_eq hlen)) hs' H; rintro v N w ⟨x, p', rfl, rfl, -, hS⟩ H; replace hE := hE.seq hS; clear hS) | (refine' y33 zGp ?_ ?_; rotate_left 2; exact zH0 (Nat.le_trans hE.inv (Nat.le_of_eq hlen)) hs' H; rintro v N w ⟨x, p', rfl, rfl, ⟨hb0, hb1⟩, hS⟩ H; replace hE := hE.seq hS; clear hS) | (refine z14 sg H ?_; intro b w H) | (have hp := H.perm (zBv M R3); refine zi sg 5 200 (M := M) hp rfl rfl rfl rfl rfl rfl rfl rfl rfl rfl rfl hO (zk hp.mem (List.mem_append_right _ (List.Mem.head _))) rfl (zAh rfl) (by unfold maxLen; omega) (by omega) ?_; clear hp hO; intro a cap M w hO H; replace H := (H.perm (zBv M R3).symm).sub (List.sublist_cons_self _ _)) | refine y13 ?_ | (refine y17 ?_ ?_; all_goals (intro h; try (exfalso; first | ((rw [hd] at h; cases h); done)))) | (with_reducible first | apply zB | apply zD | apply zC | apply zE | apply zG) | refine zA ?_ | refine y21 ?_ | (refine y23 ?_ ?_; all_goals (intro h; try (exfalso; first | ((rw [hd] at h; cases h); done)))) | fail)
   all_goals
    have hS : Step (zN s) zHz pk p' _ := hE.map (fun z => (⟨z.1.1.1.1.2, z.1.1.1.2, z.1.1.2, zAU z.1.2, z.2⟩ : Ln)) (fun x => ((((((), x.acct), x.seq), x.kind), (zA3 x.delta)), x.bal)) ?_ ?_
    ·obtain ⟨e, he, hS⟩ := hS.named
     rw [u8id hb0 hb1] at hO
     first | rw [linV1 (by assumption) (by assumption) h] at hO | rw [linV0 (by assumption) (by assumption) h] at hO
     refine zJ (xs ++ [e], a, cap, M, p') rfl ⟨?_, trivial⟩ ⟨by simpa only [List.length_append, List.length_singleton] using (H.sub (((List.sublist_cons_self _ _).cons_cons _).cons_cons _)), ?_, by simp only; rw [List.length_append]; exact hkn, hL.next hS hkn⟩ (by simp only; rw [List.length_append, List.length_singleton]; omega)
     ·exact congrArg (Value.int .i64) (by simp only; rw [List.length_append, List.length_singleton, w64 (by omega) (by omega)]; omega)
     ·simp only; rw [zNp, List.length_append, ← he]; exact hO
    ·exact fun l h => zQp l h
    ·exact zQq
  ·rw [← hlv] at hg
   have hfin := hL.fin (fun x l h => zQl h) (Nat.le_of_eq hlen) (by omega) hS1 hg hk
   by_cases hkn : xs.length < n
   ·have hlv0 : pk.liveB = false := by cases h : pk.liveB with | false => rfl | true => exact absurd ⟨h, hkn⟩ hg
    have hd : decide ((n : Int) - (xs.length : Int) > 0) = true := decide_eq_true (by omega)
    repeat' (first | refine y1 sg ?_ | refine y5 sg ?_ | (refine' y30 zBZ ?_ ?_; rotate_left; exact hlv0 ▸ zAb H.mem (List.Mem.head _) (List.Mem.tail _ (List.Mem.head _)); intro w hcl; replace H := H.ext hcl; clear hcl) | refine y13 ?_ | (refine y17 ?_ ?_; all_goals (intro h; try (exfalso; first | ((rw [hd] at h; cases h); done)))) | (with_reducible first | apply zB | apply zD | apply zC | apply zL | apply zS) | refine zA ?_ | refine y24 ?_ | refine y22 ?_ | fail)
    exact zJ (xs, a, cap, M, pk) rfl trivial ⟨H, hO, by simp only; omega, hfin⟩ (Nat.lt_succ_self 0)
   ·have hd : decide ((n : Int) - (xs.length : Int) > 0) = false := decide_eq_false (by omega)
    repeat' (first | refine y1 sg ?_ | refine y14 ?_ | (refine y17 ?_ ?_; all_goals (intro h; try (exfalso; first | ((rw [hd] at h; cases h); done)))) | (with_reducible first | apply zB | apply zD | apply zC | apply zL | apply zS) | refine zA ?_ | refine y24 ?_ | refine y22 ?_ | fail)
    exact zJ (xs, a, cap, M, pk) rfl trivial ⟨H, hO, by simp only; omega, hfin⟩ (Nat.lt_succ_self 0)
 clear H hS1 hx0 hx1
 rintro ⟨x3, a3, c3, M3, p4⟩ gh w ⟨H, O3, n3, hS⟩
 simp only at H O3 n3 hS ⊢
 replace hA := hA.seq hS; clear hS
 obtain ⟨R4, hR4⟩ : ∃ R, M3 ++ R3 = R := ⟨_, rfl⟩
 rw [hR4] at H
 subst hR1 hR2 hR3 hR4
 repeat' (first | refine y3 ?_ | refine y7 sg H ?_ | (refine y11 sg H ?_; intro w H) | (with_reducible first | apply zB | apply zD | apply zC | apply zF) | refine zA ?_ | fail)
 refine zU (vs := [_]) ⟨zAF sg rfl H.mem (List.Mem.tail _ (List.Mem.tail _ (List.Mem.tail _ (List.Mem.head _)))) rfl rfl, trivial⟩ (H.sub (((List.Sublist.cons _ (List.sublist_cons_self _ _)).cons_cons _).cons_cons _)) ⟨_, ⟨a0, c0, a1, c1, a2, c2, a3, c3⟩, _, M3 ++ (M2 ++ (M1 ++ M0)), ?_, by simp only [List.append_assoc], ?_, hA.map zOJ zJ0 (fun l h => h) (fun z l h => ⟨rfl, h⟩)⟩
 ·rfl
 ·exact ⟨O0.sl (by intro p hp; simp [hp]) (fun _ _ => rfl) (by omega), O1.sl (by intro p hp; simp [hp]) (fun _ _ => rfl) (by omega), O2.sl (by intro p hp; simp [hp]) (fun _ _ => rfl) (by omega), O3.sl (by intro p hp; simp [hp]) (fun _ _ => rfl) (by omega)⟩
end Go.Proofs.YtggolnppckpdlaaGreat
set_option linter.unusedSimpArgs false
set_option linter.unusedVariables false
namespace Go.Proofs.YtggolnppckpdlaaGreat
open Go Go.Sk Go.RowKit
attribute [local irreducible] Go.Calls
theorem zKP {F : zI} {a : Option Addr} {cap : Nat} (l : List Ln) (n : Nat) (hn : n ≤ l.length) (acct : Int) (w0 : World) (hF : Mem w0 F) (hs : SlA F 5 a l.length cap (lnl l)) :
  Calls Tryz.prog 202 [.slice a n cap, .int .i64 acct].toArray w0 (Ret (.int .i64 (zAO l n acct)) w0) := by
 obtain ⟨hnc, hcb, b0, off, cs, T, fr, hs⟩ := hs
 have hs : SlB F 5 a n b0 off cs T fr (lnl l) := fun h0 => ⟨(hs (by omega)).1, (hs (by omega)).2.1, fun j hj => (hs (by omega)).2.2 j (by omega)⟩
 have hw1 : IntKind.i64.wrap ((n : Int) - 1) = (n : Int) - 1 := w64 (by omega) (by omega)
 refine enter [.tmp 4] Tryz.func202 rfl Tryz.ntmps202 rfl rfl ?_
 have H := zH w0
 repeat' (first | refine y1 sg ?_ | (with_reducible first | apply zB | apply zD | apply zC | apply zE) | refine zA ?_ | fail)
 refine zK [(4, 5), (9, 24)] (fun k : Nat => [(5, .int .i64 ((k : Int) - 1))]) (fun k w => St w0 [] w ∧ k ≤ n ∧ zAO l k acct = zAO l n acct) (fun k => k) n ⟨congrArg (Value.int .i64) hw1, trivial⟩ ⟨H, Nat.le_refl _, rfl⟩ ?_
 clear H
 rintro k gh w ⟨H, hk, hP⟩
 rcases k with _ | j
 ·have d1 : decide (((0 : Nat) : Int) - 1 ≥ 0) = false := rfl
  repeat' (first | refine y1 sg ?_ | (with_reducible first | apply zB | apply zD | apply zC | apply zF | apply zL | apply zS) | refine zA ?_ | refine y24 ?_ | refine y22 ?_ | fail)
  exact zQ rfl H.cl (congrArg (Value.int .i64) hP)
 ·have d1 : decide (((j + 1 : Nat) : Int) - 1 ≥ 0) = true := decide_eq_true (by omega)
  have hj1 : ((j + 1 : Nat) : Int) - 1 = (j : Int) := by omega
  rw [hj1] at d1 ⊢
  have hu : zAO l (j + 1) acct = if (ln_ l j).acct = acct then (ln_ l j).bal else zAO l j acct := by
   show (if acct = (ln_ l j).acct then (ln_ l j).bal else zAO l j acct) = _
   by_cases h : acct = (ln_ l j).acct
   ·rw [if_pos h, if_pos h.symm]
   ·rw [if_neg h, if_neg (fun e => h e.symm)]
  repeat' (first | refine y1 sg ?_ | refine y3 ?_ | (refine y40 sg (hs) ?_ ?_ ?_; (omega); (omega)) | (refine y44 sg (hs) ((H.memF hF)) ?_ ?_; (omega)) | (with_reducible first | apply zB | apply zD | apply zC | apply zE | apply zF | apply zG | apply zO | apply zW) | refine zA ?_ | refine y21 ?_ | (refine y23 ?_ ?_; all_goals (intro h; try (exfalso; first | ((rw [d1] at h; cases h); done)))) | fail)
  all_goals first
   | exact zQ rfl H.cl (congrArg (Value.int .i64) (by rw [← hP, hu, if_pos (eqI h)]))
   | exact zJ j rfl ⟨congrArg (Value.int .i64) (w64 (by omega) (by omega)), trivial⟩ ⟨H, by omega, by rw [← hP, hu, if_neg (neI h)]⟩ (by omega)
end Go.Proofs.YtggolnppckpdlaaGreat
set_option linter.unusedSimpArgs false
set_option linter.unusedVariables false
namespace Go.Proofs.YtggolnppckpdlaaGreat
open Go Go.Sk Go.RowKit
attribute [local irreducible] Go.Calls
theorem zAZ (n m : Int) (w : World) : Calls Tryz.prog 201 [.int .i64 n, .int .i64 m].toArray w (Ret (.bool (zX n 1 m)) w) := by
 refine enter [.tmp 4] Tryz.func201 rfl Tryz.ntmps201 rfl rfl ?_
 have H := zH w
 repeat' (first | refine y1 sg ?_ | refine y5 sg ?_ | refine y13 ?_ | refine y14 ?_ | (refine y17 ?_ ?_; all_goals intro h) | (with_reducible first | apply zB | apply zD | apply zC | apply zF) | refine zA ?_ | fail)
 all_goals simp only [decide_eq_true_eq, decide_eq_false_iff_not, ge_iff_le] at *
 all_goals exact zQ rfl H.cl (congrArg Value.bool (by
  rw [Bool.eq_iff_iff, zAC]; first | (rw [decide_eq_true_eq]; omega) | (constructor; (intro hh; first | omega | cases hh); (intro hh; omega))))
theorem zI1 (x y : Int) : zEv x y < 0 ↔ x < y := by
 unfold zEv
 repeat' split
 all_goals omega
def zLZ (l : List Opn) (k i : Nat) : Prop := (op_ l k).id ≠ (op_ l i).id ∧ (op_ l k).acct ≤ (op_ l i).acct ∧ ((op_ l k).acct = (op_ l i).acct → (op_ l k).id ≤ (op_ l i).id)
theorem zGW {l : List Opn} (h : ∀ k, k < l.length → 0 < k → cmpO (op_ l (k - 1)) (op_ l k) < 0) : ∀ i k, i < l.length → k < i → (op_ l k).acct < (op_ l i).acct ∨ ((op_ l k).acct = (op_ l i).acct ∧ (op_ l k).id < (op_ l i).id)
 | 0, k, _, hk => absurd hk (Nat.not_lt_zero k)
 | i + 1, k, hi, hk => by
   have h1 := (zEY _ _ _ _).1 (h (i + 1) hi (by omega))
   rw [Nat.add_sub_cancel] at h1
   by_cases hki : k = i
   ·subst hki; exact h1
   ·have h2 := zGW h i k (by omega) (by omega)
    omega
theorem zMT {l : List Opn} {m : List Lt} : zD0 l m = true ↔ l.length ≤ 128 ∧ m.length ≤ 32 ∧ (∀ i, i < l.length → zBj (op_ l i) = true ∧ ∀ k, k < i → zLZ l k i) ∧ (∀ i, i < m.length → zCV (lt_ m i) = true ∧ (0 < i → (lt_ m (i - 1)).id < (lt_ m i).id)) := by
 rw [zB0]
 constructor
 ·rintro ⟨h1, h2, h3, h4, h5, h6, h7⟩
  refine ⟨h1, h2, fun i hi => ⟨h5 i hi, fun k hk => ?_⟩, fun i hi => ⟨h7 i hi, fun h0 => ?_⟩⟩
  ·have hp := zGW (zDl.1 h3) i k hi hk
   refine ⟨fun he => ?_, by omega, by omega⟩
   have hn := (List.nodup_iff_pairwise_ne.1 h6)
   have := List.pairwise_iff_getElem.1 hn k i (by rw [List.length_map]; omega) (by rw [List.length_map]; exact hi) hk
   apply this
   rw [List.getElem_map, List.getElem_map]
   have e1 : op_ l k = l[k] := by unfold op_; rw [List.getD_eq_getElem?_getD, List.getElem?_eq_getElem (by omega)]; rfl
   have e2 : op_ l i = l[i] := by unfold op_; rw [List.getD_eq_getElem?_getD, List.getElem?_eq_getElem hi]; rfl
   rw [← e1, ← e2]; exact he
  ·have := zDm.1 h4 i hi h0
   exact (zI1 _ _).1 this
 ·rintro ⟨h1, h2, h3, h4⟩
  refine ⟨h1, h2, zDl.2 fun k hk h0 => ?_, zDm.2 fun k hk h0 => (zI1 _ _).2 ((h4 k hk).2 h0), fun k hk => (h3 k hk).1, ?_, fun k hk => (h4 k hk).1⟩
  ·have := (h3 k hk).2 (k - 1) (by omega)
   obtain ⟨a, b, c⟩ := this
   exact (zEY _ _ _ _).2 (by omega)
  ·rw [List.nodup_iff_pairwise_ne, List.pairwise_iff_getElem]
   intro k i hk hi hki
   rw [List.length_map] at hk hi
   rw [List.getElem_map, List.getElem_map]
   have e1 : op_ l k = l[k] := by unfold op_; rw [List.getD_eq_getElem?_getD, List.getElem?_eq_getElem hk]; rfl
   have e2 : op_ l i = l[i] := by unfold op_; rw [List.getD_eq_getElem?_getD, List.getElem?_eq_getElem hi]; rfl
   have := ((h3 i hi).2 k hki).1
   rw [e1, e2] at this
   exact this
end Go.Proofs.YtggolnppckpdlaaGreat
