/- Texts of ours, joined: the steps of the proof, or the claim's theorem. -/
import Derived.Test.YtggolnppckpdlaaGreatR39
set_option linter.unusedSimpArgs false
set_option linter.unusedVariables false
namespace Go.Proofs.YtggolnppckpdlaaGreat
open Go Go.Sk Go.RowKit
attribute [local irreducible] Go.Calls
theorem zLY {w0 w : World} {G : zI} {br pr : Nat} {s : ByteArray} {p : Rs} (hp : p.pos ≤ s.size) (hs : s.size ≤ 1073741824) (H : St w0 (rdR pr s p :: xr br pr p.bad :: G) w) :
  Calls Tryz.prog 164 [ptr pr, .int .i64 24].toArray w (zf (XR br pr s G p Value.string (zFH 24) (fun x => x.size ≤ 24)) w0) :=
 (zOs 24 (by decide) hp hs H).mono fun _ _ ⟨v, M, e, ⟨x, p', h1, h2, h3, h4, h5⟩, hS⟩ => ⟨v, M, e, ⟨x, p', h1, by rw [h2, h4], h3, h5⟩, hS⟩
theorem Step.byte {B : List Nat} {p p' : Rs} {x : Nat} (h : Step B (zDp 1) p p' x) : Step B zIx p p' (x : Int) :=
 h.map (fun n : Nat => (n : Int)) Int.toNat (fun l ⟨a, b⟩ => ⟨by omega, by omega, by rw [b]; rfl⟩) (fun z l ⟨a, b, c⟩ => ⟨by omega, by omega, c⟩)
theorem zH0 {w0 w : World} {G : zI} {br pr : Nat} {s : ByteArray} {p : Rs} (hp : p.pos ≤ s.size) (hs : s.size ≤ 1073741824) (H : St w0 (rdR pr s p :: xr br pr p.bad :: G) w) :
  Calls Tryz.prog 82 [ptr pr, .int .i64 1].toArray w (zf (XR br pr s G p (Value.int .u64) zIx (fun x => 0 ≤ x ∧ x < 256)) w0) :=
 (zIw hp hs H).mono fun _ _ ⟨v, M, e, ⟨x, p', h1, h2, h3, h4, h5⟩, hS⟩ => ⟨v, M, e, ⟨(x : Int), p', h1, by rw [h2, h4], ⟨by omega, by omega⟩, h5.byte⟩, hS⟩
theorem zDf {a r q : Nat × Obj} {G : zI} : (a :: r :: q :: G).Perm (r :: q :: a :: G) := (List.Perm.swap r a _).trans ((List.Perm.swap q a _).cons r)
theorem zH1 {a b c d e : Nat × Obj} (M G : zI) : (a :: b :: c :: d :: e :: (M ++ G)).Perm (M ++ (a :: b :: c :: d :: e :: G)) := by
 have := List.perm_append_comm_assoc [a, b, c, d, e] M G
 simpa using this
theorem zBv {a b c d e f : Nat × Obj} (M G : zI) : (a :: b :: c :: d :: e :: f :: (M ++ G)).Perm (M ++ (a :: b :: c :: d :: e :: f :: G)) := by
 have := List.perm_append_comm_assoc [a, b, c, d, e, f] M G
 simpa using this
theorem zOv {a b c d e f g : Nat × Obj} (M G : zI) : (a :: b :: c :: d :: e :: f :: g :: (M ++ G)).Perm (M ++ (a :: b :: c :: d :: e :: f :: g :: G)) := by
 have := List.perm_append_comm_assoc [a, b, c, d, e, f, g] M G
 simpa using this
theorem Step.named {α : Type} {B : List Nat} {P : α → List Nat → Prop} {p p' : Rs} {x : α} (h : Step B P p p' x) : ∃ e, x = e ∧ Step B P p p' e := ⟨x, rfl, h⟩
theorem Step.named' {α : Type} {B : List Nat} {P : α → List Nat → Prop} {p p' : Rs} {x : α} (h : Step B P p p' x) : ∃ e, e = x ∧ Step B P p p' e := ⟨x, rfl, h⟩
theorem u8id {x : Int} (h0 : 0 ≤ x) (h1 : x < 256) : IntKind.u8.wrap x = x := by
 obtain ⟨n, rfl⟩ : ∃ n : Nat, x = (n : Int) := ⟨x.toNat, by omega⟩
 exact wrK8 (by omega)
theorem permM6 {a b c d e f : Nat × Obj} (M R G : zI) : (a :: b :: c :: d :: e :: f :: (R ++ (M ++ G))).Perm (M ++ (a :: b :: c :: d :: e :: f :: (R ++ G))) := by
 have h1 : (R ++ (M ++ G)).Perm (M ++ (R ++ G)) := List.perm_append_comm_assoc R M G
 exact ((((((h1.cons f).cons e).cons d).cons c).cons b).cons a).trans (zBv M _)
theorem CW.midL {P : Program} {n : Nw} {Q : zAX} {K : Env → World → Prop} {L : List (Nat × Value)} {b : Env} {w : World} {ι : Type} {c : Code} (W : List (Nat × Nat)) (val : ι → List (Nat × Value)) (J : ι → World → Prop)
  (h1 : CW P n c (thn (Again W (ovl L b) val J (fun _ => 0) 1) Q) (ovl L b) w) (h2 : ∀ x g w, J x w → K (ovl (val x) (msk W g (ovl L b))) w) : CW P n c (thn K Q) (ovl L b) w := by
 refine CW.mono (fun x e w hq => ?_) h1
 cases x with
 | normal =>
   obtain ⟨x', hk, hv, hJ, _⟩ := hq
   have he : ovl (val x') (msk W e (ovl L b)) = e := by rw [zEP hk, zEO hv]
   have := h2 x' e w hJ
   rw [he] at this
   exact this
 | _ => exact hq
theorem zQn {a b c d : Int} (l : List Nat) (h : zOt (((((), a), b), c), d) l) : zHy (zj ⟨a, b, c, d⟩) l := by
 have hc : 0 ≤ c ∧ c ≤ 4611686018427387904 := by obtain ⟨_, _, ⟨_, _, _, h3, _⟩, _, _⟩ := h; exact ⟨h3.1, h3.2.1⟩
 obtain ⟨e1, e2, e3⟩ := zDj ⟨a, b, c, d⟩
 refine ⟨?_, zIS hc.1 hc.2⟩
 rw [e1, e2, e3, zHd (by omega) hc.2]; exact h
theorem zQo (x : Row4) (l : List Nat) (h : zHy x l) : zj ⟨x.acct, x.asset, (zj x).free, x.held⟩ = x ∧ zOt (((((), x.acct), x.asset), (zj x).free), x.held) l := by
 obtain ⟨h, a4, b4⟩ := h
 obtain ⟨e1, e2, e3⟩ := zDj x
 refine ⟨?_, h⟩
 have h2 := zHd (a := x.acct) (b := x.asset) (c := x.free) (d := x.held) a4 b4
 have h3 : (⟨x.acct, x.asset, (zj x).free, x.held⟩ : Row4) = zj x := by rw [← e1, ← e2, ← e3]
 rw [h3]; exact h2
def XGetR (br pr : Nat) (s : ByteArray) (G : zI) (p : Rs) : zI → Value → Prop := fun N v => ∃ (x : Sta) (pt : SPt) (p' : Rs) (M : zI), v = .agg (x.cells pt).toArray ∧ N = rdR pr s p' :: xr br pr p'.bad :: (M ++ G) ∧ StaM M x pt ∧ Step (zN s) zIz p p' x
set_option maxHeartbeats 16000000 in
theorem zOw {w0 w : World} {G : zI} {br pr : Nat} {s : ByteArray} {p : Rs} (hp : p.pos ≤ s.size) (hs : s.size ≤ 16777216) (H : St w0 (rdR pr s p :: xr br pr p.bad :: G) w) :
  Calls Tryz.prog 77 [ptr br].toArray w (zf (XGetR br pr s G p) w0) := by
 have hlen := zP s
 have hs' : s.size ≤ 1073741824 := by omega
 have hA := zg (B := zN s) (p := p) (by omega)
 refine enter [.cell 2 29] Tryz.func77 rfl Tryz.ntmps77 rfl rfl ?_
 repeat' (first | refine y1 sg ?_ | refine y3 ?_ | (refine y10 sg H ?_; intro b w H) | (refine y11 sg H ?_; intro w H) | (refine' y33 zBg ?_ ?_; rotate_left 2; exact zEK (Nat.le_trans hA.inv (Nat.le_of_eq hlen)) hs' H; rintro v N w ⟨x, p', rfl, rfl, ⟨hx0, hx1⟩, hS⟩ H; replace hA := hA.seq hS; clear hS) | (refine' y33 zBg ?_ ?_; rotate_left 2; exact zEK (Nat.le_trans hA.inv (Nat.le_of_eq hlen)) hs' (H.perm zDf); rintro v N w ⟨x, p', rfl, rfl, ⟨hx0, hx1⟩, hS⟩ H; replace hA := hA.seq hS; clear hS) | (refine' y33 zCk ?_ ?_; rotate_left 2; exact zB2 (Nat.le_trans hA.inv (Nat.le_of_eq hlen)) hs' (H.perm zDf); rintro v N w ⟨x, q, rfl, rfl, ⟨hx0, hx1⟩, hS1⟩ H) | (with_reducible first | apply zB | apply zD | apply zC) | refine zA ?_ | fail)
 obtain ⟨n, rfl⟩ : ∃ n : Nat, x = (n : Int) := ⟨x.toNat, by omega⟩
 have x := (); have b := (); rename_i b2 _ _ _ k0 _ _ _ _ _ k1 _ _ _ _ _ k2 _ _ _ _ _ k3 _ _ _ b3 _ _ _ _; clear x b
 refine CW.midL [(4, 5), (28, 49)] (fun _ : List Ac × Option Addr × Nat × zI × Rs => []) (fun y w => St w0 (rdR pr s y.2.2.2.2 :: xr br pr y.2.2.2.2.bad :: cb b3 [.int .i64 k0, .int .i64 k1, .int .i64 k2, .int .i64 k3, .slice y.2.1 y.1.length y.2.2.1, .slice none 0 0, .slice none 0 0, .slice none 0 0, .slice none 0 0] 29 :: cb b2 [.int .i64 0, .int .i64 0, .int .i64 0, .int .i64 0, .slice none 0 0, .slice none 0 0, .slice none 0 0, .slice none 0 0, .slice none 0 0] 29 :: (y.2.2.2.1 ++ G)) w ∧ Go.Sk.Own y.2.2.2.1 70 2 y.2.1 y.1.length y.2.2.1 ((List.range y.1.length).flatMap (acl y.1)) ∧ y.1.length ≤ s.size ∧ Step (zN s) (zy zKH) p' y.2.2.2.2 y.1) ?_ ?_
 ·repeat' (first | with_reducible apply zE | fail)
  refine zK [(4, 5), (28, 49)] (fun y : List Ac × Option Addr × Nat × zI × Rs => [(4, .int .i64 ((n : Int) - (y.1.length : Int)))]) (fun y w => St w0 (rdR pr s y.2.2.2.2 :: xr br pr y.2.2.2.2.bad :: cb b3 [.int .i64 k0, .int .i64 k1, .int .i64 k2, .int .i64 k3, .slice y.2.1 y.1.length y.2.2.1, .slice none 0 0, .slice none 0 0, .slice none 0 0, .slice none 0 0] 29 :: cb b2 [.int .i64 0, .int .i64 0, .int .i64 0, .int .i64 0, .slice none 0 0, .slice none 0 0, .slice none 0 0, .slice none 0 0, .slice none 0 0] 29 :: (y.2.2.2.1 ++ G)) w ∧ Go.Sk.Own y.2.2.2.1 70 2 y.2.1 y.1.length y.2.2.1 ((List.range y.1.length).flatMap (acl y.1)) ∧ y.1.length ≤ n ∧ ListAt (zN s) zKH q y.2.2.2.2 n y.1) (fun y => n - y.1.length) ([], none, 0, [], q) ⟨congrArg (Value.int .i64) (Int.sub_zero _).symm, trivial⟩ ⟨H, zAG _ _ _, Nat.zero_le _, zd hS1.inv⟩ ?_
  clear H
  rintro ⟨xs, a, cap, M, pk⟩ gh w ⟨H, hO, hk, hL⟩
  simp only at H hO hk hL ⊢
  have hpk := hL.inv
  obtain ⟨lv, hlv⟩ : ∃ b, pk.liveB = b := ⟨_, rfl⟩
  by_cases hg : lv = true ∧ xs.length < n
  ·obtain ⟨rfl, hkn⟩ := hg
   have hE := zg (B := zN s) (p := pk) hpk
   have hd : decide ((n : Int) - (xs.length : Int) > 0) = true := decide_eq_true (by omega)
   repeat' (first | refine y1 sg ?_ | refine y3 ?_ | refine y5 sg ?_ | refine y7 sg H ?_ | (refine y11 sg H ?_; intro w H) | (refine' y30 zBZ ?_ ?_; rotate_left; exact hlv ▸ zAb H.mem (List.Mem.head _) (List.Mem.tail _ (List.Mem.head _)); intro w hcl; replace H := H.ext hcl; clear hcl) | (refine' y33 zJN ?_ ?_; rotate_left 2; exact zHx (Nat.le_trans hE.inv (Nat.le_of_eq hlen)) hs' H; rintro v N w ⟨x, p', rfl, rfl, -, hS⟩ H; replace hE := hE.seq hS; clear hS) | (refine' y33 zMt ?_ ?_; rotate_left 2; exact zLY (Nat.le_trans hE.inv (Nat.le_of_eq hlen)) hs' H; rintro v N w ⟨x, p', rfl, rfl, -, hS⟩ H; replace hE := hE.seq hS; clear hS) | (refine z14 sg H ?_; intro b w H) | (have hp := H.perm (zH1 M G); refine zi sg 2 200 (M := M) hp rfl rfl rfl rfl rfl rfl rfl rfl rfl rfl rfl hO (zk hp.mem (List.mem_append_right _ (List.Mem.head _))) rfl (zAh rfl) (by unfold maxLen; omega) (by omega) ?_; clear hp hO; intro a cap M w hO H; replace H := (H.perm (zH1 M G).symm).sub (List.sublist_cons_self _ _)) | (refine zw mixed 10 ?_ ?_; exact rfl; intro w hcl; replace H := H.ext hcl; clear hcl) | ((with_reducible apply zBD); decide +kernel) | (refine' z8 0 ?_ ?_; rotate_left; first | exact z9 sg) | (refine' z8 2 ?_ ?_; rotate_left; first | exact z9 sg) | (refine' z8 3 ?_ ?_; rotate_left; first | exact z9 sg) | (refine' z8 5 ?_ ?_; rotate_left; first | exact z9 sg) | (refine' z8 8 ?_ ?_; rotate_left; first | exact z9 sg) | refine z10 1 ?_ | refine z10 4 ?_ | refine z10 6 ?_ | refine z10 7 ?_ | refine z10 9 ?_ | refine z11 1 4 ?_ ?_ | refine z11 1 6 ?_ ?_ | refine y13 ?_ | (refine y17 ?_ ?_; all_goals (intro h; try (exfalso; first | ((rw [hd] at h; cases h); done)))) | (with_reducible first | apply zB | apply zD | apply zC | apply zE | apply zG) | refine zA ?_ | refine y21 ?_ | fail)
   all_goals
    have hS : Step (zN s) zKH pk p' _ := hE.map (fun z => (⟨z.1.2, z.2⟩ : Ac)) (fun x => (((), x.name), x.opn)) ?_ ?_
    ·obtain ⟨e, he, hS⟩ := hS.named
     refine zJ (xs ++ [e], a, cap, M, p') rfl ⟨?_, trivial⟩ ⟨by simpa only [List.length_append, List.length_singleton] using H, ?_, by simp only; rw [List.length_append]; exact hkn, hL.next hS hkn⟩ (by simp only; rw [List.length_append, List.length_singleton]; omega)
     ·exact congrArg (Value.int .i64) (by simp only; rw [List.length_append, List.length_singleton, w64 (by omega) (by omega)]; omega)
     ·simp only; rw [zNh, List.length_append, ← he]; exact hO
    ·intro l h; exact h
    ·intro z l h; exact ⟨by cases z; rfl, h⟩
  ·rw [← hlv] at hg
   have hfin := hL.fin (fun x l h => zLW h) (Nat.le_of_eq hlen) (by omega) hS1 hg hk
   by_cases hkn : xs.length < n
   ·have hlv0 : pk.liveB = false := by cases h : pk.liveB with | false => rfl | true => exact absurd ⟨h, hkn⟩ hg
    have hd : decide ((n : Int) - (xs.length : Int) > 0) = true := decide_eq_true (by omega)
    repeat' (first | refine y1 sg ?_ | refine y5 sg ?_ | (refine' y30 zBZ ?_ ?_; rotate_left; exact hlv0 ▸ zAb H.mem (List.Mem.head _) (List.Mem.tail _ (List.Mem.head _)); intro w hcl; replace H := H.ext hcl; clear hcl) | refine y13 ?_ | (refine y17 ?_ ?_; all_goals (intro h; try (exfalso; first | ((rw [hd] at h; cases h); done)))) | (with_reducible first | apply zB | apply zD | apply zC | apply zL | apply zS) | refine zA ?_ | refine y24 ?_ | refine y22 ?_ | fail)
    exact zJ (xs, a, cap, M, pk) rfl trivial ⟨H, hO, by simp only; omega, hfin⟩ (Nat.lt_succ_self 0)
   ·have hd : decide ((n : Int) - (xs.length : Int) > 0) = false := decide_eq_false (by omega)
    repeat' (first | refine y1 sg ?_ | refine y14 ?_ | (refine y17 ?_ ?_; all_goals (intro h; try (exfalso; first | ((rw [hd] at h; cases h); done)))) | (with_reducible first | apply zB | apply zD | apply zC | apply zL | apply zS) | refine zA ?_ | refine y24 ?_ | refine y22 ?_ | fail)
    exact zJ (xs, a, cap, M, pk) rfl trivial ⟨H, hO, by simp only; omega, hfin⟩ (Nat.lt_succ_self 0)
 clear H hS1 hx0 hx1
 rintro ⟨x0, a0, c0, M0, p1⟩ gh w ⟨H, O0, n0, hS⟩
 simp only at H O0 n0 hS ⊢
 replace hA := hA.seq hS; clear hS
 obtain ⟨R1, hR1⟩ : ∃ R, M0 ++ G = R := ⟨_, rfl⟩
 rw [hR1] at H
 repeat' (first | refine y1 sg ?_ | refine y3 ?_ | (refine' y33 zCk ?_ ?_; rotate_left 2; exact zB2 (Nat.le_trans hA.inv (Nat.le_of_eq hlen)) hs' H; rintro v N w ⟨x, q, rfl, rfl, ⟨hx0, hx1⟩, hS1⟩ H) | (with_reducible first | apply zB | apply zD | apply zC) | refine zA ?_ | fail)
 obtain ⟨n, rfl⟩ : ∃ n : Nat, x = (n : Int) := ⟨x.toNat, by omega⟩
 refine CW.midL [(6, 8), (52, 76)] (fun _ : List Ins × Option Addr × Nat × zI × Rs => []) (fun y w => St w0 (rdR pr s y.2.2.2.2 :: xr br pr y.2.2.2.2.bad :: cb b3 [.int .i64 k0, .int .i64 k1, .int .i64 k2, .int .i64 k3, .slice a0 x0.length c0, .slice y.2.1 y.1.length y.2.2.1, .slice none 0 0, .slice none 0 0, .slice none 0 0] 29 :: cb b2 [.int .i64 0, .int .i64 0, .int .i64 0, .int .i64 0, .slice none 0 0, .slice none 0 0, .slice none 0 0, .slice none 0 0, .slice none 0 0] 29 :: (y.2.2.2.1 ++ R1)) w ∧ Go.Sk.Own y.2.2.2.1 72 3 y.2.1 y.1.length y.2.2.1 ((List.range y.1.length).flatMap (ing y.1)) ∧ y.1.length ≤ s.size ∧ Step (zN s) (zy zKI) p1 y.2.2.2.2 y.1) ?_ ?_
 ·repeat' (first | with_reducible apply zE | fail)
  refine zK [(6, 8), (52, 76)] (fun y : List Ins × Option Addr × Nat × zI × Rs => [(6, .int .i64 ((n : Int) - (y.1.length : Int)))]) (fun y w => St w0 (rdR pr s y.2.2.2.2 :: xr br pr y.2.2.2.2.bad :: cb b3 [.int .i64 k0, .int .i64 k1, .int .i64 k2, .int .i64 k3, .slice a0 x0.length c0, .slice y.2.1 y.1.length y.2.2.1, .slice none 0 0, .slice none 0 0, .slice none 0 0] 29 :: cb b2 [.int .i64 0, .int .i64 0, .int .i64 0, .int .i64 0, .slice none 0 0, .slice none 0 0, .slice none 0 0, .slice none 0 0, .slice none 0 0] 29 :: (y.2.2.2.1 ++ R1)) w ∧ Go.Sk.Own y.2.2.2.1 72 3 y.2.1 y.1.length y.2.2.1 ((List.range y.1.length).flatMap (ing y.1)) ∧ y.1.length ≤ n ∧ ListAt (zN s) zKI q y.2.2.2.2 n y.1) (fun y => n - y.1.length) ([], none, 0, [], q) ⟨congrArg (Value.int .i64) (Int.sub_zero _).symm, trivial⟩ ⟨H, zAG _ _ _, Nat.zero_le _, zd hS1.inv⟩ ?_
  clear H
  rintro ⟨xs, a, cap, M, pk⟩ gh w ⟨H, hO, hk, hL⟩
  simp only at H hO hk hL ⊢
  have hpk := hL.inv
  obtain ⟨lv, hlv⟩ : ∃ b, pk.liveB = b := ⟨_, rfl⟩
  by_cases hg : lv = true ∧ xs.length < n
  ·obtain ⟨rfl, hkn⟩ := hg
   have hE := zg (B := zN s) (p := pk) hpk
   have hd : decide ((n : Int) - (xs.length : Int) > 0) = true := decide_eq_true (by omega)
   repeat' (first | refine y1 sg ?_ | refine y3 ?_ | refine y5 sg ?_ | refine y7 sg H ?_ | (refine y11 sg H ?_; intro w H) | (refine' y30 zBZ ?_ ?_; rotate_left; exact hlv ▸ zAb H.mem (List.Mem.head _) (List.Mem.tail _ (List.Mem.head _)); intro w hcl; replace H := H.ext hcl; clear hcl) | (refine' y33 zBg ?_ ?_; rotate_left 2; exact zEK (Nat.le_trans hE.inv (Nat.le_of_eq hlen)) hs' H; rintro v N w ⟨x, p', rfl, rfl, ⟨hx0, hx1⟩, hS⟩ H; replace hE := hE.seq hS; clear hS) | (refine' y33 zJN ?_ ?_; rotate_left 2; exact zHx (Nat.le_trans hE.inv (Nat.le_of_eq hlen)) hs' H; rintro v N w ⟨x, p', rfl, rfl, -, hS⟩ H; replace hE := hE.seq hS; clear hS) | (refine' y33 zMt ?_ ?_; rotate_left 2; exact zLY (Nat.le_trans hE.inv (Nat.le_of_eq hlen)) hs' H; rintro v N w ⟨x, p', rfl, rfl, -, hS⟩ H; replace hE := hE.seq hS; clear hS) | (refine z14 sg H ?_; intro b w H) | (have hp := H.perm (zH1 M R1); refine zi sg 3 200 (M := M) hp rfl rfl rfl rfl rfl rfl rfl rfl rfl rfl rfl hO (zk hp.mem (List.mem_append_right _ (List.Mem.head _))) rfl (zAh rfl) (by unfold maxLen; omega) (by omega) ?_; clear hp hO; intro a cap M w hO H; replace H := (H.perm (zH1 M R1).symm).sub (List.sublist_cons_self _ _)) | (refine zw mixed 11 ?_ ?_; exact rfl; intro w hcl; replace H := H.ext hcl; clear hcl) | ((with_reducible apply zBD); decide +kernel) | (refine' z8 0 ?_ ?_; rotate_left; first | exact z9 sg) | (refine' z8 2 ?_ ?_; rotate_left; first | exact z9 sg) | (refine' z8 3 ?_ ?_; rotate_left; first | exact z9 sg) | (refine' z8 4 ?_ ?_; rotate_left; first | exact z9 sg) | (refine' z8 6 ?_ ?_; rotate_left; first | exact z9 sg) | (refine' z8 9 ?_ ?_; rotate_left; first | exact z9 sg) | refine z10 1 ?_ | refine z10 5 ?_ | refine z10 7 ?_ | refine z10 8 ?_ | refine z10 10 ?_ | refine z11 1 5 ?_ ?_ | refine z11 1 7 ?_ ?_ | refine y13 ?_ | (refine y17 ?_ ?_; all_goals (intro h; try (exfalso; first | ((rw [hd] at h; cases h); done)))) | (with_reducible first | apply zB | apply zD | apply zC | apply zE | apply zG) | refine zA ?_ | refine y21 ?_ | fail)
   all_goals
    have hS : Step (zN s) zKI pk p' _ := hE.map (fun z => (⟨z.1.1.2, z.1.2, z.2⟩ : Ins)) (fun x => ((((), x.name), x.tick), x.halted)) ?_ ?_
    ·obtain ⟨e, he, hS⟩ := hS.named
     refine zJ (xs ++ [e], a, cap, M, p') rfl ⟨?_, trivial⟩ ⟨by simpa only [List.length_append, List.length_singleton] using H, ?_, by simp only; rw [List.length_append]; exact hkn, hL.next hS hkn⟩ (by simp only; rw [List.length_append, List.length_singleton]; omega)
     ·exact congrArg (Value.int .i64) (by simp only; rw [List.length_append, List.length_singleton, w64 (by omega) (by omega)]; omega)
     ·simp only; rw [zNi, List.length_append, ← he]; exact hO
    ·intro l h; exact h
    ·intro z l h; exact ⟨by cases z; rfl, h⟩
  ·rw [← hlv] at hg
   have hfin := hL.fin (fun x l h => zLX h) (Nat.le_of_eq hlen) (by omega) hS1 hg hk
   by_cases hkn : xs.length < n
   ·have hlv0 : pk.liveB = false := by cases h : pk.liveB with | false => rfl | true => exact absurd ⟨h, hkn⟩ hg
    have hd : decide ((n : Int) - (xs.length : Int) > 0) = true := decide_eq_true (by omega)
    repeat' (first | refine y1 sg ?_ | refine y5 sg ?_ | (refine' y30 zBZ ?_ ?_; rotate_left; exact hlv0 ▸ zAb H.mem (List.Mem.head _) (List.Mem.tail _ (List.Mem.head _)); intro w hcl; replace H := H.ext hcl; clear hcl) | refine y13 ?_ | (refine y17 ?_ ?_; all_goals (intro h; try (exfalso; first | ((rw [hd] at h; cases h); done)))) | (with_reducible first | apply zB | apply zD | apply zC | apply zL | apply zS) | refine zA ?_ | refine y24 ?_ | refine y22 ?_ | fail)
    exact zJ (xs, a, cap, M, pk) rfl trivial ⟨H, hO, by simp only; omega, hfin⟩ (Nat.lt_succ_self 0)
   ·have hd : decide ((n : Int) - (xs.length : Int) > 0) = false := decide_eq_false (by omega)
    repeat' (first | refine y1 sg ?_ | refine y14 ?_ | (refine y17 ?_ ?_; all_goals (intro h; try (exfalso; first | ((rw [hd] at h; cases h); done)))) | (with_reducible first | apply zB | apply zD | apply zC | apply zL | apply zS) | refine zA ?_ | refine y24 ?_ | refine y22 ?_ | fail)
    exact zJ (xs, a, cap, M, pk) rfl trivial ⟨H, hO, by simp only; omega, hfin⟩ (Nat.lt_succ_self 0)
 clear H hS1 hx0 hx1
 rintro ⟨x1, a1, c1, M1, p2⟩ gh w ⟨H, O1, n1, hS⟩
 simp only at H O1 n1 hS ⊢
 replace hA := hA.seq hS; clear hS
 obtain ⟨R2, hR2⟩ : ∃ R, M1 ++ R1 = R := ⟨_, rfl⟩
 rw [hR2] at H
 repeat' (first | refine y1 sg ?_ | refine y3 ?_ | (refine' y33 zCk ?_ ?_; rotate_left 2; exact zB2 (Nat.le_trans hA.inv (Nat.le_of_eq hlen)) hs' H; rintro v N w ⟨x, q, rfl, rfl, ⟨hx0, hx1⟩, hS1⟩ H) | (with_reducible first | apply zB | apply zD | apply zC) | refine zA ?_ | fail)
 obtain ⟨n, rfl⟩ : ∃ n : Nat, x = (n : Int) := ⟨x.toNat, by omega⟩
 refine CW.midL [(9, 10), (79, 111)] (fun _ : List Row4 × Option Addr × Nat × zI × Rs => []) (fun y w => St w0 (rdR pr s y.2.2.2.2 :: xr br pr y.2.2.2.2.bad :: cb b3 [.int .i64 k0, .int .i64 k1, .int .i64 k2, .int .i64 k3, .slice a0 x0.length c0, .slice a1 x1.length c1, .slice y.2.1 y.1.length y.2.2.1, .slice none 0 0, .slice none 0 0] 29 :: cb b2 [.int .i64 0, .int .i64 0, .int .i64 0, .int .i64 0, .slice none 0 0, .slice none 0 0, .slice none 0 0, .slice none 0 0, .slice none 0 0] 29 :: (y.2.2.2.1 ++ R2)) w ∧ Go.Sk.Own y.2.2.2.1 74 4 y.2.1 y.1.length y.2.2.1 ((List.range y.1.length).flatMap (rwl y.1)) ∧ y.1.length ≤ s.size ∧ Step (zN s) (zy zHy) p2 y.2.2.2.2 y.1) ?_ ?_
 ·repeat' (first | with_reducible apply zE | fail)
  refine zK [(9, 10), (79, 111)] (fun y : List Row4 × Option Addr × Nat × zI × Rs => [(9, .int .i64 ((n : Int) - (y.1.length : Int)))]) (fun y w => St w0 (rdR pr s y.2.2.2.2 :: xr br pr y.2.2.2.2.bad :: cb b3 [.int .i64 k0, .int .i64 k1, .int .i64 k2, .int .i64 k3, .slice a0 x0.length c0, .slice a1 x1.length c1, .slice y.2.1 y.1.length y.2.2.1, .slice none 0 0, .slice none 0 0] 29 :: cb b2 [.int .i64 0, .int .i64 0, .int .i64 0, .int .i64 0, .slice none 0 0, .slice none 0 0, .slice none 0 0, .slice none 0 0, .slice none 0 0] 29 :: (y.2.2.2.1 ++ R2)) w ∧ Go.Sk.Own y.2.2.2.1 74 4 y.2.1 y.1.length y.2.2.1 ((List.range y.1.length).flatMap (rwl y.1)) ∧ y.1.length ≤ n ∧ ListAt (zN s) zHy q y.2.2.2.2 n y.1) (fun y => n - y.1.length) ([], none, 0, [], q) ⟨congrArg (Value.int .i64) (Int.sub_zero _).symm, trivial⟩ ⟨H, zAG _ _ _, Nat.zero_le _, zd hS1.inv⟩ ?_
  clear H
  rintro ⟨xs, a, cap, M, pk⟩ gh w ⟨H, hO, hk, hL⟩
  simp only at H hO hk hL ⊢
  have hpk := hL.inv
  obtain ⟨lv, hlv⟩ : ∃ b, pk.liveB = b := ⟨_, rfl⟩
  by_cases hg : lv = true ∧ xs.length < n
  ·obtain ⟨rfl, hkn⟩ := hg
   have hE := zg (B := zN s) (p := pk) hpk
   have hd : decide ((n : Int) - (xs.length : Int) > 0) = true := decide_eq_true (by omega)
   repeat' (first | refine y1 sg ?_ | refine y3 ?_ | refine y5 sg ?_ | refine y7 sg H ?_ | (refine y10 sg H ?_; intro b w H) | (refine y11 sg H ?_; intro w H) | (refine' y30 zBZ ?_ ?_; rotate_left; exact hlv ▸ zAb H.mem (List.Mem.head _) (List.Mem.tail _ (List.Mem.head _)); intro w hcl; replace H := H.ext hcl; clear hcl) | (refine' y33 zBg ?_ ?_; rotate_left 2; exact zEK (Nat.le_trans hE.inv (Nat.le_of_eq hlen)) hs' H; rintro v N w ⟨x, p', rfl, rfl, ⟨hx0, hx1⟩, hS⟩ H; replace hE := hE.seq hS; clear hS) | (refine' y33 zBw ?_ ?_; rotate_left 2; exact zA2 (Nat.le_trans hE.inv (Nat.le_of_eq hlen)) hs' H; rintro v N w ⟨x, p', rfl, rfl, -, hS⟩ H; replace hE := hE.seq hS; clear hS) | (refine' y33 zBw ?_ ?_; rotate_left 2; exact zA2 (Nat.le_trans hE.inv (Nat.le_of_eq hlen)) hs' (H.perm zDf); rintro v N w ⟨x, p', rfl, rfl, -, hS⟩ H; replace hE := hE.seq hS; clear hS) | (refine z14 sg H ?_; intro b w H) | (have hp := H.perm (zBv M R2); refine zi sg 4 200 (M := M) hp rfl rfl rfl rfl rfl rfl rfl rfl rfl rfl rfl hO (zk hp.mem (List.mem_append_right _ (List.Mem.head _))) rfl (zAh rfl) (by unfold maxLen; omega) (by omega) ?_; clear hp hO; intro a cap M w hO H; replace H := (H.perm (zBv M R2).symm).sub (List.sublist_cons_self _ _)) | refine y13 ?_ | (refine y17 ?_ ?_; all_goals (intro h; try (exfalso; first | ((rw [hd] at h; cases h); done)))) | (with_reducible first | apply zB | apply zD | apply zC | apply zE | apply zG) | refine zA ?_ | refine y21 ?_ | (refine y23 ?_ ?_; all_goals (intro h; try (exfalso; first | ((rw [hd] at h; cases h); done)))) | fail)
   all_goals
    have hS : Step (zN s) zHy pk p' _ := hE.map (fun z => zj ⟨z.1.1.1.2, z.1.1.2, z.1.2, z.2⟩) (fun x => (((((), x.acct), x.asset), (zj x).free), x.held)) ?_ ?_
    ·obtain ⟨e, he, hS⟩ := hS.named
     unfold zj at he
     first | rw [if_pos (eqI h)] at he | rw [if_neg (neI h)] at he
     refine zJ (xs ++ [e], a, cap, M, p') rfl ⟨?_, trivial⟩ ⟨by simpa only [List.length_append, List.length_singleton] using (H.sub (((List.sublist_cons_self _ _).cons_cons _).cons_cons _)), ?_, by simp only; rw [List.length_append]; exact hkn, hL.next hS hkn⟩ (by simp only; rw [List.length_append, List.length_singleton]; omega)
     ·exact congrArg (Value.int .i64) (by simp only; rw [List.length_append, List.length_singleton, w64 (by omega) (by omega)]; omega)
     ·simp only; rw [zNj, List.length_append, ← he]; exact hO
    ·exact fun l h => zQn l h
    ·exact zQo
  ·rw [← hlv] at hg
   have hfin := hL.fin (fun x l h => zQf h) (Nat.le_of_eq hlen) (by omega) hS1 hg hk
   by_cases hkn : xs.length < n
   ·have hlv0 : pk.liveB = false := by cases h : pk.liveB with | false => rfl | true => exact absurd ⟨h, hkn⟩ hg
    have hd : decide ((n : Int) - (xs.length : Int) > 0) = true := decide_eq_true (by omega)
    repeat' (first | refine y1 sg ?_ | refine y5 sg ?_ | (refine' y30 zBZ ?_ ?_; rotate_left; exact hlv0 ▸ zAb H.mem (List.Mem.head _) (List.Mem.tail _ (List.Mem.head _)); intro w hcl; replace H := H.ext hcl; clear hcl) | refine y13 ?_ | (refine y17 ?_ ?_; all_goals (intro h; try (exfalso; first | ((rw [hd] at h; cases h); done)))) | (with_reducible first | apply zB | apply zD | apply zC | apply zL | apply zS) | refine zA ?_ | refine y24 ?_ | refine y22 ?_ | fail)
    exact zJ (xs, a, cap, M, pk) rfl trivial ⟨H, hO, by simp only; omega, hfin⟩ (Nat.lt_succ_self 0)
   ·have hd : decide ((n : Int) - (xs.length : Int) > 0) = false := decide_eq_false (by omega)
    repeat' (first | refine y1 sg ?_ | refine y14 ?_ | (refine y17 ?_ ?_; all_goals (intro h; try (exfalso; first | ((rw [hd] at h; cases h); done)))) | (with_reducible first | apply zB | apply zD | apply zC | apply zL | apply zS) | refine zA ?_ | refine y24 ?_ | refine y22 ?_ | fail)
    exact zJ (xs, a, cap, M, pk) rfl trivial ⟨H, hO, by simp only; omega, hfin⟩ (Nat.lt_succ_self 0)
 clear H hS1 hx0 hx1
 rintro ⟨x2, a2, c2, M2, p3⟩ gh w ⟨H, O2, n2, hS⟩
 simp only at H O2 n2 hS ⊢
 replace hA := hA.seq hS; clear hS
 obtain ⟨R3, hR3⟩ : ∃ R, M2 ++ R2 = R := ⟨_, rfl⟩
 rw [hR3] at H
 repeat' (first | refine y1 sg ?_ | refine y3 ?_ | (refine' y33 zCk ?_ ?_; rotate_left 2; exact zB2 (Nat.le_trans hA.inv (Nat.le_of_eq hlen)) hs' H; rintro v N w ⟨x, q, rfl, rfl, ⟨hx0, hx1⟩, hS1⟩ H) | (with_reducible first | apply zB | apply zD | apply zC) | refine zA ?_ | fail)
 obtain ⟨n, rfl⟩ : ∃ n : Nat, x = (n : Int) := ⟨x.toNat, by omega⟩
 refine CW.midL [(11, 12), (114, 149)] (fun _ : List Odr × Option Addr × Nat × zI × Rs => []) (fun y w => St w0 (rdR pr s y.2.2.2.2 :: xr br pr y.2.2.2.2.bad :: cb b3 [.int .i64 k0, .int .i64 k1, .int .i64 k2, .int .i64 k3, .slice a0 x0.length c0, .slice a1 x1.length c1, .slice a2 x2.length c2, .slice y.2.1 y.1.length y.2.2.1, .slice none 0 0] 29 :: cb b2 [.int .i64 0, .int .i64 0, .int .i64 0, .int .i64 0, .slice none 0 0, .slice none 0 0, .slice none 0 0, .slice none 0 0, .slice none 0 0] 29 :: (y.2.2.2.1 ++ R3)) w ∧ Go.Sk.Own y.2.2.2.1 76 6 y.2.1 y.1.length y.2.2.1 ((List.range y.1.length).flatMap (odl y.1)) ∧ y.1.length ≤ s.size ∧ Step (zN s) (zy zKJ) p3 y.2.2.2.2 y.1) ?_ ?_
 ·repeat' (first | with_reducible apply zE | fail)
  refine zK [(11, 12), (114, 149)] (fun y : List Odr × Option Addr × Nat × zI × Rs => [(11, .int .i64 ((n : Int) - (y.1.length : Int)))]) (fun y w => St w0 (rdR pr s y.2.2.2.2 :: xr br pr y.2.2.2.2.bad :: cb b3 [.int .i64 k0, .int .i64 k1, .int .i64 k2, .int .i64 k3, .slice a0 x0.length c0, .slice a1 x1.length c1, .slice a2 x2.length c2, .slice y.2.1 y.1.length y.2.2.1, .slice none 0 0] 29 :: cb b2 [.int .i64 0, .int .i64 0, .int .i64 0, .int .i64 0, .slice none 0 0, .slice none 0 0, .slice none 0 0, .slice none 0 0, .slice none 0 0] 29 :: (y.2.2.2.1 ++ R3)) w ∧ Go.Sk.Own y.2.2.2.1 76 6 y.2.1 y.1.length y.2.2.1 ((List.range y.1.length).flatMap (odl y.1)) ∧ y.1.length ≤ n ∧ ListAt (zN s) zKJ q y.2.2.2.2 n y.1) (fun y => n - y.1.length) ([], none, 0, [], q) ⟨congrArg (Value.int .i64) (Int.sub_zero _).symm, trivial⟩ ⟨H, zAG _ _ _, Nat.zero_le _, zd hS1.inv⟩ ?_
  clear H
  rintro ⟨xs, a, cap, M, pk⟩ gh w ⟨H, hO, hk, hL⟩
  simp only at H hO hk hL ⊢
  have hpk := hL.inv
  obtain ⟨lv, hlv⟩ : ∃ b, pk.liveB = b := ⟨_, rfl⟩
  by_cases hg : lv = true ∧ xs.length < n
  ·obtain ⟨rfl, hkn⟩ := hg
   have hE := zg (B := zN s) (p := pk) hpk
   have hd : decide ((n : Int) - (xs.length : Int) > 0) = true := decide_eq_true (by omega)
   repeat' (first | refine y1 sg ?_ | refine y3 ?_ | refine y5 sg ?_ | refine y7 sg H ?_ | (refine y10 sg H ?_; intro b w H) | (refine y11 sg H ?_; intro w H) | (refine' y30 zBZ ?_ ?_; rotate_left; exact hlv ▸ zAb H.mem (List.Mem.head _) (List.Mem.tail _ (List.Mem.head _)); intro w hcl; replace H := H.ext hcl; clear hcl) | (refine' y33 zBg ?_ ?_; rotate_left 2; exact zEK (Nat.le_trans hE.inv (Nat.le_of_eq hlen)) hs' H; rintro v N w ⟨x, p', rfl, rfl, ⟨hx0, hx1⟩, hS⟩ H; replace hE := hE.seq hS; clear hS) | (refine' y33 zBw ?_ ?_; rotate_left 2; exact zA2 (Nat.le_trans hE.inv (Nat.le_of_eq hlen)) hs' H; rintro v N w ⟨x, p', rfl, rfl, -, hS⟩ H; replace hE := hE.seq hS; clear hS) | (refine' y33 zBw ?_ ?_; rotate_left 2; exact zA2 (Nat.le_trans hE.inv (Nat.le_of_eq hlen)) hs' (H.perm zDf); rintro v N w ⟨x, p', rfl, rfl, -, hS⟩ H; replace hE := hE.seq hS; clear hS) | (refine' y33 zGp ?_ ?_; rotate_left 2; exact zH0 (Nat.le_trans hE.inv (Nat.le_of_eq hlen)) hs' H; rintro v N w ⟨x, p', rfl, rfl, ⟨hb0, hb1⟩, hS⟩ H; replace hE := hE.seq hS; clear hS) | (refine z14 sg H ?_; intro b w H) | (have hp := H.perm (zBv M R3); refine zi sg 6 200 (M := M) hp rfl rfl rfl rfl rfl rfl rfl rfl rfl rfl rfl hO (zk hp.mem (List.mem_append_right _ (List.Mem.head _))) rfl (zAh rfl) (by unfold maxLen; omega) (by omega) ?_; clear hp hO; intro a cap M w hO H; replace H := (H.perm (zBv M R3).symm).sub (List.sublist_cons_self _ _)) | refine y13 ?_ | (refine y17 ?_ ?_; all_goals (intro h; try (exfalso; first | ((rw [hd] at h; cases h); done)))) | (with_reducible first | apply zB | apply zD | apply zC | apply zE | apply zG) | refine zA ?_ | refine y21 ?_ | fail)
   all_goals
    have hS : Step (zN s) zKJ pk p' _ := hE.map (fun z => (⟨z.1.1.1.1.1.2, z.1.1.1.1.2, z.1.1.1.2, z.1.1.2, z.1.2, z.2⟩ : Odr)) (fun x => (((((((), x.id), x.acct), x.inst), x.side), x.price), x.left)) ?_ ?_
    ·obtain ⟨e, he, hS⟩ := hS.named
     rw [u8id hb0 hb1] at hO
     refine zJ (xs ++ [e], a, cap, M, p') rfl ⟨?_, trivial⟩ ⟨by simpa only [List.length_append, List.length_singleton] using (H.sub (((List.sublist_cons_self _ _).cons_cons _).cons_cons _)), ?_, by simp only; rw [List.length_append]; exact hkn, hL.next hS hkn⟩ (by simp only; rw [List.length_append, List.length_singleton]; omega)
     ·exact congrArg (Value.int .i64) (by simp only; rw [List.length_append, List.length_singleton, w64 (by omega) (by omega)]; omega)
     ·simp only; rw [zNk, List.length_append, ← he]; exact hO
    ·intro l h; exact h
    ·intro z l h; exact ⟨by cases z; rfl, h⟩
  ·rw [← hlv] at hg
   have hfin := hL.fin (fun x l h => zQg h) (Nat.le_of_eq hlen) (by omega) hS1 hg hk
   by_cases hkn : xs.length < n
   ·have hlv0 : pk.liveB = false := by cases h : pk.liveB with | false => rfl | true => exact absurd ⟨h, hkn⟩ hg
    have hd : decide ((n : Int) - (xs.length : Int) > 0) = true := decide_eq_true (by omega)
    repeat' (first | refine y1 sg ?_ | refine y5 sg ?_ | (refine' y30 zBZ ?_ ?_; rotate_left; exact hlv0 ▸ zAb H.mem (List.Mem.head _) (List.Mem.tail _ (List.Mem.head _)); intro w hcl; replace H := H.ext hcl; clear hcl) | refine y13 ?_ | (refine y17 ?_ ?_; all_goals (intro h; try (exfalso; first | ((rw [hd] at h; cases h); done)))) | (with_reducible first | apply zB | apply zD | apply zC | apply zL | apply zS) | refine zA ?_ | refine y24 ?_ | refine y22 ?_ | fail)
    exact zJ (xs, a, cap, M, pk) rfl trivial ⟨H, hO, by simp only; omega, hfin⟩ (Nat.lt_succ_self 0)
   ·have hd : decide ((n : Int) - (xs.length : Int) > 0) = false := decide_eq_false (by omega)
    repeat' (first | refine y1 sg ?_ | refine y14 ?_ | (refine y17 ?_ ?_; all_goals (intro h; try (exfalso; first | ((rw [hd] at h; cases h); done)))) | (with_reducible first | apply zB | apply zD | apply zC | apply zL | apply zS) | refine zA ?_ | refine y24 ?_ | refine y22 ?_ | fail)
    exact zJ (xs, a, cap, M, pk) rfl trivial ⟨H, hO, by simp only; omega, hfin⟩ (Nat.lt_succ_self 0)
 clear H hS1 hx0 hx1
 rintro ⟨x3, a3, c3, M3, p4⟩ gh w ⟨H, O3, n3, hS⟩
 simp only at H O3 n3 hS ⊢
 replace hA := hA.seq hS; clear hS
 obtain ⟨R4, hR4⟩ : ∃ R, M3 ++ R3 = R := ⟨_, rfl⟩
 rw [hR4] at H
 repeat' (first | refine y1 sg ?_ | refine y3 ?_ | (refine' y33 zCk ?_ ?_; rotate_left 2; exact zB2 (Nat.le_trans hA.inv (Nat.le_of_eq hlen)) hs' H; rintro v N w ⟨x, q, rfl, rfl, ⟨hx0, hx1⟩, hS1⟩ H) | (with_reducible first | apply zB | apply zD | apply zC) | refine zA ?_ | fail)
 obtain ⟨n, rfl⟩ : ∃ n : Nat, x = (n : Int) := ⟨x.toNat, by omega⟩
 refine CW.midL [(13, 16), (152, 211)] (fun _ : La => []) (fun y w => (St w0 (rdR pr s y.pk :: xr br pr y.pk.bad :: cb b3 [.int .i64 k0, .int .i64 k1, .int .i64 k2, .int .i64 k3, .slice a0 x0.length c0, .slice a1 x1.length c1, .slice a2 x2.length c2, .slice a3 x3.length c3, .slice y.a y.xs.length y.cap] 29 :: cb b2 [.int .i64 0, .int .i64 0, .int .i64 0, .int .i64 0, .slice none 0 0, .slice none 0 0, .slice none 0 0, .slice none 0 0, .slice none 0 0] 29 :: (y.mo ++ (y.mb ++ R4))) w ∧ Go.Sk.Own y.mo 81 9 y.a y.xs.length y.cap ((List.range y.xs.length).flatMap (ael y.xs y.ad)) ∧ (∀ j, j < y.xs.length → Bids y.mb (y.ad j).1 (y.ad j).2 (y.xs.getD j default).bids)) ∧ y.xs.length ≤ s.size ∧ Step (zN s) (zy zKO) p4 y.pk y.xs) ?_ ?_
 ·repeat' (first | with_reducible apply zE | fail)
  refine zK [(13, 16), (152, 211)] (fun y : La => [(13, .int .i64 ((n : Int) - (y.xs.length : Int)))]) (fun y w => (St w0 (rdR pr s y.pk :: xr br pr y.pk.bad :: cb b3 [.int .i64 k0, .int .i64 k1, .int .i64 k2, .int .i64 k3, .slice a0 x0.length c0, .slice a1 x1.length c1, .slice a2 x2.length c2, .slice a3 x3.length c3, .slice y.a y.xs.length y.cap] 29 :: cb b2 [.int .i64 0, .int .i64 0, .int .i64 0, .int .i64 0, .slice none 0 0, .slice none 0 0, .slice none 0 0, .slice none 0 0, .slice none 0 0] 29 :: (y.mo ++ (y.mb ++ R4))) w ∧ Go.Sk.Own y.mo 81 9 y.a y.xs.length y.cap ((List.range y.xs.length).flatMap (ael y.xs y.ad)) ∧ (∀ j, j < y.xs.length → Bids y.mb (y.ad j).1 (y.ad j).2 (y.xs.getD j default).bids)) ∧ y.xs.length ≤ n ∧ ListAt (zN s) zKO q y.pk n y.xs) (fun y => n - y.xs.length) ⟨[], none, 0, fun _ => (none, 0), [], [], q⟩ ⟨congrArg (Value.int .i64) (Int.sub_zero _).symm, trivial⟩ ⟨⟨H, zAG _ _ _, fun j hj => absurd hj (Nat.not_lt_zero _)⟩, Nat.zero_le _, zd hS1.inv⟩ ?_
  clear H
  rintro ⟨xs, a, cap, ad, M, mb, pk⟩ gh w ⟨⟨H, hO, hB⟩, hk, hL⟩
  simp only at H hO hB hk hL ⊢
  have hpk := hL.inv
  obtain ⟨lv, hlv⟩ : ∃ b, pk.liveB = b := ⟨_, rfl⟩
  by_cases hg : lv = true ∧ xs.length < n
  ·obtain ⟨rfl, hkn⟩ := hg
   have hE := zg (B := zN s) (p := pk) hpk
   have hd : decide ((n : Int) - (xs.length : Int) > 0) = true := decide_eq_true (by omega)
   repeat' (first | refine y1 sg ?_ | refine y5 sg ?_ | (refine' y30 zBZ ?_ ?_; rotate_left; exact hlv ▸ zAb H.mem (List.Mem.head _) (List.Mem.tail _ (List.Mem.head _)); intro w hcl; replace H := H.ext hcl; clear hcl) | refine y13 ?_ | (refine y17 ?_ ?_; all_goals (intro h; try (exfalso; first | ((rw [hd] at h; cases h); done)))) | (with_reducible first | apply zB | apply zD | apply zC | apply zG) | refine zA ?_ | refine y21 ?_ | fail)
   with_reducible apply zE
   repeat' (first | refine y1 sg ?_ | refine y3 ?_ | (refine y10 sg H ?_; intro b w H) | (refine y11 sg H ?_; intro w H) | (refine' y33 zBg ?_ ?_; rotate_left 2; exact zEK (Nat.le_trans hE.inv (Nat.le_of_eq hlen)) hs' H; rintro v N w ⟨x, p', rfl, rfl, ⟨hx0, hx1⟩, hS⟩ H; replace hE := hE.seq hS; clear hS) | (refine' y33 zBw ?_ ?_; rotate_left 2; exact zA2 (Nat.le_trans hE.inv (Nat.le_of_eq hlen)) hs' H; rintro v N w ⟨x, p', rfl, rfl, -, hS⟩ H; replace hE := hE.seq hS; clear hS) | (refine' y33 zBw ?_ ?_; rotate_left 2; exact zA2 (Nat.le_trans hE.inv (Nat.le_of_eq hlen)) hs' (H.perm zDf); rintro v N w ⟨x, p', rfl, rfl, -, hS⟩ H; replace hE := hE.seq hS; clear hS) | (refine' y33 zJN ?_ ?_; rotate_left 2; exact zHx (Nat.le_trans hE.inv (Nat.le_of_eq hlen)) hs' H; rintro v N w ⟨x, p', rfl, rfl, -, hS⟩ H; replace hE := hE.seq hS; clear hS) | (refine' y33 zCk ?_ ?_; rotate_left 2; exact zB2 (Nat.le_trans hE.inv (Nat.le_of_eq hlen)) hs' H; rintro v N w ⟨x, q2, rfl, rfl, ⟨hx2, hx3⟩, hS2⟩ H) | (with_reducible first | apply zB | apply zD | apply zC) | refine zA ?_ | fail)
   obtain ⟨m, rfl⟩ : ∃ m : Nat, x = (m : Int) := ⟨x.toNat, by omega⟩
   obtain ⟨⟨⟨⟨⟨⟨⟨⟨⟨u0, g1⟩, g2⟩, g3⟩, g4⟩, g5⟩, g6⟩, g7⟩, g8⟩, hz, hE⟩ := hE.named'
   simp only [Prod.mk.injEq] at hz
   obtain ⟨⟨⟨⟨⟨⟨⟨⟨-, rfl⟩, rfl⟩, rfl⟩, rfl⟩, rfl⟩, rfl⟩, rfl⟩, rfl⟩ := hz
   obtain ⟨b4, rfl⟩ : ∃ z, z = b := ⟨_, rfl⟩
   obtain ⟨RR, hRR⟩ : ∃ R, M ++ (mb ++ R4) = R := ⟨_, rfl⟩
   rw [hRR] at H
   refine CW.midL [(15, 16), (186, 205)] (fun _ : List Bid × Option Addr × Nat × zI × Rs => []) (fun y w => (St w0 (rdR pr s y.2.2.2.2 :: xr br pr y.2.2.2.2.bad :: cb b4 [.int .i64 g1, .int .i64 g2, .int .i64 g3, .bool g4, .int .i64 g5, .int .i64 g6, .int .i64 g7, .int .i64 g8, .slice y.2.1 y.1.length y.2.2.1] 81 :: cb b3 [.int .i64 k0, .int .i64 k1, .int .i64 k2, .int .i64 k3, .slice a0 x0.length c0, .slice a1 x1.length c1, .slice a2 x2.length c2, .slice a3 x3.length c3, .slice a xs.length cap] 29 :: cb b2 [.int .i64 0, .int .i64 0, .int .i64 0, .int .i64 0, .slice none 0 0, .slice none 0 0, .slice none 0 0, .slice none 0 0, .slice none 0 0] 29 :: (y.2.2.2.1 ++ RR)) w ∧ Go.Sk.Own y.2.2.2.1 78 2 y.2.1 y.1.length y.2.2.1 ((List.range y.1.length).flatMap (bel y.1))) ∧ y.1.length ≤ s.size ∧ Step (zN s) (zy zKK) p' y.2.2.2.2 y.1) ?_ ?_
   ·repeat' (first | with_reducible apply zE | fail)
    refine zK [(15, 16), (186, 205)] (fun y : List Bid × Option Addr × Nat × zI × Rs => [(15, .int .i64 ((m : Int) - (y.1.length : Int)))]) (fun y w => (St w0 (rdR pr s y.2.2.2.2 :: xr br pr y.2.2.2.2.bad :: cb b4 [.int .i64 g1, .int .i64 g2, .int .i64 g3, .bool g4, .int .i64 g5, .int .i64 g6, .int .i64 g7, .int .i64 g8, .slice y.2.1 y.1.length y.2.2.1] 81 :: cb b3 [.int .i64 k0, .int .i64 k1, .int .i64 k2, .int .i64 k3, .slice a0 x0.length c0, .slice a1 x1.length c1, .slice a2 x2.length c2, .slice a3 x3.length c3, .slice a xs.length cap] 29 :: cb b2 [.int .i64 0, .int .i64 0, .int .i64 0, .int .i64 0, .slice none 0 0, .slice none 0 0, .slice none 0 0, .slice none 0 0, .slice none 0 0] 29 :: (y.2.2.2.1 ++ RR)) w ∧ Go.Sk.Own y.2.2.2.1 78 2 y.2.1 y.1.length y.2.2.1 ((List.range y.1.length).flatMap (bel y.1))) ∧ y.1.length ≤ m ∧ ListAt (zN s) zKK q2 y.2.2.2.2 m y.1) (fun y => m - y.1.length) ([], none, 0, [], q2) ⟨congrArg (Value.int .i64) (Int.sub_zero _).symm, trivial⟩ ⟨⟨H, zAG _ _ _⟩, Nat.zero_le _, zd hS2.inv⟩ ?_
    clear H
    rintro ⟨ys, a9, cap9, M9, pk9⟩ gh w ⟨⟨H, hO9⟩, hk9, hL9⟩
    simp only at H hO9 hk9 hL9 ⊢
    have hpk9 := hL9.inv
    obtain ⟨lv9, hlv9⟩ : ∃ b, pk9.liveB = b := ⟨_, rfl⟩
    by_cases hg9 : lv9 = true ∧ ys.length < m
    ·obtain ⟨rfl, hkn9⟩ := hg9
     have hE9 := zg (B := zN s) (p := pk9) hpk9
     have hd9 : decide ((m : Int) - (ys.length : Int) > 0) = true := decide_eq_true (by omega)
     repeat' (first | refine y1 sg ?_ | refine y3 ?_ | refine y5 sg ?_ | refine y7 sg H ?_ | (refine y10 sg H ?_; intro b w H) | (refine y11 sg H ?_; intro w H) | (refine' y30 zBZ ?_ ?_; rotate_left; exact hlv9 ▸ zAb H.mem (List.Mem.head _) (List.Mem.tail _ (List.Mem.head _)); intro w hcl; replace H := H.ext hcl; clear hcl) | (refine' y33 zBg ?_ ?_; rotate_left 2; exact zEK (Nat.le_trans hE9.inv (Nat.le_of_eq hlen)) hs' (H.perm zDf); rintro v N w ⟨x, p', rfl, rfl, ⟨hx0, hx1⟩, hS⟩ H; replace hE9 := hE9.seq hS; clear hS) | (refine' y33 zBw ?_ ?_; rotate_left 2; exact zA2 (Nat.le_trans hE9.inv (Nat.le_of_eq hlen)) hs' H; rintro v N w ⟨x, p', rfl, rfl, -, hS⟩ H; replace hE9 := hE9.seq hS; clear hS) | (refine z14 sg H ?_; intro b w H) | (have hp := H.perm (zOv M9 RR); refine zi sg 2 200 (M := M9) hp rfl rfl rfl rfl rfl rfl rfl rfl rfl rfl rfl hO9 (zk hp.mem (List.mem_append_right _ (List.Mem.head _))) rfl (zAh rfl) (by unfold maxLen; omega) (by omega) ?_; clear hp hO9; intro a9 cap9 M9 w hO9 H; replace H := (H.perm (zOv M9 RR).symm).sub (List.sublist_cons_self _ _)) | refine y13 ?_ | (refine y17 ?_ ?_; all_goals (intro h; try (exfalso; first | ((rw [hd9] at h; cases h); done)))) | (with_reducible first | apply zB | apply zD | apply zC | apply zE | apply zG) | refine zA ?_ | refine y21 ?_ | fail)
     all_goals
      have hS : Step (zN s) zKK pk9 p' _ := hE9.map (fun z => (⟨z.1.2, z.2⟩ : Bid)) (fun x => (((), x.acct), x.amount)) ?_ ?_
      ·obtain ⟨e, he, hS⟩ := hS.named
       refine zJ (ys ++ [e], a9, cap9, M9, p') rfl ⟨?_, trivial⟩ ⟨⟨by simpa only [List.length_append, List.length_singleton] using (H.sub (((List.sublist_cons_self _ _).cons_cons _).cons_cons _)), ?_⟩, by simp only; rw [List.length_append]; exact hkn9, hL9.next hS hkn9⟩ (by simp only; rw [List.length_append, List.length_singleton]; omega)
       ·exact congrArg (Value.int .i64) (by simp only; rw [List.length_append, List.length_singleton, w64 (by omega) (by omega)]; omega)
       ·simp only; rw [zNl, List.length_append, ← he]; exact hO9
      ·intro l h; exact h
      ·intro z l h; exact ⟨by cases z; rfl, h⟩
    ·rw [← hlv9] at hg9
     have hfin := hL9.fin (fun x l h => zQh h) (Nat.le_of_eq hlen) (by omega) hS2 hg9 hk9
     by_cases hkn9 : ys.length < m
     ·have hlv0 : pk9.liveB = false := by cases h : pk9.liveB with | false => rfl | true => exact absurd ⟨h, hkn9⟩ hg9
      have hd9 : decide ((m : Int) - (ys.length : Int) > 0) = true := decide_eq_true (by omega)
      repeat' (first | refine y1 sg ?_ | refine y5 sg ?_ | (refine' y30 zBZ ?_ ?_; rotate_left; exact hlv0 ▸ zAb H.mem (List.Mem.head _) (List.Mem.tail _ (List.Mem.head _)); intro w hcl; replace H := H.ext hcl; clear hcl) | refine y13 ?_ | (refine y17 ?_ ?_; all_goals (intro h; try (exfalso; first | ((rw [hd9] at h; cases h); done)))) | (with_reducible first | apply zB | apply zD | apply zC | apply zL | apply zS) | refine zA ?_ | refine y24 ?_ | refine y22 ?_ | fail)
      exact zJ (ys, a9, cap9, M9, pk9) rfl trivial ⟨⟨H, hO9⟩, by simp only; omega, hfin⟩ (Nat.lt_succ_self 0)
     ·have hd9 : decide ((m : Int) - (ys.length : Int) > 0) = false := decide_eq_false (by omega)
      repeat' (first | refine y1 sg ?_ | refine y14 ?_ | (refine y17 ?_ ?_; all_goals (intro h; try (exfalso; first | ((rw [hd9] at h; cases h); done)))) | (with_reducible first | apply zB | apply zD | apply zC | apply zL | apply zS) | refine zA ?_ | refine y24 ?_ | refine y22 ?_ | fail)
      exact zJ (ys, a9, cap9, M9, pk9) rfl trivial ⟨⟨H, hO9⟩, by simp only; omega, hfin⟩ (Nat.lt_succ_self 0)
   clear H hS2 hx2 hx3
   rintro ⟨ys, a9, cap9, M9, p9⟩ gh w ⟨⟨H, O9⟩, n9, hS⟩
   simp only at H O9 n9 hS ⊢
   replace hE := hE.seq hS; clear hS
   rw [← hRR] at H
   repeat' (first | refine y1 sg ?_ | refine y3 ?_ | refine y7 sg H ?_ | (refine y11 sg H ?_; intro w H) | ((with_reducible apply OX.buildA sg H); exact rfl; exact rfl; exact rfl; exact rfl; exact rfl; exact rfl; exact rfl; exact rfl; exact rfl; exact rfl; exact rfl; exact rfl; intro b w H _) | (have hp := H.perm (permM6 M M9 (mb ++ R4)); refine zi sg 9 200 (M := M) hp rfl rfl rfl rfl rfl rfl rfl rfl rfl rfl rfl hO (zk hp.mem (List.mem_append_right _ (List.Mem.head _))) rfl (zHD ⟨g1, g2, g3, g4, g5, g6, g7, g8, ys⟩ _ _) (by unfold maxLen; omega) (by omega) ?_; clear hp hO; intro a cap M w hO H; replace H := (H.perm (zBv M (M9 ++ (mb ++ R4))).symm).sub (List.sublist_cons_self _ _)) | (with_reducible first | apply zB | apply zD) | refine zA ?_ | fail)
   have hS : Step (zN s) zKO pk p9 _ := hE.map zNt zCZ (fun l h => h) (fun z l h => ⟨rfl, h⟩)
   obtain ⟨e, he, hS⟩ := hS.named
   refine zAY ⟨xs ++ [e], a, cap, fun j => if j = xs.length then (a9, cap9) else ad j, M, M9 ++ mb, p9⟩ rfl ⟨?_, trivial⟩ ⟨⟨?_, ?_, ?_⟩, by simp only; rw [List.length_append]; exact hkn, hL.next hS hkn⟩ (by simp only; rw [List.length_append, List.length_singleton]; omega)
   ·exact congrArg (Value.int .i64) (by simp only; rw [List.length_append, List.length_singleton, w64 (by omega) (by omega)]; omega)
   ·simpa only [List.length_append, List.length_singleton, List.append_assoc] using (H.sub (((List.sublist_cons_self _ _).cons_cons _).cons_cons _))
   ·simp only; rw [aelS, List.length_append, ← he]; exact hO
   ·intro j hj
    simp only at hj ⊢
    rw [List.length_append, List.length_singleton] at hj
    by_cases hjk : j = xs.length
    ·subst hjk
     rw [if_pos rfl, zBe, ← he]
     exact (O9.sl (List.subset_append_left _ _) (fun _ _ => rfl) (by omega))
    ·rw [if_neg hjk, zBd xs (by omega)]
     exact SlA.mono (hB j (by omega)) (List.subset_append_right _ _)
  ·rw [← hlv] at hg
   have hfin := hL.fin (fun x l h => zQm h) (Nat.le_of_eq hlen) (by omega) hS1 hg hk
   by_cases hkn : xs.length < n
   ·have hlv0 : pk.liveB = false := by cases h : pk.liveB with | false => rfl | true => exact absurd ⟨h, hkn⟩ hg
    have hd : decide ((n : Int) - (xs.length : Int) > 0) = true := decide_eq_true (by omega)
    repeat' (first | refine y1 sg ?_ | refine y5 sg ?_ | (refine' y30 zBZ ?_ ?_; rotate_left; exact hlv0 ▸ zAb H.mem (List.Mem.head _) (List.Mem.tail _ (List.Mem.head _)); intro w hcl; replace H := H.ext hcl; clear hcl) | refine y13 ?_ | (refine y17 ?_ ?_; all_goals (intro h; try (exfalso; first | ((rw [hd] at h; cases h); done)))) | (with_reducible first | apply zB | apply zD | apply zC | apply zL | apply zS) | refine zA ?_ | refine y24 ?_ | refine y22 ?_ | fail)
    exact zJ ⟨xs, a, cap, ad, M, mb, pk⟩ rfl trivial ⟨⟨H, hO, hB⟩, by simp only; omega, hfin⟩ (Nat.lt_succ_self 0)
   ·have hd : decide ((n : Int) - (xs.length : Int) > 0) = false := decide_eq_false (by omega)
    repeat' (first | refine y1 sg ?_ | refine y14 ?_ | (refine y17 ?_ ?_; all_goals (intro h; try (exfalso; first | ((rw [hd] at h; cases h); done)))) | (with_reducible first | apply zB | apply zD | apply zC | apply zL | apply zS) | refine zA ?_ | refine y24 ?_ | refine y22 ?_ | fail)
    exact zJ ⟨xs, a, cap, ad, M, mb, pk⟩ rfl trivial ⟨⟨H, hO, hB⟩, by simp only; omega, hfin⟩ (Nat.lt_succ_self 0)
 clear H hS1 hx0 hx1
 rintro ⟨x5, a5, c5, ad5, M5, mb5, p5⟩ gh w ⟨⟨H, O5, hB5⟩, n5, hS⟩
 simp only at H O5 hB5 n5 hS ⊢
 replace hA := hA.seq hS; clear hS
 subst hR1 hR2 hR3 hR4
 repeat' (first | refine y3 ?_ | refine y7 sg H ?_ | (refine y11 sg H ?_; intro w H) | (with_reducible first | apply zB | apply zD | apply zC | apply zF) | refine zA ?_ | fail)
 refine zU (vs := [_]) ⟨zAF sg rfl H.mem (List.Mem.tail _ (List.Mem.tail _ (List.Mem.tail _ (List.Mem.head _)))) rfl rfl, trivial⟩ (H.sub (((List.Sublist.cons _ (List.sublist_cons_self _ _)).cons_cons _).cons_cons _)) ⟨_, ⟨a0, c0, a1, c1, a2, c2, a3, c3, a5, c5, ad5⟩, _, M5 ++ (mb5 ++ (M3 ++ (M2 ++ (M1 ++ M0)))), ?_, by simp only [List.append_assoc], ?_, hA.map zOI zDc (fun l h => h) (fun z l h => ⟨rfl, h⟩)⟩
 ·rfl
 ·exact ⟨O0.sl (by intro p hp; simp [hp]) (fun _ _ => rfl) (by omega), O1.sl (by intro p hp; simp [hp]) (fun _ _ => rfl) (by omega), O2.sl (by intro p hp; simp [hp]) (fun _ _ => rfl) (by omega), O3.sl (by intro p hp; simp [hp]) (fun _ _ => rfl) (by omega), O5.sl (by intro p hp; simp [hp]) (fun _ _ => rfl) (by omega), fun j hj => SlA.mono (hB5 j hj) (by intro p hp; simp [hp])⟩
end Go.Proofs.YtggolnppckpdlaaGreat
