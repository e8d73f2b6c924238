/- Texts of ours, joined: the steps of the proof, or the claim's theorem. -/
import Derived.Test.YtggolnppckpdlaaGreatT14
set_option linter.unusedSimpArgs false
set_option linter.unusedVariables false
namespace Go.Proofs.YtggolnppckpdlaaGreat
open Go Go.Sk Go.RowKit
attribute [local irreducible] Go.Calls
theorem zA6 {x y z u : Nat × Obj} (M G : zI) : (x :: y :: z :: u :: (M ++ G)).Perm (M ++ (x :: y :: z :: u :: G)) := by
 have := List.perm_append_comm_assoc [x, y, z, u] M G
 simpa using this
def Gt {α : Type} (w0 : World) (G : zI) (br pr : Nat) (s : ByteArray) (g : FuncId) (caps : List Value) (enc : α → Value) (P : α → List Nat → Prop) : Prop :=
 ∀ (G' : zI) (p : Rs) (w : World), G ⊆ G' → p.pos ≤ s.size → St w0 (rd pr s p :: sr br pr s p.bad :: G') w → Calls Tryz.prog g caps.toArray w (zy (SR br pr s G' p enc P (fun _ => True)) w0)
def LR {α : Type} (br pr : Nat) (s : ByteArray) (G : zI) (p : Rs) (T : TypeId) (sz : Nat) (el : List α → Nat → List Value) (P : α → List Nat → Prop) : zI → Value → Prop :=
 fun N v => ∃ (xs : List α) (p' : Rs) (a : Option Addr) (cap : Nat) (M : zI), v = .slice a xs.length cap ∧ N = rd pr s p' :: sr br pr s p'.bad :: (M ++ G) ∧ Own M T sz a xs.length cap ((List.range xs.length).flatMap (el xs)) ∧ xs.length ≤ s.size ∧ Step (zT s) (zA0 P) p p' xs
theorem zBB {α : Type} {el : List α → Nat → List Value} {xs : List α} {x : α} (h1 : ∀ k, k < xs.length → el (xs ++ [x]) k = el xs k) : (List.range (xs ++ [x]).length).flatMap (el (xs ++ [x])) = (List.range xs.length).flatMap (el xs) ++ el (xs ++ [x]) xs.length := by
 rw [List.length_append, List.length_singleton, List.range_succ, List.flatMap_append, List.flatMap_singleton]
 congr 1
 rw [List.flatMap_def, List.flatMap_def]
 congr 1
 exact List.map_congr_left fun j hj => h1 j (List.mem_range.1 hj)
theorem zBz {α : Type} {d x : α} (xs : List α) {k : Nat} (h : k < xs.length) : (xs ++ [x]).getD k d = xs.getD k d := by
 simp [List.getD_eq_getElem?_getD, List.getElem?_append_left h]
theorem zB0 {α : Type} {d x : α} (xs : List α) : (xs ++ [x]).getD xs.length d = x := by simp [List.getD_eq_getElem?_getD]
theorem sn_Acc (xs : List Ac) (x : Ac) : (List.range (xs ++ [x]).length).flatMap (acl (xs ++ [x])) = (List.range xs.length).flatMap (acl xs) ++ x.cells := by
 rw [zBB (fun k hk => congrArg Ac.cells (zBz xs hk))]
 exact congrArg (_ ++ ·) (congrArg Ac.cells (zB0 xs))
theorem zLp {w0 w : World} {G : zI} {br pr : Nat} {s : ByteArray} {p : Rs} {g : FuncId} {caps : List Value} (P : Ac → List Nat → Prop) (hP : ∀ x l, P x l → l ≠ []) (hg : Ent Tryz.prog g) (hgt : Gt w0 G br pr s g caps (fun x : Ac => .agg x.cells.toArray) P)
  (hp : p.pos ≤ s.size) (hs : s.size ≤ 16777216) (H : St w0 (rd pr s p :: sr br pr s p.bad :: G) w) :
  Calls Tryz.prog 121 [ptr br, .func (.func g) #[] caps.toArray].toArray w (zy (LR br pr s G p 70 2 acl P) w0) := by
 have hlen := zU s
 refine enter [.tmp 4] Tryz.func121 rfl Tryz.ntmps121 rfl rfl ?_
 repeat' (first | refine y1 sg ?_ | refine y3 ?_ | refine y7 sg H ?_ | (refine' y33 zAo ?_ ?_; rotate_left 2; exact zAT s.size (by omega) hp (by omega) H; rintro v N w ⟨x, p1, rfl, rfl, ⟨hx0, hx1⟩, hS1⟩ H) | (with_reducible first | apply zB | apply zD | apply zC | apply zF) | refine zA ?_ | fail)
 obtain ⟨n, rfl⟩ : ∃ n : Nat, x = (n : Int) := ⟨x.toNat, by omega⟩
 refine zK [(4, 8), (15, 33)] (fun y : List Ac × Option Addr × Nat × zI × Rs => [(5, .slice y.2.1 y.1.length y.2.2.1), (15, .int .i64 (y.1.length : Int))]) (fun y w => St w0 (rd pr s y.2.2.2.2 :: sr br pr s y.2.2.2.2.bad :: (y.2.2.2.1 ++ G)) w ∧ Own y.2.2.2.1 70 2 y.2.1 y.1.length y.2.2.1 ((List.range y.1.length).flatMap (acl y.1)) ∧ y.1.length ≤ n ∧ ListAt (zT s) P p1 y.2.2.2.2 n y.1) (fun y => n - y.1.length) ([], none, 0, [], p1) ⟨rfl, rfl, trivial⟩ ⟨H, zAL _ _ _, Nat.zero_le _, zAg hS1.inv⟩ ?_
 clear H
 rintro ⟨xs, a, cap, M, pk⟩ gh w ⟨H, hO, hk, hL⟩
 simp only at H hO hk hL ⊢
 by_cases hkn : xs.length < n
 ·have hd : decide ((xs.length : Int) < (n : Int)) = true := decide_eq_true (by omega)
  have hpk := hL.inv
  repeat' (first | refine y1 sg ?_ | refine y3 ?_ | refine y7 sg H ?_ | (refine y10 sg H ?_; intro b w H) | (refine y11 sg H ?_; intro w H) | (refine zAN rfl rfl (zAK hg rfl rfl rfl) (hgt (M ++ G) pk _ (List.subset_append_right _ _) (by omega) H) ?_; rintro v N w ⟨x, p', rfl, rfl, -, hS⟩ H) | (refine' y30 zDY ?_ ?_; rotate_left; exact zCI H.mem (by repeat (first | exact List.Mem.head _ | exact List.mem_append_right _ (List.Mem.head _) | refine List.Mem.tail _ ?_)); intro w hcl; replace H := H.ext hcl; clear hcl) | (refine z14 sg H ?_; intro b w H) | (have hp := H.perm (zA6 M G); refine zm sg 2 200 (M := M) hp rfl rfl rfl rfl rfl rfl rfl rfl rfl rfl rfl hO (zAZ hp.mem (List.mem_append_right _ (List.Mem.head _))) rfl (zAd rfl) (by unfold maxLen; omega) (by omega) ?_; clear hp hO; intro a cap M w hO H; replace H := ((H.perm (zA6 M G).symm).sub (List.sublist_cons_self _ _)).sub (List.sublist_cons_self _ _)) | (with_reducible first | apply zB | apply zD | apply zC | apply zF | apply zG | apply zH | apply zP | apply za) | refine zA ?_ | (refine y23 ?_ ?_; all_goals (intro h; try (exfalso; first | ((rw [hd] at h; cases h); done)))) | fail)
  ·exact zh (vs := [_]) ⟨zp rfl, trivial⟩ (H.sub ((List.Sublist.cons _ (((List.sublist_append_right M G).cons_cons _).cons_cons _)))) ⟨[], p', none, 0, [], rfl, rfl, zAL _ _ _, Nat.zero_le _, hL.fail hP (Nat.le_of_eq hlen) (by omega) hS1 hkn hS (by simpa using h)⟩
  ·exact zM (xs ++ [x], a, cap, M, p') rfl ⟨by rw [List.length_append]; rfl, by rw [List.length_append]; exact zV (by omega), trivial⟩ ⟨H, by rw [sn_Acc, List.length_append]; exact hO, by rw [List.length_append]; exact hkn, hL.next hS hkn⟩ (by rw [List.length_append, List.length_singleton]; omega)
 ·have hd : decide ((xs.length : Int) < (n : Int)) = false := decide_eq_false (by omega)
  repeat' (first | refine y1 sg ?_ | (with_reducible first | apply zB | apply zD | apply zC | apply zG | apply zN | apply zW) | refine zA ?_ | refine y24 ?_ | (refine y23 ?_ ?_; all_goals (intro h; try (exfalso; first | ((rw [hd] at h; cases h); done)))) | fail)
  exact zh (vs := [_]) ⟨zp rfl, trivial⟩ H ⟨xs, pk, a, cap, M, rfl, rfl, hO, by omega, hL.done hP (Nat.le_of_eq hlen) (by omega) hS1 (by omega)⟩
theorem sn_Ins (xs : List Ins) (x : Ins) : (List.range (xs ++ [x]).length).flatMap (ing (xs ++ [x])) = (List.range xs.length).flatMap (ing xs) ++ x.cells := by
 rw [zBB (fun k hk => congrArg Ins.cells (zBz xs hk))]
 exact congrArg (_ ++ ·) (congrArg Ins.cells (zB0 xs))
theorem zLq {w0 w : World} {G : zI} {br pr : Nat} {s : ByteArray} {p : Rs} {g : FuncId} {caps : List Value} (P : Ins → List Nat → Prop) (hP : ∀ x l, P x l → l ≠ []) (hg : Ent Tryz.prog g) (hgt : Gt w0 G br pr s g caps (fun x : Ins => .agg x.cells.toArray) P)
  (hp : p.pos ≤ s.size) (hs : s.size ≤ 16777216) (H : St w0 (rd pr s p :: sr br pr s p.bad :: G) w) :
  Calls Tryz.prog 125 [ptr br, .func (.func g) #[] caps.toArray].toArray w (zy (LR br pr s G p 72 3 ing P) w0) := by
 have hlen := zU s
 refine enter [.tmp 4] Tryz.func125 rfl Tryz.ntmps125 rfl rfl ?_
 repeat' (first | refine y1 sg ?_ | refine y3 ?_ | refine y7 sg H ?_ | (refine' y33 zAo ?_ ?_; rotate_left 2; exact zAT s.size (by omega) hp (by omega) H; rintro v N w ⟨x, p1, rfl, rfl, ⟨hx0, hx1⟩, hS1⟩ H) | (with_reducible first | apply zB | apply zD | apply zC | apply zF) | refine zA ?_ | fail)
 obtain ⟨n, rfl⟩ : ∃ n : Nat, x = (n : Int) := ⟨x.toNat, by omega⟩
 refine zK [(4, 8), (15, 33)] (fun y : List Ins × Option Addr × Nat × zI × Rs => [(5, .slice y.2.1 y.1.length y.2.2.1), (15, .int .i64 (y.1.length : Int))]) (fun y w => St w0 (rd pr s y.2.2.2.2 :: sr br pr s y.2.2.2.2.bad :: (y.2.2.2.1 ++ G)) w ∧ Own y.2.2.2.1 72 3 y.2.1 y.1.length y.2.2.1 ((List.range y.1.length).flatMap (ing y.1)) ∧ y.1.length ≤ n ∧ ListAt (zT s) P p1 y.2.2.2.2 n y.1) (fun y => n - y.1.length) ([], none, 0, [], p1) ⟨rfl, rfl, trivial⟩ ⟨H, zAL _ _ _, Nat.zero_le _, zAg hS1.inv⟩ ?_
 clear H
 rintro ⟨xs, a, cap, M, pk⟩ gh w ⟨H, hO, hk, hL⟩
 simp only at H hO hk hL ⊢
 by_cases hkn : xs.length < n
 ·have hd : decide ((xs.length : Int) < (n : Int)) = true := decide_eq_true (by omega)
  have hpk := hL.inv
  repeat' (first | refine y1 sg ?_ | refine y3 ?_ | refine y7 sg H ?_ | (refine y10 sg H ?_; intro b w H) | (refine y11 sg H ?_; intro w H) | (refine zAN rfl rfl (zAK hg rfl rfl rfl) (hgt (M ++ G) pk _ (List.subset_append_right _ _) (by omega) H) ?_; rintro v N w ⟨x, p', rfl, rfl, -, hS⟩ H) | (refine' y30 zDY ?_ ?_; rotate_left; exact zCI H.mem (by repeat (first | exact List.Mem.head _ | exact List.mem_append_right _ (List.Mem.head _) | refine List.Mem.tail _ ?_)); intro w hcl; replace H := H.ext hcl; clear hcl) | (refine z14 sg H ?_; intro b w H) | (have hp := H.perm (zA6 M G); refine zm sg 3 200 (M := M) hp rfl rfl rfl rfl rfl rfl rfl rfl rfl rfl rfl hO (zAZ hp.mem (List.mem_append_right _ (List.Mem.head _))) rfl (zAd rfl) (by unfold maxLen; omega) (by omega) ?_; clear hp hO; intro a cap M w hO H; replace H := ((H.perm (zA6 M G).symm).sub (List.sublist_cons_self _ _)).sub (List.sublist_cons_self _ _)) | (with_reducible first | apply zB | apply zD | apply zC | apply zF | apply zG | apply zH | apply zP | apply za) | refine zA ?_ | (refine y23 ?_ ?_; all_goals (intro h; try (exfalso; first | ((rw [hd] at h; cases h); done)))) | fail)
  ·exact zh (vs := [_]) ⟨zp rfl, trivial⟩ (H.sub ((List.Sublist.cons _ (((List.sublist_append_right M G).cons_cons _).cons_cons _)))) ⟨[], p', none, 0, [], rfl, rfl, zAL _ _ _, Nat.zero_le _, hL.fail hP (Nat.le_of_eq hlen) (by omega) hS1 hkn hS (by simpa using h)⟩
  ·exact zM (xs ++ [x], a, cap, M, p') rfl ⟨by rw [List.length_append]; rfl, by rw [List.length_append]; exact zV (by omega), trivial⟩ ⟨H, by rw [sn_Ins, List.length_append]; exact hO, by rw [List.length_append]; exact hkn, hL.next hS hkn⟩ (by rw [List.length_append, List.length_singleton]; omega)
 ·have hd : decide ((xs.length : Int) < (n : Int)) = false := decide_eq_false (by omega)
  repeat' (first | refine y1 sg ?_ | (with_reducible first | apply zB | apply zD | apply zC | apply zG | apply zN | apply zW) | refine zA ?_ | refine y24 ?_ | (refine y23 ?_ ?_; all_goals (intro h; try (exfalso; first | ((rw [hd] at h; cases h); done)))) | fail)
  exact zh (vs := [_]) ⟨zp rfl, trivial⟩ H ⟨xs, pk, a, cap, M, rfl, rfl, hO, by omega, hL.done hP (Nat.le_of_eq hlen) (by omega) hS1 (by omega)⟩
theorem sn_Row (xs : List Row4) (x : Row4) : (List.range (xs ++ [x]).length).flatMap (rwl (xs ++ [x])) = (List.range xs.length).flatMap (rwl xs) ++ x.cells := by
 rw [zBB (fun k hk => congrArg Row4.cells (zBz xs hk))]
 exact congrArg (_ ++ ·) (congrArg Row4.cells (zB0 xs))
theorem zLr {w0 w : World} {G : zI} {br pr : Nat} {s : ByteArray} {p : Rs} {g : FuncId} {caps : List Value} (P : Row4 → List Nat → Prop) (hP : ∀ x l, P x l → l ≠ []) (hg : Ent Tryz.prog g) (hgt : Gt w0 G br pr s g caps (fun x : Row4 => .agg x.cells.toArray) P)
  (hp : p.pos ≤ s.size) (hs : s.size ≤ 16777216) (H : St w0 (rd pr s p :: sr br pr s p.bad :: G) w) :
  Calls Tryz.prog 127 [ptr br, .func (.func g) #[] caps.toArray].toArray w (zy (LR br pr s G p 74 4 rwl P) w0) := by
 have hlen := zU s
 refine enter [.tmp 4] Tryz.func127 rfl Tryz.ntmps127 rfl rfl ?_
 repeat' (first | refine y1 sg ?_ | refine y3 ?_ | refine y7 sg H ?_ | (refine' y33 zAo ?_ ?_; rotate_left 2; exact zAT s.size (by omega) hp (by omega) H; rintro v N w ⟨x, p1, rfl, rfl, ⟨hx0, hx1⟩, hS1⟩ H) | (with_reducible first | apply zB | apply zD | apply zC | apply zF) | refine zA ?_ | fail)
 obtain ⟨n, rfl⟩ : ∃ n : Nat, x = (n : Int) := ⟨x.toNat, by omega⟩
 refine zK [(4, 8), (15, 33)] (fun y : List Row4 × Option Addr × Nat × zI × Rs => [(5, .slice y.2.1 y.1.length y.2.2.1), (15, .int .i64 (y.1.length : Int))]) (fun y w => St w0 (rd pr s y.2.2.2.2 :: sr br pr s y.2.2.2.2.bad :: (y.2.2.2.1 ++ G)) w ∧ Own y.2.2.2.1 74 4 y.2.1 y.1.length y.2.2.1 ((List.range y.1.length).flatMap (rwl y.1)) ∧ y.1.length ≤ n ∧ ListAt (zT s) P p1 y.2.2.2.2 n y.1) (fun y => n - y.1.length) ([], none, 0, [], p1) ⟨rfl, rfl, trivial⟩ ⟨H, zAL _ _ _, Nat.zero_le _, zAg hS1.inv⟩ ?_
 clear H
 rintro ⟨xs, a, cap, M, pk⟩ gh w ⟨H, hO, hk, hL⟩
 simp only at H hO hk hL ⊢
 by_cases hkn : xs.length < n
 ·have hd : decide ((xs.length : Int) < (n : Int)) = true := decide_eq_true (by omega)
  have hpk := hL.inv
  repeat' (first | refine y1 sg ?_ | refine y3 ?_ | refine y7 sg H ?_ | (refine y10 sg H ?_; intro b w H) | (refine y11 sg H ?_; intro w H) | (refine zAN rfl rfl (zAK hg rfl rfl rfl) (hgt (M ++ G) pk _ (List.subset_append_right _ _) (by omega) H) ?_; rintro v N w ⟨x, p', rfl, rfl, -, hS⟩ H) | (refine' y30 zDY ?_ ?_; rotate_left; exact zCI H.mem (by repeat (first | exact List.Mem.head _ | exact List.mem_append_right _ (List.Mem.head _) | refine List.Mem.tail _ ?_)); intro w hcl; replace H := H.ext hcl; clear hcl) | (refine z14 sg H ?_; intro b w H) | (have hp := H.perm (zA6 M G); refine zm sg 4 200 (M := M) hp rfl rfl rfl rfl rfl rfl rfl rfl rfl rfl rfl hO (zAZ hp.mem (List.mem_append_right _ (List.Mem.head _))) rfl (zAd rfl) (by unfold maxLen; omega) (by omega) ?_; clear hp hO; intro a cap M w hO H; replace H := ((H.perm (zA6 M G).symm).sub (List.sublist_cons_self _ _)).sub (List.sublist_cons_self _ _)) | (with_reducible first | apply zB | apply zD | apply zC | apply zF | apply zG | apply zH | apply zP | apply za) | refine zA ?_ | (refine y23 ?_ ?_; all_goals (intro h; try (exfalso; first | ((rw [hd] at h; cases h); done)))) | fail)
  ·exact zh (vs := [_]) ⟨zp rfl, trivial⟩ (H.sub ((List.Sublist.cons _ (((List.sublist_append_right M G).cons_cons _).cons_cons _)))) ⟨[], p', none, 0, [], rfl, rfl, zAL _ _ _, Nat.zero_le _, hL.fail hP (Nat.le_of_eq hlen) (by omega) hS1 hkn hS (by simpa using h)⟩
  ·exact zM (xs ++ [x], a, cap, M, p') rfl ⟨by rw [List.length_append]; rfl, by rw [List.length_append]; exact zV (by omega), trivial⟩ ⟨H, by rw [sn_Row, List.length_append]; exact hO, by rw [List.length_append]; exact hkn, hL.next hS hkn⟩ (by rw [List.length_append, List.length_singleton]; omega)
 ·have hd : decide ((xs.length : Int) < (n : Int)) = false := decide_eq_false (by omega)
  repeat' (first | refine y1 sg ?_ | (with_reducible first | apply zB | apply zD | apply zC | apply zG | apply zN | apply zW) | refine zA ?_ | refine y24 ?_ | (refine y23 ?_ ?_; all_goals (intro h; try (exfalso; first | ((rw [hd] at h; cases h); done)))) | fail)
  exact zh (vs := [_]) ⟨zp rfl, trivial⟩ H ⟨xs, pk, a, cap, M, rfl, rfl, hO, by omega, hL.done hP (Nat.le_of_eq hlen) (by omega) hS1 (by omega)⟩
theorem sn_Ord (xs : List Odr) (x : Odr) : (List.range (xs ++ [x]).length).flatMap (odl (xs ++ [x])) = (List.range xs.length).flatMap (odl xs) ++ x.cells := by
 rw [zBB (fun k hk => congrArg Odr.cells (zBz xs hk))]
 exact congrArg (_ ++ ·) (congrArg Odr.cells (zB0 xs))
theorem zLs {w0 w : World} {G : zI} {br pr : Nat} {s : ByteArray} {p : Rs} {g : FuncId} {caps : List Value} (P : Odr → List Nat → Prop) (hP : ∀ x l, P x l → l ≠ []) (hg : Ent Tryz.prog g) (hgt : Gt w0 G br pr s g caps (fun x : Odr => .agg x.cells.toArray) P)
  (hp : p.pos ≤ s.size) (hs : s.size ≤ 16777216) (H : St w0 (rd pr s p :: sr br pr s p.bad :: G) w) :
  Calls Tryz.prog 130 [ptr br, .func (.func g) #[] caps.toArray].toArray w (zy (LR br pr s G p 76 6 odl P) w0) := by
 have hlen := zU s
 refine enter [.tmp 4] Tryz.func130 rfl Tryz.ntmps130 rfl rfl ?_
 repeat' (first | refine y1 sg ?_ | refine y3 ?_ | refine y7 sg H ?_ | (refine' y33 zAo ?_ ?_; rotate_left 2; exact zAT s.size (by omega) hp (by omega) H; rintro v N w ⟨x, p1, rfl, rfl, ⟨hx0, hx1⟩, hS1⟩ H) | (with_reducible first | apply zB | apply zD | apply zC | apply zF) | refine zA ?_ | fail)
 obtain ⟨n, rfl⟩ : ∃ n : Nat, x = (n : Int) := ⟨x.toNat, by omega⟩
 refine zK [(4, 8), (15, 33)] (fun y : List Odr × Option Addr × Nat × zI × Rs => [(5, .slice y.2.1 y.1.length y.2.2.1), (15, .int .i64 (y.1.length : Int))]) (fun y w => St w0 (rd pr s y.2.2.2.2 :: sr br pr s y.2.2.2.2.bad :: (y.2.2.2.1 ++ G)) w ∧ Own y.2.2.2.1 76 6 y.2.1 y.1.length y.2.2.1 ((List.range y.1.length).flatMap (odl y.1)) ∧ y.1.length ≤ n ∧ ListAt (zT s) P p1 y.2.2.2.2 n y.1) (fun y => n - y.1.length) ([], none, 0, [], p1) ⟨rfl, rfl, trivial⟩ ⟨H, zAL _ _ _, Nat.zero_le _, zAg hS1.inv⟩ ?_
 clear H
 rintro ⟨xs, a, cap, M, pk⟩ gh w ⟨H, hO, hk, hL⟩
 simp only at H hO hk hL ⊢
 by_cases hkn : xs.length < n
 ·have hd : decide ((xs.length : Int) < (n : Int)) = true := decide_eq_true (by omega)
  have hpk := hL.inv
  repeat' (first | refine y1 sg ?_ | refine y3 ?_ | refine y7 sg H ?_ | (refine y10 sg H ?_; intro b w H) | (refine y11 sg H ?_; intro w H) | (refine zAN rfl rfl (zAK hg rfl rfl rfl) (hgt (M ++ G) pk _ (List.subset_append_right _ _) (by omega) H) ?_; rintro v N w ⟨x, p', rfl, rfl, -, hS⟩ H) | (refine' y30 zDY ?_ ?_; rotate_left; exact zCI H.mem (by repeat (first | exact List.Mem.head _ | exact List.mem_append_right _ (List.Mem.head _) | refine List.Mem.tail _ ?_)); intro w hcl; replace H := H.ext hcl; clear hcl) | (refine z14 sg H ?_; intro b w H) | (have hp := H.perm (zA6 M G); refine zm sg 6 200 (M := M) hp rfl rfl rfl rfl rfl rfl rfl rfl rfl rfl rfl hO (zAZ hp.mem (List.mem_append_right _ (List.Mem.head _))) rfl (zAd rfl) (by unfold maxLen; omega) (by omega) ?_; clear hp hO; intro a cap M w hO H; replace H := ((H.perm (zA6 M G).symm).sub (List.sublist_cons_self _ _)).sub (List.sublist_cons_self _ _)) | (with_reducible first | apply zB | apply zD | apply zC | apply zF | apply zG | apply zH | apply zP | apply za) | refine zA ?_ | (refine y23 ?_ ?_; all_goals (intro h; try (exfalso; first | ((rw [hd] at h; cases h); done)))) | fail)
  ·exact zh (vs := [_]) ⟨zp rfl, trivial⟩ (H.sub ((List.Sublist.cons _ (((List.sublist_append_right M G).cons_cons _).cons_cons _)))) ⟨[], p', none, 0, [], rfl, rfl, zAL _ _ _, Nat.zero_le _, hL.fail hP (Nat.le_of_eq hlen) (by omega) hS1 hkn hS (by simpa using h)⟩
  ·exact zM (xs ++ [x], a, cap, M, p') rfl ⟨by rw [List.length_append]; rfl, by rw [List.length_append]; exact zV (by omega), trivial⟩ ⟨H, by rw [sn_Ord, List.length_append]; exact hO, by rw [List.length_append]; exact hkn, hL.next hS hkn⟩ (by rw [List.length_append, List.length_singleton]; omega)
 ·have hd : decide ((xs.length : Int) < (n : Int)) = false := decide_eq_false (by omega)
  repeat' (first | refine y1 sg ?_ | (with_reducible first | apply zB | apply zD | apply zC | apply zG | apply zN | apply zW) | refine zA ?_ | refine y24 ?_ | (refine y23 ?_ ?_; all_goals (intro h; try (exfalso; first | ((rw [hd] at h; cases h); done)))) | fail)
  exact zh (vs := [_]) ⟨zp rfl, trivial⟩ H ⟨xs, pk, a, cap, M, rfl, rfl, hO, by omega, hL.done hP (Nat.le_of_eq hlen) (by omega) hS1 (by omega)⟩
theorem sn_Bid (xs : List Bid) (x : Bid) : (List.range (xs ++ [x]).length).flatMap (bel (xs ++ [x])) = (List.range xs.length).flatMap (bel xs) ++ x.cells := by
 rw [zBB (fun k hk => congrArg Bid.cells (zBz xs hk))]
 exact congrArg (_ ++ ·) (congrArg Bid.cells (zB0 xs))
theorem zLt {w0 w : World} {G : zI} {br pr : Nat} {s : ByteArray} {p : Rs} {g : FuncId} {caps : List Value} (P : Bid → List Nat → Prop) (hP : ∀ x l, P x l → l ≠ []) (hg : Ent Tryz.prog g) (hgt : Gt w0 G br pr s g caps (fun x : Bid => .agg x.cells.toArray) P)
  (hp : p.pos ≤ s.size) (hs : s.size ≤ 16777216) (H : St w0 (rd pr s p :: sr br pr s p.bad :: G) w) :
  Calls Tryz.prog 135 [ptr br, .func (.func g) #[] caps.toArray].toArray w (zy (LR br pr s G p 78 2 bel P) w0) := by
 have hlen := zU s
 refine enter [.tmp 4] Tryz.func135 rfl Tryz.ntmps135 rfl rfl ?_
 repeat' (first | refine y1 sg ?_ | refine y3 ?_ | refine y7 sg H ?_ | (refine' y33 zAo ?_ ?_; rotate_left 2; exact zAT s.size (by omega) hp (by omega) H; rintro v N w ⟨x, p1, rfl, rfl, ⟨hx0, hx1⟩, hS1⟩ H) | (with_reducible first | apply zB | apply zD | apply zC | apply zF) | refine zA ?_ | fail)
 obtain ⟨n, rfl⟩ : ∃ n : Nat, x = (n : Int) := ⟨x.toNat, by omega⟩
 refine zK [(4, 8), (15, 33)] (fun y : List Bid × Option Addr × Nat × zI × Rs => [(5, .slice y.2.1 y.1.length y.2.2.1), (15, .int .i64 (y.1.length : Int))]) (fun y w => St w0 (rd pr s y.2.2.2.2 :: sr br pr s y.2.2.2.2.bad :: (y.2.2.2.1 ++ G)) w ∧ Own y.2.2.2.1 78 2 y.2.1 y.1.length y.2.2.1 ((List.range y.1.length).flatMap (bel y.1)) ∧ y.1.length ≤ n ∧ ListAt (zT s) P p1 y.2.2.2.2 n y.1) (fun y => n - y.1.length) ([], none, 0, [], p1) ⟨rfl, rfl, trivial⟩ ⟨H, zAL _ _ _, Nat.zero_le _, zAg hS1.inv⟩ ?_
 clear H
 rintro ⟨xs, a, cap, M, pk⟩ gh w ⟨H, hO, hk, hL⟩
 simp only at H hO hk hL ⊢
 by_cases hkn : xs.length < n
 ·have hd : decide ((xs.length : Int) < (n : Int)) = true := decide_eq_true (by omega)
  have hpk := hL.inv
  repeat' (first | refine y1 sg ?_ | refine y3 ?_ | refine y7 sg H ?_ | (refine y10 sg H ?_; intro b w H) | (refine y11 sg H ?_; intro w H) | (refine zAN rfl rfl (zAK hg rfl rfl rfl) (hgt (M ++ G) pk _ (List.subset_append_right _ _) (by omega) H) ?_; rintro v N w ⟨x, p', rfl, rfl, -, hS⟩ H) | (refine' y30 zDY ?_ ?_; rotate_left; exact zCI H.mem (by repeat (first | exact List.Mem.head _ | exact List.mem_append_right _ (List.Mem.head _) | refine List.Mem.tail _ ?_)); intro w hcl; replace H := H.ext hcl; clear hcl) | (refine z14 sg H ?_; intro b w H) | (have hp := H.perm (zA6 M G); refine zm sg 2 200 (M := M) hp rfl rfl rfl rfl rfl rfl rfl rfl rfl rfl rfl hO (zAZ hp.mem (List.mem_append_right _ (List.Mem.head _))) rfl (zAd rfl) (by unfold maxLen; omega) (by omega) ?_; clear hp hO; intro a cap M w hO H; replace H := ((H.perm (zA6 M G).symm).sub (List.sublist_cons_self _ _)).sub (List.sublist_cons_self _ _)) | (with_reducible first | apply zB | apply zD | apply zC | apply zF | apply zG | apply zH | apply zP | apply za) | refine zA ?_ | (refine y23 ?_ ?_; all_goals (intro h; try (exfalso; first | ((rw [hd] at h; cases h); done)))) | fail)
  ·exact zh (vs := [_]) ⟨zp rfl, trivial⟩ (H.sub ((List.Sublist.cons _ (((List.sublist_append_right M G).cons_cons _).cons_cons _)))) ⟨[], p', none, 0, [], rfl, rfl, zAL _ _ _, Nat.zero_le _, hL.fail hP (Nat.le_of_eq hlen) (by omega) hS1 hkn hS (by simpa using h)⟩
  ·exact zM (xs ++ [x], a, cap, M, p') rfl ⟨by rw [List.length_append]; rfl, by rw [List.length_append]; exact zV (by omega), trivial⟩ ⟨H, by rw [sn_Bid, List.length_append]; exact hO, by rw [List.length_append]; exact hkn, hL.next hS hkn⟩ (by rw [List.length_append, List.length_singleton]; omega)
 ·have hd : decide ((xs.length : Int) < (n : Int)) = false := decide_eq_false (by omega)
  repeat' (first | refine y1 sg ?_ | (with_reducible first | apply zB | apply zD | apply zC | apply zG | apply zN | apply zW) | refine zA ?_ | refine y24 ?_ | (refine y23 ?_ ?_; all_goals (intro h; try (exfalso; first | ((rw [hd] at h; cases h); done)))) | fail)
  exact zh (vs := [_]) ⟨zp rfl, trivial⟩ H ⟨xs, pk, a, cap, M, rfl, rfl, hO, by omega, hL.done hP (Nat.le_of_eq hlen) (by omega) hS1 (by omega)⟩
theorem sn_Opn (xs : List Opn) (x : Opn) : (List.range (xs ++ [x]).length).flatMap (opl (xs ++ [x])) = (List.range xs.length).flatMap (opl xs) ++ x.cells := by
 rw [zBB (fun k hk => congrArg Opn.cells (zBz xs hk))]
 exact congrArg (_ ++ ·) (congrArg Opn.cells (zB0 xs))
theorem zLu {w0 w : World} {G : zI} {br pr : Nat} {s : ByteArray} {p : Rs} {g : FuncId} {caps : List Value} (P : Opn → List Nat → Prop) (hP : ∀ x l, P x l → l ≠ []) (hg : Ent Tryz.prog g) (hgt : Gt w0 G br pr s g caps (fun x : Opn => .agg x.cells.toArray) P)
  (hp : p.pos ≤ s.size) (hs : s.size ≤ 16777216) (H : St w0 (rd pr s p :: sr br pr s p.bad :: G) w) :
  Calls Tryz.prog 137 [ptr br, .func (.func g) #[] caps.toArray].toArray w (zy (LR br pr s G p 83 6 opl P) w0) := by
 have hlen := zU s
 refine enter [.tmp 4] Tryz.func137 rfl Tryz.ntmps137 rfl rfl ?_
 repeat' (first | refine y1 sg ?_ | refine y3 ?_ | refine y7 sg H ?_ | (refine' y33 zAo ?_ ?_; rotate_left 2; exact zAT s.size (by omega) hp (by omega) H; rintro v N w ⟨x, p1, rfl, rfl, ⟨hx0, hx1⟩, hS1⟩ H) | (with_reducible first | apply zB | apply zD | apply zC | apply zF) | refine zA ?_ | fail)
 obtain ⟨n, rfl⟩ : ∃ n : Nat, x = (n : Int) := ⟨x.toNat, by omega⟩
 refine zK [(4, 8), (15, 33)] (fun y : List Opn × Option Addr × Nat × zI × Rs => [(5, .slice y.2.1 y.1.length y.2.2.1), (15, .int .i64 (y.1.length : Int))]) (fun y w => St w0 (rd pr s y.2.2.2.2 :: sr br pr s y.2.2.2.2.bad :: (y.2.2.2.1 ++ G)) w ∧ Own y.2.2.2.1 83 6 y.2.1 y.1.length y.2.2.1 ((List.range y.1.length).flatMap (opl y.1)) ∧ y.1.length ≤ n ∧ ListAt (zT s) P p1 y.2.2.2.2 n y.1) (fun y => n - y.1.length) ([], none, 0, [], p1) ⟨rfl, rfl, trivial⟩ ⟨H, zAL _ _ _, Nat.zero_le _, zAg hS1.inv⟩ ?_
 clear H
 rintro ⟨xs, a, cap, M, pk⟩ gh w ⟨H, hO, hk, hL⟩
 simp only at H hO hk hL ⊢
 by_cases hkn : xs.length < n
 ·have hd : decide ((xs.length : Int) < (n : Int)) = true := decide_eq_true (by omega)
  have hpk := hL.inv
  repeat' (first | refine y1 sg ?_ | refine y3 ?_ | refine y7 sg H ?_ | (refine y10 sg H ?_; intro b w H) | (refine y11 sg H ?_; intro w H) | (refine zAN rfl rfl (zAK hg rfl rfl rfl) (hgt (M ++ G) pk _ (List.subset_append_right _ _) (by omega) H) ?_; rintro v N w ⟨x, p', rfl, rfl, -, hS⟩ H) | (refine' y30 zDY ?_ ?_; rotate_left; exact zCI H.mem (by repeat (first | exact List.Mem.head _ | exact List.mem_append_right _ (List.Mem.head _) | refine List.Mem.tail _ ?_)); intro w hcl; replace H := H.ext hcl; clear hcl) | (refine z14 sg H ?_; intro b w H) | (have hp := H.perm (zA6 M G); refine zm sg 6 200 (M := M) hp rfl rfl rfl rfl rfl rfl rfl rfl rfl rfl rfl hO (zAZ hp.mem (List.mem_append_right _ (List.Mem.head _))) rfl (zAd rfl) (by unfold maxLen; omega) (by omega) ?_; clear hp hO; intro a cap M w hO H; replace H := ((H.perm (zA6 M G).symm).sub (List.sublist_cons_self _ _)).sub (List.sublist_cons_self _ _)) | (with_reducible first | apply zB | apply zD | apply zC | apply zF | apply zG | apply zH | apply zP | apply za) | refine zA ?_ | (refine y23 ?_ ?_; all_goals (intro h; try (exfalso; first | ((rw [hd] at h; cases h); done)))) | fail)
  ·exact zh (vs := [_]) ⟨zp rfl, trivial⟩ (H.sub ((List.Sublist.cons _ (((List.sublist_append_right M G).cons_cons _).cons_cons _)))) ⟨[], p', none, 0, [], rfl, rfl, zAL _ _ _, Nat.zero_le _, hL.fail hP (Nat.le_of_eq hlen) (by omega) hS1 hkn hS (by simpa using h)⟩
  ·exact zM (xs ++ [x], a, cap, M, p') rfl ⟨by rw [List.length_append]; rfl, by rw [List.length_append]; exact zV (by omega), trivial⟩ ⟨H, by rw [sn_Opn, List.length_append]; exact hO, by rw [List.length_append]; exact hkn, hL.next hS hkn⟩ (by rw [List.length_append, List.length_singleton]; omega)
 ·have hd : decide ((xs.length : Int) < (n : Int)) = false := decide_eq_false (by omega)
  repeat' (first | refine y1 sg ?_ | (with_reducible first | apply zB | apply zD | apply zC | apply zG | apply zN | apply zW) | refine zA ?_ | refine y24 ?_ | (refine y23 ?_ ?_; all_goals (intro h; try (exfalso; first | ((rw [hd] at h; cases h); done)))) | fail)
  exact zh (vs := [_]) ⟨zp rfl, trivial⟩ H ⟨xs, pk, a, cap, M, rfl, rfl, hO, by omega, hL.done hP (Nat.le_of_eq hlen) (by omega) hS1 (by omega)⟩
theorem sn_Lot (xs : List Lt) (x : Lt) : (List.range (xs ++ [x]).length).flatMap (ltl (xs ++ [x])) = (List.range xs.length).flatMap (ltl xs) ++ x.cells := by
 rw [zBB (fun k hk => congrArg Lt.cells (zBz xs hk))]
 exact congrArg (_ ++ ·) (congrArg Lt.cells (zB0 xs))
theorem zLv {w0 w : World} {G : zI} {br pr : Nat} {s : ByteArray} {p : Rs} {g : FuncId} {caps : List Value} (P : Lt → List Nat → Prop) (hP : ∀ x l, P x l → l ≠ []) (hg : Ent Tryz.prog g) (hgt : Gt w0 G br pr s g caps (fun x : Lt => .agg x.cells.toArray) P)
  (hp : p.pos ≤ s.size) (hs : s.size ≤ 16777216) (H : St w0 (rd pr s p :: sr br pr s p.bad :: G) w) :
  Calls Tryz.prog 139 [ptr br, .func (.func g) #[] caps.toArray].toArray w (zy (LR br pr s G p 85 4 ltl P) w0) := by
 have hlen := zU s
 refine enter [.tmp 4] Tryz.func139 rfl Tryz.ntmps139 rfl rfl ?_
 repeat' (first | refine y1 sg ?_ | refine y3 ?_ | refine y7 sg H ?_ | (refine' y33 zAo ?_ ?_; rotate_left 2; exact zAT s.size (by omega) hp (by omega) H; rintro v N w ⟨x, p1, rfl, rfl, ⟨hx0, hx1⟩, hS1⟩ H) | (with_reducible first | apply zB | apply zD | apply zC | apply zF) | refine zA ?_ | fail)
 obtain ⟨n, rfl⟩ : ∃ n : Nat, x = (n : Int) := ⟨x.toNat, by omega⟩
 refine zK [(4, 8), (15, 33)] (fun y : List Lt × Option Addr × Nat × zI × Rs => [(5, .slice y.2.1 y.1.length y.2.2.1), (15, .int .i64 (y.1.length : Int))]) (fun y w => St w0 (rd pr s y.2.2.2.2 :: sr br pr s y.2.2.2.2.bad :: (y.2.2.2.1 ++ G)) w ∧ Own y.2.2.2.1 85 4 y.2.1 y.1.length y.2.2.1 ((List.range y.1.length).flatMap (ltl y.1)) ∧ y.1.length ≤ n ∧ ListAt (zT s) P p1 y.2.2.2.2 n y.1) (fun y => n - y.1.length) ([], none, 0, [], p1) ⟨rfl, rfl, trivial⟩ ⟨H, zAL _ _ _, Nat.zero_le _, zAg hS1.inv⟩ ?_
 clear H
 rintro ⟨xs, a, cap, M, pk⟩ gh w ⟨H, hO, hk, hL⟩
 simp only at H hO hk hL ⊢
 by_cases hkn : xs.length < n
 ·have hd : decide ((xs.length : Int) < (n : Int)) = true := decide_eq_true (by omega)
  have hpk := hL.inv
  repeat' (first | refine y1 sg ?_ | refine y3 ?_ | refine y7 sg H ?_ | (refine y10 sg H ?_; intro b w H) | (refine y11 sg H ?_; intro w H) | (refine zAN rfl rfl (zAK hg rfl rfl rfl) (hgt (M ++ G) pk _ (List.subset_append_right _ _) (by omega) H) ?_; rintro v N w ⟨x, p', rfl, rfl, -, hS⟩ H) | (refine' y30 zDY ?_ ?_; rotate_left; exact zCI H.mem (by repeat (first | exact List.Mem.head _ | exact List.mem_append_right _ (List.Mem.head _) | refine List.Mem.tail _ ?_)); intro w hcl; replace H := H.ext hcl; clear hcl) | (refine z14 sg H ?_; intro b w H) | (have hp := H.perm (zA6 M G); refine zm sg 4 200 (M := M) hp rfl rfl rfl rfl rfl rfl rfl rfl rfl rfl rfl hO (zAZ hp.mem (List.mem_append_right _ (List.Mem.head _))) rfl (zAd rfl) (by unfold maxLen; omega) (by omega) ?_; clear hp hO; intro a cap M w hO H; replace H := ((H.perm (zA6 M G).symm).sub (List.sublist_cons_self _ _)).sub (List.sublist_cons_self _ _)) | (with_reducible first | apply zB | apply zD | apply zC | apply zF | apply zG | apply zH | apply zP | apply za) | refine zA ?_ | (refine y23 ?_ ?_; all_goals (intro h; try (exfalso; first | ((rw [hd] at h; cases h); done)))) | fail)
  ·exact zh (vs := [_]) ⟨zp rfl, trivial⟩ (H.sub ((List.Sublist.cons _ (((List.sublist_append_right M G).cons_cons _).cons_cons _)))) ⟨[], p', none, 0, [], rfl, rfl, zAL _ _ _, Nat.zero_le _, hL.fail hP (Nat.le_of_eq hlen) (by omega) hS1 hkn hS (by simpa using h)⟩
  ·exact zM (xs ++ [x], a, cap, M, p') rfl ⟨by rw [List.length_append]; rfl, by rw [List.length_append]; exact zV (by omega), trivial⟩ ⟨H, by rw [sn_Lot, List.length_append]; exact hO, by rw [List.length_append]; exact hkn, hL.next hS hkn⟩ (by rw [List.length_append, List.length_singleton]; omega)
 ·have hd : decide ((xs.length : Int) < (n : Int)) = false := decide_eq_false (by omega)
  repeat' (first | refine y1 sg ?_ | (with_reducible first | apply zB | apply zD | apply zC | apply zG | apply zN | apply zW) | refine zA ?_ | refine y24 ?_ | (refine y23 ?_ ?_; all_goals (intro h; try (exfalso; first | ((rw [hd] at h; cases h); done)))) | fail)
  exact zh (vs := [_]) ⟨zp rfl, trivial⟩ H ⟨xs, pk, a, cap, M, rfl, rfl, hO, by omega, hL.done hP (Nat.le_of_eq hlen) (by omega) hS1 (by omega)⟩
theorem sn_Pos (xs : List Psn) (x : Psn) : (List.range (xs ++ [x]).length).flatMap (psl (xs ++ [x])) = (List.range xs.length).flatMap (psl xs) ++ x.cells := by
 rw [zBB (fun k hk => congrArg Psn.cells (zBz xs hk))]
 exact congrArg (_ ++ ·) (congrArg Psn.cells (zB0 xs))
theorem zLw {w0 w : World} {G : zI} {br pr : Nat} {s : ByteArray} {p : Rs} {g : FuncId} {caps : List Value} (P : Psn → List Nat → Prop) (hP : ∀ x l, P x l → l ≠ []) (hg : Ent Tryz.prog g) (hgt : Gt w0 G br pr s g caps (fun x : Psn => .agg x.cells.toArray) P)
  (hp : p.pos ≤ s.size) (hs : s.size ≤ 16777216) (H : St w0 (rd pr s p :: sr br pr s p.bad :: G) w) :
  Calls Tryz.prog 141 [ptr br, .func (.func g) #[] caps.toArray].toArray w (zy (LR br pr s G p 87 6 psl P) w0) := by
 have hlen := zU s
 refine enter [.tmp 4] Tryz.func141 rfl Tryz.ntmps141 rfl rfl ?_
 repeat' (first | refine y1 sg ?_ | refine y3 ?_ | refine y7 sg H ?_ | (refine' y33 zAo ?_ ?_; rotate_left 2; exact zAT s.size (by omega) hp (by omega) H; rintro v N w ⟨x, p1, rfl, rfl, ⟨hx0, hx1⟩, hS1⟩ H) | (with_reducible first | apply zB | apply zD | apply zC | apply zF) | refine zA ?_ | fail)
 obtain ⟨n, rfl⟩ : ∃ n : Nat, x = (n : Int) := ⟨x.toNat, by omega⟩
 refine zK [(4, 8), (15, 33)] (fun y : List Psn × Option Addr × Nat × zI × Rs => [(5, .slice y.2.1 y.1.length y.2.2.1), (15, .int .i64 (y.1.length : Int))]) (fun y w => St w0 (rd pr s y.2.2.2.2 :: sr br pr s y.2.2.2.2.bad :: (y.2.2.2.1 ++ G)) w ∧ Own y.2.2.2.1 87 6 y.2.1 y.1.length y.2.2.1 ((List.range y.1.length).flatMap (psl y.1)) ∧ y.1.length ≤ n ∧ ListAt (zT s) P p1 y.2.2.2.2 n y.1) (fun y => n - y.1.length) ([], none, 0, [], p1) ⟨rfl, rfl, trivial⟩ ⟨H, zAL _ _ _, Nat.zero_le _, zAg hS1.inv⟩ ?_
 clear H
 rintro ⟨xs, a, cap, M, pk⟩ gh w ⟨H, hO, hk, hL⟩
 simp only at H hO hk hL ⊢
 by_cases hkn : xs.length < n
 ·have hd : decide ((xs.length : Int) < (n : Int)) = true := decide_eq_true (by omega)
  have hpk := hL.inv
  repeat' (first | refine y1 sg ?_ | refine y3 ?_ | refine y7 sg H ?_ | (refine y10 sg H ?_; intro b w H) | (refine y11 sg H ?_; intro w H) | (refine zAN rfl rfl (zAK hg rfl rfl rfl) (hgt (M ++ G) pk _ (List.subset_append_right _ _) (by omega) H) ?_; rintro v N w ⟨x, p', rfl, rfl, -, hS⟩ H) | (refine' y30 zDY ?_ ?_; rotate_left; exact zCI H.mem (by repeat (first | exact List.Mem.head _ | exact List.mem_append_right _ (List.Mem.head _) | refine List.Mem.tail _ ?_)); intro w hcl; replace H := H.ext hcl; clear hcl) | (refine z14 sg H ?_; intro b w H) | (have hp := H.perm (zA6 M G); refine zm sg 6 200 (M := M) hp rfl rfl rfl rfl rfl rfl rfl rfl rfl rfl rfl hO (zAZ hp.mem (List.mem_append_right _ (List.Mem.head _))) rfl (zAd rfl) (by unfold maxLen; omega) (by omega) ?_; clear hp hO; intro a cap M w hO H; replace H := ((H.perm (zA6 M G).symm).sub (List.sublist_cons_self _ _)).sub (List.sublist_cons_self _ _)) | (with_reducible first | apply zB | apply zD | apply zC | apply zF | apply zG | apply zH | apply zP | apply za) | refine zA ?_ | (refine y23 ?_ ?_; all_goals (intro h; try (exfalso; first | ((rw [hd] at h; cases h); done)))) | fail)
  ·exact zh (vs := [_]) ⟨zp rfl, trivial⟩ (H.sub ((List.Sublist.cons _ (((List.sublist_append_right M G).cons_cons _).cons_cons _)))) ⟨[], p', none, 0, [], rfl, rfl, zAL _ _ _, Nat.zero_le _, hL.fail hP (Nat.le_of_eq hlen) (by omega) hS1 hkn hS (by simpa using h)⟩
  ·exact zM (xs ++ [x], a, cap, M, p') rfl ⟨by rw [List.length_append]; rfl, by rw [List.length_append]; exact zV (by omega), trivial⟩ ⟨H, by rw [sn_Pos, List.length_append]; exact hO, by rw [List.length_append]; exact hkn, hL.next hS hkn⟩ (by rw [List.length_append, List.length_singleton]; omega)
 ·have hd : decide ((xs.length : Int) < (n : Int)) = false := decide_eq_false (by omega)
  repeat' (first | refine y1 sg ?_ | (with_reducible first | apply zB | apply zD | apply zC | apply zG | apply zN | apply zW) | refine zA ?_ | refine y24 ?_ | (refine y23 ?_ ?_; all_goals (intro h; try (exfalso; first | ((rw [hd] at h; cases h); done)))) | fail)
  exact zh (vs := [_]) ⟨zp rfl, trivial⟩ H ⟨xs, pk, a, cap, M, rfl, rfl, hO, by omega, hL.done hP (Nat.le_of_eq hlen) (by omega) hS1 (by omega)⟩
theorem sn_Lin (xs : List Ln) (x : Ln) : (List.range (xs ++ [x]).length).flatMap (lnl (xs ++ [x])) = (List.range xs.length).flatMap (lnl xs) ++ x.cells := by
 rw [zBB (fun k hk => congrArg Ln.cells (zBz xs hk))]
 exact congrArg (_ ++ ·) (congrArg Ln.cells (zB0 xs))
theorem zLx {w0 w : World} {G : zI} {br pr : Nat} {s : ByteArray} {p : Rs} {g : FuncId} {caps : List Value} (P : Ln → List Nat → Prop) (hP : ∀ x l, P x l → l ≠ []) (hg : Ent Tryz.prog g) (hgt : Gt w0 G br pr s g caps (fun x : Ln => .agg x.cells.toArray) P)
  (hp : p.pos ≤ s.size) (hs : s.size ≤ 16777216) (H : St w0 (rd pr s p :: sr br pr s p.bad :: G) w) :
  Calls Tryz.prog 143 [ptr br, .func (.func g) #[] caps.toArray].toArray w (zy (LR br pr s G p 52 5 lnl P) w0) := by
 have hlen := zU s
 refine enter [.tmp 4] Tryz.func143 rfl Tryz.ntmps143 rfl rfl ?_
 repeat' (first | refine y1 sg ?_ | refine y3 ?_ | refine y7 sg H ?_ | (refine' y33 zAo ?_ ?_; rotate_left 2; exact zAT s.size (by omega) hp (by omega) H; rintro v N w ⟨x, p1, rfl, rfl, ⟨hx0, hx1⟩, hS1⟩ H) | (with_reducible first | apply zB | apply zD | apply zC | apply zF) | refine zA ?_ | fail)
 obtain ⟨n, rfl⟩ : ∃ n : Nat, x = (n : Int) := ⟨x.toNat, by omega⟩
 refine zK [(4, 8), (15, 33)] (fun y : List Ln × Option Addr × Nat × zI × Rs => [(5, .slice y.2.1 y.1.length y.2.2.1), (15, .int .i64 (y.1.length : Int))]) (fun y w => St w0 (rd pr s y.2.2.2.2 :: sr br pr s y.2.2.2.2.bad :: (y.2.2.2.1 ++ G)) w ∧ Own y.2.2.2.1 52 5 y.2.1 y.1.length y.2.2.1 ((List.range y.1.length).flatMap (lnl y.1)) ∧ y.1.length ≤ n ∧ ListAt (zT s) P p1 y.2.2.2.2 n y.1) (fun y => n - y.1.length) ([], none, 0, [], p1) ⟨rfl, rfl, trivial⟩ ⟨H, zAL _ _ _, Nat.zero_le _, zAg hS1.inv⟩ ?_
 clear H
 rintro ⟨xs, a, cap, M, pk⟩ gh w ⟨H, hO, hk, hL⟩
 simp only at H hO hk hL ⊢
 by_cases hkn : xs.length < n
 ·have hd : decide ((xs.length : Int) < (n : Int)) = true := decide_eq_true (by omega)
  have hpk := hL.inv
  repeat' (first | refine y1 sg ?_ | refine y3 ?_ | refine y7 sg H ?_ | (refine y10 sg H ?_; intro b w H) | (refine y11 sg H ?_; intro w H) | (refine zAN rfl rfl (zAK hg rfl rfl rfl) (hgt (M ++ G) pk _ (List.subset_append_right _ _) (by omega) H) ?_; rintro v N w ⟨x, p', rfl, rfl, -, hS⟩ H) | (refine' y30 zDY ?_ ?_; rotate_left; exact zCI H.mem (by repeat (first | exact List.Mem.head _ | exact List.mem_append_right _ (List.Mem.head _) | refine List.Mem.tail _ ?_)); intro w hcl; replace H := H.ext hcl; clear hcl) | (refine z14 sg H ?_; intro b w H) | (have hp := H.perm (zA6 M G); refine zm sg 5 200 (M := M) hp rfl rfl rfl rfl rfl rfl rfl rfl rfl rfl rfl hO (zAZ hp.mem (List.mem_append_right _ (List.Mem.head _))) rfl (zAd rfl) (by unfold maxLen; omega) (by omega) ?_; clear hp hO; intro a cap M w hO H; replace H := ((H.perm (zA6 M G).symm).sub (List.sublist_cons_self _ _)).sub (List.sublist_cons_self _ _)) | (with_reducible first | apply zB | apply zD | apply zC | apply zF | apply zG | apply zH | apply zP | apply za) | refine zA ?_ | (refine y23 ?_ ?_; all_goals (intro h; try (exfalso; first | ((rw [hd] at h; cases h); done)))) | fail)
  ·exact zh (vs := [_]) ⟨zp rfl, trivial⟩ (H.sub ((List.Sublist.cons _ (((List.sublist_append_right M G).cons_cons _).cons_cons _)))) ⟨[], p', none, 0, [], rfl, rfl, zAL _ _ _, Nat.zero_le _, hL.fail hP (Nat.le_of_eq hlen) (by omega) hS1 hkn hS (by simpa using h)⟩
  ·exact zM (xs ++ [x], a, cap, M, p') rfl ⟨by rw [List.length_append]; rfl, by rw [List.length_append]; exact zV (by omega), trivial⟩ ⟨H, by rw [sn_Lin, List.length_append]; exact hO, by rw [List.length_append]; exact hkn, hL.next hS hkn⟩ (by rw [List.length_append, List.length_singleton]; omega)
 ·have hd : decide ((xs.length : Int) < (n : Int)) = false := decide_eq_false (by omega)
  repeat' (first | refine y1 sg ?_ | (with_reducible first | apply zB | apply zD | apply zC | apply zG | apply zN | apply zW) | refine zA ?_ | refine y24 ?_ | (refine y23 ?_ ?_; all_goals (intro h; try (exfalso; first | ((rw [hd] at h; cases h); done)))) | fail)
  exact zh (vs := [_]) ⟨zp rfl, trivial⟩ H ⟨xs, pk, a, cap, M, rfl, rfl, hO, by omega, hL.done hP (Nat.le_of_eq hlen) (by omega) hS1 (by omega)⟩
end Go.Proofs.YtggolnppckpdlaaGreat
set_option linter.unusedSimpArgs false
set_option linter.unusedVariables false
namespace Go.Proofs.YtggolnppckpdlaaGreat
open Go Go.Sk Go.RowKit
attribute [local irreducible] Go.Calls
def zEy (_ : Unit) (l : List Nat) : Prop := l = []
theorem zAl {B : List Nat} {p : Rs} (h : p.pos ≤ B.length) : Step B zEy p p () := ⟨h, fun hl => ⟨hl, [], rfl, rfl⟩, fun hl y l r hy hr => ⟨hl, rfl, by rw [hr, show l = [] from hy]; rfl⟩⟩
theorem zl {c a b : Nat × Obj} (G : zI) : (c :: a :: b :: G).Perm (a :: b :: c :: G) := (List.Perm.swap a c _).trans ((List.Perm.swap b c _).cons a)
def zHs (x : Row4) (l : List Nat) : Prop := (0 ≤ x.acct ∧ x.acct ≤ 64) ∧ (0 ≤ x.asset ∧ x.asset ≤ 16) ∧ (0 ≤ (zx x).free ∧ (zx x).free ≤ 4611686018427387904) ∧ (0 ≤ x.held ∧ x.held ≤ 4611686018427387904) ∧ (-4611686018427387904 ≤ x.free ∧ x.free ≤ 4611686018427387904) ∧ l = zCa x
theorem zNj {a b c d : Int} (h0 : -4611686018427387904 ≤ c) (h1 : c ≤ 4611686018427387904) : zx (zx ⟨a, b, c, d⟩) = ⟨a, b, c, d⟩ := by
 unfold zx
 by_cases h : a = 0
 ·simp only [h, if_true]
  rw [w64 (x := 0 - c) (by omega) (by omega), w64 (by omega) (by omega)]
  congr 1; omega
 ·simp only [h, if_false]
theorem zNk {a b c d : Int} (h0 : 0 ≤ c) (h1 : c ≤ 4611686018427387904) : -4611686018427387904 ≤ (zx ⟨a, b, c, d⟩).free ∧ (zx ⟨a, b, c, d⟩).free ≤ 4611686018427387904 := by
 unfold zx
 by_cases h : a = 0
 ·simp only [h, if_true]; rw [w64 (by omega) (by omega)]; omega
 ·simp only [h, if_false]; omega
theorem zKz (r : Row4) : (zx r).acct = r.acct ∧ (zx r).asset = r.asset ∧ (zx r).held = r.held := by unfold zx; split <;> exact ⟨rfl, rfl, rfl⟩
def rowS := sqP (sqP (sqP (sqP zEy (zAn 64)) (zAn 16)) (zAn 4611686018427387904)) (zAn 4611686018427387904)
theorem row_PQ {a b c d : Int} (l : List Nat) (h : rowS (((((), a), b), c), d) l) : zHs (zx ⟨a, b, c, d⟩) l := by
 obtain ⟨_, _, ⟨_, _, ⟨_, _, ⟨_, _, h0, ⟨a0, b0, rfl⟩, rfl⟩, ⟨a1, b1, rfl⟩, rfl⟩, ⟨a2, b2, rfl⟩, rfl⟩, ⟨a3, b3, rfl⟩, rfl⟩ := h
 cases h0
 simp only at a0 b0 a1 b1 a2 b2 a3 b3 ⊢
 obtain ⟨e1, e2, e3⟩ := zKz ⟨a, b, c, d⟩
 have hi := zNk (a := a) (b := b) (d := d) a2 b2
 have h2 := zNj (a := a) (b := b) (c := c) (d := d) (by omega) b2
 refine ⟨by rw [e1]; exact ⟨a0, b0⟩, by rw [e2]; exact ⟨a1, b1⟩, by rw [h2]; exact ⟨a2, b2⟩, by rw [e3]; exact ⟨a3, b3⟩, hi, ?_⟩
 unfold zCa
 rw [h2]
 simp [zX]
theorem zNl (x : Row4) (l : List Nat) (h : zHs x l) : zx ⟨x.acct, x.asset, (zx x).free, x.held⟩ = x ∧ rowS (((((), x.acct), x.asset), (zx x).free), x.held) l := by
 obtain ⟨⟨a0, b0⟩, ⟨a1, b1⟩, ⟨a2, b2⟩, ⟨a3, b3⟩, ⟨a4, b4⟩, rfl⟩ := h
 obtain ⟨e1, e2, e3⟩ := zKz x
 constructor
 ·have h2 := zNj (a := x.acct) (b := x.asset) (c := x.free) (d := x.held) a4 b4
  have h3 : (⟨x.acct, x.asset, (zx x).free, x.held⟩ : Row4) = zx x := by
   rw [← e1, ← e2, ← e3]
  rw [h3]; exact h2
 ·exact ⟨_, _, ⟨_, _, ⟨_, _, ⟨[], _, rfl, ⟨a0, b0, rfl⟩, rfl⟩, ⟨a1, b1, rfl⟩, rfl⟩, ⟨a2, b2, rfl⟩, rfl⟩, ⟨a3, b3, rfl⟩, by simp [zCa, zX, e1, e2, e3]⟩
theorem zPM {w0 : World} {G : zI} {br pr cr : Nat} {s : ByteArray} (hs : s.size ≤ 16777216) (hm : cb cr [ptr br] 119 ∈ G) : Gt w0 G br pr s 128 [ptr cr] (fun x : Row4 => .agg x.cells.toArray) zHs := by
 intro G' p w hG hp H
 have hlen := zU s
 have hs' : s.size ≤ 1073741824 := by omega
 have hA := zAl (B := zT s) (p := p) (by omega)
 refine enter [.cell 1 74] Tryz.func128 rfl Tryz.ntmps128 rfl rfl ?_
 repeat' (first | refine y3 ?_ | refine y7 sg H ?_ | (refine y10 sg H ?_; intro b w H) | (refine y11 sg H ?_; intro w H) | (refine' y30 ent96 ?_ ?_; rotate_left; exact zKy ⟨_, _, _, _⟩ _; intro w hcl; replace H := H.ext hcl; clear hcl) | refine z13 (zJ sg rfl rfl (H.mem.sub (by intro p hp; simp [hp])) (hG hm) rfl rfl) ?_ | (refine zAE zZ 8 ?_ ?_; exact rfl; intro w hcl; replace H := H.ext hcl; clear hcl) | ((with_reducible apply zBc); decide +kernel) | (refine' z8 4 ?_ ?_; rotate_left; first | exact z9 sg) | (refine' z8 6 ?_ ?_; rotate_left; first | exact z9 sg) | refine z10 0 ?_ | refine z10 1 ?_ | refine z10 2 ?_ | refine z10 3 ?_ | refine z10 5 ?_ | refine z10 7 ?_ | refine z11 0 2 ?_ ?_ | refine z11 1 2 ?_ ?_ | (refine' y33 zAo ?_ ?_; rotate_left 2; exact zAT 64 (by omega) (Nat.le_trans hA.inv (Nat.le_of_eq hlen)) hs' (H.perm (zl _)); rintro v N w ⟨x, p', rfl, rfl, -, hS⟩ H; replace H := H.perm (zl _).symm; replace hA := hA.seq hS; clear hS) | (refine' y33 zAo ?_ ?_; rotate_left 2; exact zAT 16 (by omega) (Nat.le_trans hA.inv (Nat.le_of_eq hlen)) hs' (H.perm (zl _)); rintro v N w ⟨x, p', rfl, rfl, -, hS⟩ H; replace H := H.perm (zl _).symm; replace hA := hA.seq hS; clear hS) | (refine' y33 zCv ?_ ?_; rotate_left 2; exact zCx (Nat.le_trans hA.inv (Nat.le_of_eq hlen)) hs' (H.perm (zl _)); rintro v N w ⟨x, p', rfl, rfl, -, hS⟩ H; replace H := H.perm (zl _).symm; replace hA := hA.seq hS; clear hS) | (with_reducible first | apply zB | apply zD | apply zC | apply zG) | refine zA ?_ | fail)
 all_goals
  refine zh (vs := [_]) ⟨zAb sg rfl H.mem (List.Mem.head _) rfl rfl, trivial⟩ (H.sub (List.sublist_cons_self _ _)) ⟨_, _, ?_, rfl, trivial, hA.map (fun z => zx ⟨z.1.1.1.2, z.1.1.2, z.1.2, z.2⟩) (fun x => (((((), x.acct), x.asset), (zx x).free), x.held)) ?_ ?_⟩
  ·rfl
  ·exact row_PQ
  ·exact zNl
theorem and1 {n : Int} (h0 : 0 ≤ n) (h1 : n ≤ 4611686018427387904) : IntKind.i64.wrap ((BitVec.ofInt IntKind.i64.bits n &&& BitVec.ofInt IntKind.i64.bits 1).toNat : Int) = n % 2 := by
 obtain ⟨k, rfl⟩ : ∃ k : Nat, n = (k : Int) := ⟨n.toNat, by omega⟩
 rw [show (1 : Int) = ((1 : Nat) : Int) from rfl, BitVec.ofInt_natCast, BitVec.ofInt_natCast, BitVec.toNat_and, BitVec.toNat_ofNat, BitVec.toNat_ofNat, show k % 2 ^ IntKind.i64.bits = k from Nat.mod_eq_of_lt (show k < 2 ^ 64 by omega), show 1 % 2 ^ IntKind.i64.bits = 1 from rfl, Nat.and_one_is_mod, w64 (by omega) (by omega)]
 omega
def zBC (n : Int) : Int := if n % 2 = 0 then n / 2 else -(n / 2) - 1
def zB3 (d : Int) : Int := if d > 0 then 2 * d else if d = 0 then 0 else -2 * d - 1
theorem zHt {n : Int} (h0 : 0 ≤ n) (_ : n ≤ 4611686018427387904) : zB3 (zBC n) = n := by
 unfold zB3 zBC; repeat' split
 all_goals omega
theorem zPN {n : Int} (h0 : 0 ≤ n) (h1 : n ≤ 4611686018427387904) : 0 ≤ zB3 (zBC n) ∧ zB3 (zBC n) ≤ 4611686018427387904 := by rw [zHt h0 h1]; exact ⟨h0, h1⟩
theorem unf_ok {n : Int} (h0 : 0 ≤ n) (h1 : n ≤ 4611686018427387904) : zBC (zB3 (zBC n)) = zBC n := by rw [zHt h0 h1]
theorem zNm {n : Int} (h0 : 0 ≤ n) (h1 : n ≤ 4611686018427387904) (w : World) : Calls Tryz.prog 145 [.int .i64 n].toArray w (Ret (.int .i64 (zBC n)) w) := by
 have ha := and1 h0 h1
 have hq : Int.tdiv n 2 = n / 2 := Int.tdiv_eq_ediv_of_nonneg h0
 have hq2 : Int.tdiv (-n) 2 = -(n / 2) := by rw [Int.neg_tdiv, hq]
 refine enter [.tmp 2] Tryz.func145 rfl Tryz.ntmps145 rfl rfl ?_
 have H := zE w
 repeat' (first | refine y1 sg ?_ | (with_reducible first | apply zB | apply zD | apply zC | apply zG | apply zH | apply zP) | refine zA ?_ | (refine y23 ?_ ?_; all_goals intro h) | fail)
 ·rw [ha] at h
  exact zO rfl H.cl (congrArg (Value.int .i64) (by
   show IntKind.i64.wrap (n.tdiv 2) = _
   rw [hq, w64 (by omega) (by omega)]; unfold zBC; rw [if_pos (by simpa using h)]))
 ·rw [ha] at h
  exact zO rfl H.cl (congrArg (Value.int .i64) (by
   show IntKind.i64.wrap (IntKind.i64.wrap ((IntKind.i64.wrap (0 - n)).tdiv 2) - 1) = _
   rw [w64 (x := 0 - n) (by omega) (by omega), show 0 - n = -n by omega, hq2, w64 (x := -(n / 2)) (by omega) (by omega), w64 (by omega) (by omega)]; unfold zBC; rw [if_neg (by simpa using h)]))
end Go.Proofs.YtggolnppckpdlaaGreat
