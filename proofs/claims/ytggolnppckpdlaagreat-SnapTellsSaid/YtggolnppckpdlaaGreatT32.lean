/- Texts of ours, joined: the steps of the proof, or the claim's theorem. -/
import Derived.Test.YtggolnppckpdlaaGreatT31
set_option linter.unusedSimpArgs false
set_option linter.unusedVariables false
namespace Go.Proofs.YtggolnppckpdlaaGreat
open Go Go.Sk Go.RowKit
attribute [local irreducible] Go.Calls
theorem zCO {a b c r q : Nat × Obj} {G : zI} : (a :: b :: c :: r :: q :: G).Perm (r :: q :: a :: b :: c :: G) := by
 have := List.perm_append_comm_assoc [a, b, c] [r, q] G
 simpa using this
theorem zE8 {a b c r q : Nat × Obj} (M G : zI) : (r :: q :: (M ++ (a :: b :: c :: G))).Perm (a :: b :: c :: r :: q :: (M ++ G)) := by
 have h1 := List.perm_append_comm_assoc M [a, b, c] G
 have h2 : (r :: q :: (M ++ (a :: b :: c :: G))).Perm (r :: q :: ([a, b, c] ++ (M ++ G))) := (h1.cons q).cons r
 exact h2.trans zCO.symm
theorem zEY {a b : List Nat} (h : b ≠ []) : a ++ b ≠ [] := fun k => h (List.append_eq_nil_iff.1 k).2
theorem zLB {x : Ac} {l : List Nat} (h : zJg x l) : l ≠ [] := by
 have h2 : ∃ m, l = m ++ zk x.opn := ⟨_, h.2⟩
 obtain ⟨m, rfl⟩ := h2
 exact zEY (by simp [zk])
theorem zLC {x : Ins} {l : List Nat} (h : zJh x l) : l ≠ [] := by
 have h2 : ∃ m, l = m ++ zk x.halted := ⟨_, h.2.2⟩
 obtain ⟨m, rfl⟩ := h2
 exact zEY (by simp [zk])
theorem zLD {x : Row4} {l : List Nat} (h : zHs x l) : l ≠ [] := by
 rw [h.2.2.2.2.2]
 exact fun k => zCF _ (List.append_eq_nil_iff.1 k).1
theorem zLE {x : Odr} {l : List Nat} (h : zJi x l) : l ≠ [] := by
 rw [h.2.2.2.2.2.2]
 exact zEY (zCF _)
theorem zLF {x : Opn} {l : List Nat} (h : zJk x l) : l ≠ [] := by
 rw [h.2.2.2.2.2.2]
 exact zEY (zCF _)
theorem zLG {x : Lt} {l : List Nat} (h : zJl x l) : l ≠ [] := by
 rw [h.2.2.2.2]
 exact zEY (zCF _)
theorem zLH {x : Psn} {l : List Nat} (h : zJm x l) : l ≠ [] := by
 rw [h.2.2.2.2.2.2]
 exact zEY (zCF _)
theorem zLI {x : Ln} {l : List Nat} (h : zJn x l) : l ≠ [] := by
 rw [h.2.2.2.2.2.2]
 exact zEY (zCF _)
abbrev zJ3 := (((((((((Unit × Int) × Int) × Int) × Int) × List Ac) × List Ins) × List Row4) × List Odr) × List Auc)
def staS : zJ3 → List Nat → Prop := sqP (sqP (sqP (sqP (sqP (sqP (sqP (sqP (sqP zEy (zAn 4611686018427387904)) (zAn 4611686018427387904)) (zAn 4611686018427387904)) (zAn 4611686018427387904)) (zA0 zJg)) (zA0 zJh)) (zA0 zHs)) (zA0 zJi)) (zA0 zHu)
def zFV (x : Sta) : zJ3 := ((((((((((), x.clock), x.fee), x.nextO), x.nextA), x.accts), x.insts), x.rows), x.orders), x.aucs)
def staOf (z : zJ3) : Sta := ⟨z.1.1.1.1.1.1.1.1.2, z.1.1.1.1.1.1.1.2, z.1.1.1.1.1.1.2, z.1.1.1.1.1.2, z.1.1.1.1.2, z.1.1.1.2, z.1.1.2, z.1.2, z.2⟩
def zD9 (x : Sta) (l : List Nat) : Prop := staS (zFV x) l
def GetR (br pr : Nat) (s : ByteArray) (G : zI) (p : Rs) : zI → Value → Prop := fun N v => ∃ (x : Sta) (pt : SPt) (p' : Rs) (M : zI), v = .agg (x.cells pt).toArray ∧ N = rd pr s p' :: sr br pr s p'.bad :: (M ++ G) ∧ StaM M x pt ∧ Step (zT s) zD9 p p' x
set_option maxHeartbeats 4000000 in
theorem c_get {w0 w : World} {G : zI} {br pr : Nat} {s : ByteArray} {p : Rs} (hp : p.pos ≤ s.size) (hs : s.size ≤ 16777216) (H : St w0 (rd pr s p :: sr br pr s p.bad :: G) w) :
  Calls Tryz.prog 61 [ptr br].toArray w (zy (GetR br pr s G p) w0) := by
 have hlen := zU s
 have hs' : s.size ≤ 1073741824 := by omega
 have hA := zAl (B := zT s) (p := p) (by omega)
 refine enter [.cell 2 29] Tryz.func61 rfl Tryz.ntmps61 rfl rfl ?_
 repeat' (first | refine y1 sg ?_ | refine y3 ?_ | refine y7 sg H ?_ | (refine y9 H ?_; intro b w H) | (refine y10 sg H ?_; intro b w H) | (refine y11 sg H ?_; intro w H) | (refine zAE zZ 8 ?_ ?_; exact rfl; intro w hcl; replace H := H.ext hcl; clear hcl) | ((with_reducible apply zBc); decide +kernel) | (refine' z8 4 ?_ ?_; rotate_left; first | exact z9 sg) | (refine' z8 6 ?_ ?_; rotate_left; first | exact z9 sg) | refine z10 0 ?_ | refine z10 1 ?_ | refine z10 2 ?_ | refine z10 3 ?_ | refine z10 5 ?_ | refine z10 7 ?_ | refine z11 0 2 ?_ ?_ | refine z11 1 2 ?_ ?_ | (refine' y33 zCv ?_ ?_; rotate_left 2; exact zCx (Nat.le_trans hA.inv (Nat.le_of_eq hlen)) hs' (H.perm zCO); rintro v N w ⟨x, p', rfl, rfl, -, hS⟩ H; replace H := H.perm zCO.symm; replace hA := hA.seq hS; clear hS) | (refine' y33 ent121 ?_ ?_; rotate_left 2; exact zLp zJg (fun x l h => zLB h) ent122 (zPO hs (List.Mem.tail _ (List.Mem.tail _ (List.Mem.head _)))) (Nat.le_trans hA.inv (Nat.le_of_eq hlen)) hs (H.perm zCO); rintro v N w ⟨x1, p', a1, c1, M1, rfl, rfl, O1, hx1, hS⟩ H; replace H := H.perm (zE8 M1 _); replace hA := hA.seq hS; clear hS) | (refine' y33 ent125 ?_ ?_; rotate_left 2; exact zLq zJh (fun x l h => zLC h) ent126 (zPP hs (List.Mem.tail _ (List.Mem.tail _ (List.Mem.head _)))) (Nat.le_trans hA.inv (Nat.le_of_eq hlen)) hs (H.perm zCO); rintro v N w ⟨x2, p', a2, c2, M2, rfl, rfl, O2, hx2, hS⟩ H; replace H := H.perm (zE8 M2 _); replace hA := hA.seq hS; clear hS) | (refine' y33 ent127 ?_ ?_; rotate_left 2; exact zLr zHs (fun x l h => zLD h) ent128 (zPM hs (List.Mem.tail _ (List.Mem.tail _ (List.Mem.head _)))) (Nat.le_trans hA.inv (Nat.le_of_eq hlen)) hs (H.perm zCO); rintro v N w ⟨x3, p', a3, c3, M3, rfl, rfl, O3, hx3, hS⟩ H; replace H := H.perm (zE8 M3 _); replace hA := hA.seq hS; clear hS) | (refine' y33 ent130 ?_ ?_; rotate_left 2; exact zLs zJi (fun x l h => zLE h) ent131 (zPQ hs (List.Mem.tail _ (List.Mem.tail _ (List.Mem.head _)))) (Nat.le_trans hA.inv (Nat.le_of_eq hlen)) hs (H.perm zCO); rintro v N w ⟨x4, p', a4, c4, M4, rfl, rfl, O4, hx4, hS⟩ H; replace H := H.perm (zE8 M4 _); replace hA := hA.seq hS; clear hS) | (refine' y33 ent133 ?_ ?_; rotate_left 2; exact zMG ent134 (zPW hs (List.Mem.tail _ (List.Mem.tail _ (List.Mem.head _)))) (Nat.le_trans hA.inv (Nat.le_of_eq hlen)) hs (H.perm zCO); rintro v N w ⟨x5, p', a5, c5, ad5, M5, rfl, rfl, O5, hS⟩ H; replace H := H.perm (zE8 M5 _); replace hA := hA.seq hS; clear hS) | (with_reducible first | apply zB | apply zD | apply zC | apply zG) | refine zA ?_ | fail)
 all_goals
  refine zh (vs := [_]) ⟨zAb sg rfl H.mem (List.Mem.tail _ (List.Mem.head _)) rfl rfl, trivial⟩ (((H.sub (List.sublist_cons_self _ _)).sub (List.sublist_cons_self _ _)).sub (List.sublist_cons_self _ _)) ⟨_, ⟨a1, c1, a2, c2, a3, c3, a4, c4, a5, c5, ad5⟩, _, M5 ++ (M4 ++ (M3 ++ (M2 ++ M1))), ?_, by simp only [List.append_assoc], ?_, hA.map staOf zFV (fun l h => h) (fun z l h => ⟨rfl, h⟩)⟩
  ·rfl
  ·exact ⟨O1.sl (by intro p hp; simp [hp]) (fun _ _ => rfl) (by omega), O2.sl (by intro p hp; simp [hp]) (fun _ _ => rfl) (by omega), O3.sl (by intro p hp; simp [hp]) (fun _ _ => rfl) (by omega), O4.sl (by intro p hp; simp [hp]) (fun _ _ => rfl) (by omega), SlA.mono O5.1 (List.subset_append_left _ _), fun j hj => SlA.mono (O5.2 j hj) (List.subset_append_left _ _)⟩
abbrev zJ4 := ((((Unit × List Opn) × List Lt) × List Psn) × List Ln)
def vwsS : zJ4 → List Nat → Prop := sqP (sqP (sqP (sqP zEy (zA0 zJk)) (zA0 zJl)) (zA0 zJm)) (zA0 zJn)
def vwsT (x : Vws) : zJ4 := ((((((), x.opn), x.lots), x.poss), x.lins))
def vwsOf (z : zJ4) : Vws := ⟨z.1.1.1.2, z.1.1.2, z.1.2, z.2⟩
def zE9 (x : Vws) (l : List Nat) : Prop := vwsS (vwsT x) l
def VwsR (br pr : Nat) (s : ByteArray) (G : zI) (p : Rs) : zI → Value → Prop := fun N v => ∃ (x : Vws) (pt : VPt) (p' : Rs) (M : zI), v = .agg (x.cells pt).toArray ∧ N = rd pr s p' :: sr br pr s p'.bad :: (M ++ G) ∧ VwM M x pt ∧ Step (zT s) zE9 p p' x
set_option maxHeartbeats 4000000 in
theorem zOC {w0 w : World} {G : zI} {br pr : Nat} {s : ByteArray} {p : Rs} (hp : p.pos ≤ s.size) (hs : s.size ≤ 16777216) (H : St w0 (rd pr s p :: sr br pr s p.bad :: G) w) :
  Calls Tryz.prog 62 [ptr br].toArray w (zy (VwsR br pr s G p) w0) := by
 have hlen := zU s
 have hA := zAl (B := zT s) (p := p) (by omega)
 refine enter [.cell 2 35] Tryz.func62 rfl Tryz.ntmps62 rfl rfl ?_
 repeat' (first | refine y1 sg ?_ | refine y3 ?_ | refine y7 sg H ?_ | (refine y9 H ?_; intro b w H) | (refine y10 sg H ?_; intro b w H) | (refine y11 sg H ?_; intro w H) | (refine' y33 ent137 ?_ ?_; rotate_left 2; exact zLu zJk (fun x l h => zLF h) ent138 (zPS hs (List.Mem.tail _ (List.Mem.tail _ (List.Mem.head _)))) (Nat.le_trans hA.inv (Nat.le_of_eq hlen)) hs (H.perm zCO); rintro v N w ⟨x1, p', a1, c1, M1, rfl, rfl, O1, hx1, hS⟩ H; replace H := H.perm (zE8 M1 _); replace hA := hA.seq hS; clear hS) | (refine' y33 ent139 ?_ ?_; rotate_left 2; exact zLv zJl (fun x l h => zLG h) ent140 (zPT hs (List.Mem.tail _ (List.Mem.tail _ (List.Mem.head _)))) (Nat.le_trans hA.inv (Nat.le_of_eq hlen)) hs (H.perm zCO); rintro v N w ⟨x2, p', a2, c2, M2, rfl, rfl, O2, hx2, hS⟩ H; replace H := H.perm (zE8 M2 _); replace hA := hA.seq hS; clear hS) | (refine' y33 ent141 ?_ ?_; rotate_left 2; exact zLw zJm (fun x l h => zLH h) ent142 (zPU hs (List.Mem.tail _ (List.Mem.tail _ (List.Mem.head _)))) (Nat.le_trans hA.inv (Nat.le_of_eq hlen)) hs (H.perm zCO); rintro v N w ⟨x3, p', a3, c3, M3, rfl, rfl, O3, hx3, hS⟩ H; replace H := H.perm (zE8 M3 _); replace hA := hA.seq hS; clear hS) | (refine' y33 ent143 ?_ ?_; rotate_left 2; exact zLx zJn (fun x l h => zLI h) ent144 (zPV hs (List.Mem.tail _ (List.Mem.tail _ (List.Mem.head _)))) (Nat.le_trans hA.inv (Nat.le_of_eq hlen)) hs (H.perm zCO); rintro v N w ⟨x4, p', a4, c4, M4, rfl, rfl, O4, hx4, hS⟩ H; replace H := H.perm (zE8 M4 _); replace hA := hA.seq hS; clear hS) | (with_reducible first | apply zB | apply zD | apply zC | apply zG) | refine zA ?_ | fail)
 all_goals
  refine zh (vs := [_]) ⟨zAb sg rfl H.mem (List.Mem.tail _ (List.Mem.head _)) rfl rfl, trivial⟩ (((H.sub (List.sublist_cons_self _ _)).sub (List.sublist_cons_self _ _)).sub (List.sublist_cons_self _ _)) ⟨_, ⟨a1, c1, a2, c2, a3, c3, a4, c4⟩, _, M4 ++ (M3 ++ (M2 ++ M1)), ?_, by simp only [List.append_assoc], ?_, hA.map vwsOf vwsT (fun l h => h) (fun z l h => ⟨rfl, h⟩)⟩
  ·rfl
  ·exact ⟨O1.sl (by intro p hp; simp [hp]) (fun _ _ => rfl) (by omega), O2.sl (by intro p hp; simp [hp]) (fun _ _ => rfl) (by omega), O3.sl (by intro p hp; simp [hp]) (fun _ _ => rfl) (by omega), O4.sl (by intro p hp; simp [hp]) (fun _ _ => rfl) (by omega)⟩
end Go.Proofs.YtggolnppckpdlaaGreat
