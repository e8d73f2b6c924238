/- Texts of ours, joined: the steps of the proof, or the claim's theorem. -/
import Derived.Test.YtggolnppckpdlaaGreatR30
set_option linter.unusedSimpArgs false
set_option linter.unusedVariables false
namespace Go.Proofs.YtggolnppckpdlaaGreat
open Go Go.Sk Go.RowKit
attribute [local irreducible] Go.Calls
theorem zCF {a b c r q : Nat × Obj} {G : zI} : (a :: b :: c :: r :: q :: G).Perm (r :: q :: a :: b :: c :: G) := by
 have := List.perm_append_comm_assoc [a, b, c] [r, q] G
 simpa using this
theorem zEn {a b c r q : Nat × Obj} (M G : zI) : (r :: q :: (M ++ (a :: b :: c :: G))).Perm (a :: b :: c :: r :: q :: (M ++ G)) := by
 have h1 := List.perm_append_comm_assoc M [a, b, c] G
 have h2 : (r :: q :: (M ++ (a :: b :: c :: G))).Perm (r :: q :: ([a, b, c] ++ (M ++ G))) := (h1.cons q).cons r
 exact h2.trans zCF.symm
theorem zBQ {a b : List Nat} (h : b ≠ []) : a ++ b ≠ [] := fun k => h (List.append_eq_nil_iff.1 k).2
theorem zLG {x : Ac} {l : List Nat} (h : zIT x l) : l ≠ [] := by
 have h2 : ∃ m, l = m ++ zAS x.opn := ⟨_, h.2⟩
 obtain ⟨m, rfl⟩ := h2
 exact zBQ (by simp [zAS])
theorem zLH {x : Ins} {l : List Nat} (h : zIU x l) : l ≠ [] := by
 have h2 : ∃ m, l = m ++ zAS x.halted := ⟨_, h.2.2⟩
 obtain ⟨m, rfl⟩ := h2
 exact zBQ (by simp [zAS])
theorem zLI {x : Row4} {l : List Nat} (h : zGg x l) : l ≠ [] := by
 rw [h.2.2.2.2.2]
 exact fun k => zAj _ (List.append_eq_nil_iff.1 k).1
theorem zLJ {x : Odr} {l : List Nat} (h : zIV x l) : l ≠ [] := by
 rw [h.2.2.2.2.2.2]
 exact zBQ (zAj _)
theorem zLK {x : Opn} {l : List Nat} (h : zIX x l) : l ≠ [] := by
 rw [h.2.2.2.2.2.2]
 exact zBQ (zAj _)
theorem zLL {x : Lt} {l : List Nat} (h : zIY x l) : l ≠ [] := by
 rw [h.2.2.2.2]
 exact zBQ (zAj _)
theorem zLM {x : Psn} {l : List Nat} (h : zIZ x l) : l ≠ [] := by
 rw [h.2.2.2.2.2.2]
 exact zBQ (zAj _)
theorem zLN {x : Ln} {l : List Nat} (h : zIa x l) : l ≠ [] := by
 rw [h.2.2.2.2.2.2]
 exact zBQ (zAj _)
abbrev zHs := (((((((((Unit × Int) × Int) × Int) × Int) × List Ac) × List Ins) × List Row4) × List Odr) × List Auc)
def staS : zHs → List Nat → Prop := sqP (sqP (sqP (sqP (sqP (sqP (sqP (sqP (sqP zBq (ze 4611686018427387904)) (ze 4611686018427387904)) (ze 4611686018427387904)) (ze 4611686018427387904)) (zy zIT)) (zy zIU)) (zy zGg)) (zy zIV)) (zy zGh)
def zDc (x : Sta) : zHs := ((((((((((), x.clock), x.fee), x.nextO), x.nextA), x.accts), x.insts), x.rows), x.orders), x.aucs)
def zOI (z : zHs) : Sta := ⟨z.1.1.1.1.1.1.1.1.2, z.1.1.1.1.1.1.1.2, z.1.1.1.1.1.1.2, z.1.1.1.1.1.2, z.1.1.1.1.2, z.1.1.1.2, z.1.1.2, z.1.2, z.2⟩
def zDd (x : Sta) (l : List Nat) : Prop := staS (zDc x) l
def GetR (br pr : Nat) (s : ByteArray) (G : zI) (p : Rs) : zI → Value → Prop := fun N v => ∃ (x : Sta) (pt : SPt) (p' : Rs) (M : zI), v = .agg (x.cells pt).toArray ∧ N = rd pr s p' :: sr br pr s p'.bad :: (M ++ G) ∧ StaM M x pt ∧ Step (zN s) zDd p p' x ∧ Fz M
set_option maxHeartbeats 4000000 in
theorem c_get {w0 w : World} {G : zI} {br pr : Nat} {s : ByteArray} {p : Rs} (hp : p.pos ≤ s.size) (hs : s.size ≤ 16777216) (H : St w0 (rd pr s p :: sr br pr s p.bad :: G) w) :
  Calls Tryz.prog 61 [ptr br].toArray w (zf (GetR br pr s G p) w0) := by
 have hlen := zP s
 have hs' : s.size ≤ 1073741824 := by omega
 have hA := zg (B := zN s) (p := p) (by omega)
 refine enter [.cell 2 29] Tryz.func61 rfl Tryz.ntmps61 rfl rfl ?_
 repeat' (first | refine y1 sg ?_ | refine y3 ?_ | refine y7 sg H ?_ | (refine y9 H ?_; intro b w H) | (refine y10 sg H ?_; intro b w H) | (refine y11 sg H ?_; intro w H) | (refine zw mixed 8 ?_ ?_; exact rfl; intro w hcl; replace H := H.ext hcl; clear hcl) | ((with_reducible apply zBD); decide +kernel) | (refine' z8 4 ?_ ?_; rotate_left; first | exact z9 sg) | (refine' z8 6 ?_ ?_; rotate_left; first | exact z9 sg) | refine z10 0 ?_ | refine z10 1 ?_ | refine z10 2 ?_ | refine z10 3 ?_ | refine z10 5 ?_ | refine z10 7 ?_ | refine z11 0 2 ?_ ?_ | refine z11 1 2 ?_ ?_ | (refine' y33 zCj ?_ ?_; rotate_left 2; exact zCl (Nat.le_trans hA.inv (Nat.le_of_eq hlen)) hs' (H.perm zCF); rintro v N w ⟨x, p', rfl, rfl, -, hS⟩ H; replace H := H.perm zCF.symm; replace hA := hA.seq hS; clear hS) | (refine' y33 ent121 ?_ ?_; rotate_left 2; exact zLy zIT (fun x l h => zLG h) ent122 (zPe hs (List.Mem.tail _ (List.Mem.tail _ (List.Mem.head _)))) (Nat.le_trans hA.inv (Nat.le_of_eq hlen)) hs (H.perm zCF); rintro v N w ⟨x1, p', a1, c1, M1, rfl, rfl, O1, hx1, hS⟩ H; replace H := H.perm (zEn M1 _); replace hA := hA.seq hS; clear hS) | (refine' y33 ent125 ?_ ?_; rotate_left 2; exact zLz zIU (fun x l h => zLH h) ent126 (zPf hs (List.Mem.tail _ (List.Mem.tail _ (List.Mem.head _)))) (Nat.le_trans hA.inv (Nat.le_of_eq hlen)) hs (H.perm zCF); rintro v N w ⟨x2, p', a2, c2, M2, rfl, rfl, O2, hx2, hS⟩ H; replace H := H.perm (zEn M2 _); replace hA := hA.seq hS; clear hS) | (refine' y33 ent127 ?_ ?_; rotate_left 2; exact zL0 zGg (fun x l h => zLI h) ent128 (zPc hs (List.Mem.tail _ (List.Mem.tail _ (List.Mem.head _)))) (Nat.le_trans hA.inv (Nat.le_of_eq hlen)) hs (H.perm zCF); rintro v N w ⟨x3, p', a3, c3, M3, rfl, rfl, O3, hx3, hS⟩ H; replace H := H.perm (zEn M3 _); replace hA := hA.seq hS; clear hS) | (refine' y33 ent130 ?_ ?_; rotate_left 2; exact zL1 zIV (fun x l h => zLJ h) ent131 (zPg hs (List.Mem.tail _ (List.Mem.tail _ (List.Mem.head _)))) (Nat.le_trans hA.inv (Nat.le_of_eq hlen)) hs (H.perm zCF); rintro v N w ⟨x4, p', a4, c4, M4, rfl, rfl, O4, hx4, hS⟩ H; replace H := H.perm (zEn M4 _); replace hA := hA.seq hS; clear hS) | (refine' y33 ent133 ?_ ?_; rotate_left 2; exact zMP ent134 (zPm hs (List.Mem.tail _ (List.Mem.tail _ (List.Mem.head _)))) (Nat.le_trans hA.inv (Nat.le_of_eq hlen)) hs (H.perm zCF); rintro v N w ⟨x5, p', a5, c5, ad5, M5, rfl, rfl, O5, hS, z5⟩ H; replace H := H.perm (zEn M5 _); replace hA := hA.seq hS; clear hS) | (with_reducible first | apply zB | apply zD | apply zC | apply zF) | refine zA ?_ | fail)
 all_goals
  refine zU (vs := [_]) ⟨zAF sg rfl H.mem (List.Mem.tail _ (List.Mem.head _)) rfl rfl, trivial⟩ (((H.sub (List.sublist_cons_self _ _)).sub (List.sublist_cons_self _ _)).sub (List.sublist_cons_self _ _)) ⟨_, ⟨a1, c1, a2, c2, a3, c3, a4, c4, a5, c5, ad5⟩, _, M5 ++ (M4 ++ (M3 ++ (M2 ++ M1))), ?_, by simp only [List.append_assoc], ?_, hA.map zOI zDc (fun l h => h) (fun z l h => ⟨rfl, h⟩), z5.app ((Own.fz O4).app ((Own.fz O3).app ((Own.fz O2).app (Own.fz O1))))⟩
  ·rfl
  ·exact ⟨O1.sl (by intro p hp; simp [hp]) (fun _ _ => rfl) (by omega), O2.sl (by intro p hp; simp [hp]) (fun _ _ => rfl) (by omega), O3.sl (by intro p hp; simp [hp]) (fun _ _ => rfl) (by omega), O4.sl (by intro p hp; simp [hp]) (fun _ _ => rfl) (by omega), SlA.mono O5.1 (List.subset_append_left _ _), fun j hj => SlA.mono (O5.2 j hj) (List.subset_append_left _ _)⟩
abbrev zHt := ((((Unit × List Opn) × List Lt) × List Psn) × List Ln)
def vwsS : zHt → List Nat → Prop := sqP (sqP (sqP (sqP zBq (zy zIX)) (zy zIY)) (zy zIZ)) (zy zIa)
def zJ0 (x : Vws) : zHt := ((((((), x.opn), x.lots), x.poss), x.lins))
def zOJ (z : zHt) : Vws := ⟨z.1.1.1.2, z.1.1.2, z.1.2, z.2⟩
def zEI (x : Vws) (l : List Nat) : Prop := vwsS (zJ0 x) l
def VwsR (br pr : Nat) (s : ByteArray) (G : zI) (p : Rs) : zI → Value → Prop := fun N v => ∃ (x : Vws) (pt : VPt) (p' : Rs) (M : zI), v = .agg (x.cells pt).toArray ∧ N = rd pr s p' :: sr br pr s p'.bad :: (M ++ G) ∧ VwM M x pt ∧ Step (zN s) zEI p p' x ∧ Fz M
set_option maxHeartbeats 4000000 in
theorem zOK {w0 w : World} {G : zI} {br pr : Nat} {s : ByteArray} {p : Rs} (hp : p.pos ≤ s.size) (hs : s.size ≤ 16777216) (H : St w0 (rd pr s p :: sr br pr s p.bad :: G) w) :
  Calls Tryz.prog 62 [ptr br].toArray w (zf (VwsR br pr s G p) w0) := by
 have hlen := zP s
 have hA := zg (B := zN s) (p := p) (by omega)
 refine enter [.cell 2 35] Tryz.func62 rfl Tryz.ntmps62 rfl rfl ?_
 repeat' (first | refine y1 sg ?_ | refine y3 ?_ | refine y7 sg H ?_ | (refine y9 H ?_; intro b w H) | (refine y10 sg H ?_; intro b w H) | (refine y11 sg H ?_; intro w H) | (refine' y33 ent137 ?_ ?_; rotate_left 2; exact zL3 zIX (fun x l h => zLK h) ent138 (zPi hs (List.Mem.tail _ (List.Mem.tail _ (List.Mem.head _)))) (Nat.le_trans hA.inv (Nat.le_of_eq hlen)) hs (H.perm zCF); rintro v N w ⟨x1, p', a1, c1, M1, rfl, rfl, O1, hx1, hS⟩ H; replace H := H.perm (zEn M1 _); replace hA := hA.seq hS; clear hS) | (refine' y33 ent139 ?_ ?_; rotate_left 2; exact zL4 zIY (fun x l h => zLL h) ent140 (zPj hs (List.Mem.tail _ (List.Mem.tail _ (List.Mem.head _)))) (Nat.le_trans hA.inv (Nat.le_of_eq hlen)) hs (H.perm zCF); rintro v N w ⟨x2, p', a2, c2, M2, rfl, rfl, O2, hx2, hS⟩ H; replace H := H.perm (zEn M2 _); replace hA := hA.seq hS; clear hS) | (refine' y33 ent141 ?_ ?_; rotate_left 2; exact zL5 zIZ (fun x l h => zLM h) ent142 (zPk hs (List.Mem.tail _ (List.Mem.tail _ (List.Mem.head _)))) (Nat.le_trans hA.inv (Nat.le_of_eq hlen)) hs (H.perm zCF); rintro v N w ⟨x3, p', a3, c3, M3, rfl, rfl, O3, hx3, hS⟩ H; replace H := H.perm (zEn M3 _); replace hA := hA.seq hS; clear hS) | (refine' y33 ent143 ?_ ?_; rotate_left 2; exact zL6 zIa (fun x l h => zLN h) ent144 (zPl hs (List.Mem.tail _ (List.Mem.tail _ (List.Mem.head _)))) (Nat.le_trans hA.inv (Nat.le_of_eq hlen)) hs (H.perm zCF); rintro v N w ⟨x4, p', a4, c4, M4, rfl, rfl, O4, hx4, hS⟩ H; replace H := H.perm (zEn M4 _); replace hA := hA.seq hS; clear hS) | (with_reducible first | apply zB | apply zD | apply zC | apply zF) | refine zA ?_ | fail)
 all_goals
  refine zU (vs := [_]) ⟨zAF sg rfl H.mem (List.Mem.tail _ (List.Mem.head _)) rfl rfl, trivial⟩ (((H.sub (List.sublist_cons_self _ _)).sub (List.sublist_cons_self _ _)).sub (List.sublist_cons_self _ _)) ⟨_, ⟨a1, c1, a2, c2, a3, c3, a4, c4⟩, _, M4 ++ (M3 ++ (M2 ++ M1)), ?_, by simp only [List.append_assoc], ?_, hA.map zOJ zJ0 (fun l h => h) (fun z l h => ⟨rfl, h⟩), (Own.fz O4).app ((Own.fz O3).app ((Own.fz O2).app (Own.fz O1)))⟩
  ·rfl
  ·exact ⟨O1.sl (by intro p hp; simp [hp]) (fun _ _ => rfl) (by omega), O2.sl (by intro p hp; simp [hp]) (fun _ _ => rfl) (by omega), O3.sl (by intro p hp; simp [hp]) (fun _ _ => rfl) (by omega), O4.sl (by intro p hp; simp [hp]) (fun _ _ => rfl) (by omega)⟩
end Go.Proofs.YtggolnppckpdlaaGreat
