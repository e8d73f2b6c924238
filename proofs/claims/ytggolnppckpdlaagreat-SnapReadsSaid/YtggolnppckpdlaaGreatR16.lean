/- Texts of ours, joined: the steps of the proof, or the claim's theorem. -/
import Derived.Test.YtggolnppckpdlaaGreatR15
set_option linter.unusedSimpArgs false
set_option linter.unusedVariables false
namespace Go.Proofs.YtggolnppckpdlaaGreat
open Go Go.Sk Go.RowKit
attribute [local irreducible] Go.Calls
theorem zAj (n : Nat) : short n ≠ [] := by
 by_cases h : n < 128
 ·rw [zAP h]; simp
 ·rw [zA0 h]; simp
theorem zK3 {x : Bid} {l : List Nat} (h : zIW x l) : l ≠ [] := by
 have := h.2.2
 subst this
 intro h; exact zAj _ (List.append_eq_nil_iff.1 h).1
theorem permA {c a b : Nat × Obj} (M G : zI) : (a :: b :: (M ++ (c :: G))).Perm (c :: a :: b :: (M ++ G)) := by
 have h1 : (M ++ c :: G).Perm (c :: (M ++ G)) := List.perm_middle
 exact ((h1.cons b).cons a).trans (zh _).symm
def aucS := sqP (sqP (sqP (sqP (sqP (sqP (sqP (sqP (sqP zBq (ze 4611686018427387904)) (ze 64)) (ze 16)) zDW) (ze 4611686018427387904)) (ze 4611686018427387904)) (ze 4611686018427387904)) (ze 4611686018427387904)) (zy zIW)
def zCZ (x : Auc) : (((((((((Unit × Int) × Int) × Int) × Bool) × Int) × Int) × Int) × Int) × List Bid) := (((((((((((), x.id), x.seller), x.inst), x.sealed), x.qty), x.reserve), x.step), x.fin), x.bids))
abbrev AucTup := (((((((((Unit × Int) × Int) × Int) × Bool) × Int) × Int) × Int) × Int) × List Bid)
def zNt (z : AucTup) : Auc := ⟨z.1.1.1.1.1.1.1.1.2, z.1.1.1.1.1.1.1.2, z.1.1.1.1.1.1.2, z.1.1.1.1.1.2, z.1.1.1.1.2, z.1.1.1.2, z.1.1.2, z.1.2, z.2⟩
def zGh (x : Auc) (l : List Nat) : Prop := aucS (zCZ x) l
def AucR (br pr : Nat) (s : ByteArray) (G : zI) (p : Rs) : zI → Value → Prop := fun N v => ∃ (x : Auc) (a : Option Addr) (cap : Nat) (M : zI) (p' : Rs), v = .agg (x.cells a cap).toArray ∧ N = rd pr s p' :: sr br pr s p'.bad :: (M ++ G) ∧ Bids M a cap x.bids ∧ Step (zN s) zGh p p' x ∧ Fz M
def GtA (w0 : World) (G : zI) (br pr : Nat) (s : ByteArray) (g : FuncId) (caps : List Value) : Prop :=
 ∀ (G' : zI) (p : Rs) (w : World), G ⊆ G' → p.pos ≤ s.size → St w0 (rd pr s p :: sr br pr s p.bad :: G') w → Calls Tryz.prog g caps.toArray w (zf (AucR br pr s G' p) w0)
set_option maxHeartbeats 4000000 in
theorem zPm {w0 : World} {G : zI} {br pr cr : Nat} {s : ByteArray} (hs : s.size ≤ 16777216) (hm : cb cr [ptr br] 119 ∈ G) : GtA w0 G br pr s 134 [ptr cr] := by
 intro G' p w hG hp H
 have hlen := zP s
 have hs' : s.size ≤ 1073741824 := by omega
 have hA := zg (B := zN s) (p := p) (by omega)
 refine enter [.cell 1 81] Tryz.func134 rfl Tryz.ntmps134 rfl rfl ?_
 repeat' (first | refine y1 sg ?_ | refine y3 ?_ | refine y7 sg H ?_ | (refine y10 sg H ?_; intro b w H) | (refine y11 sg H ?_; intro w H) | refine z13 (zb sg rfl rfl (H.mem.sub (by intro p hp; simp [hp])) (hG hm) rfl rfl) ?_ | (refine zw mixed 8 ?_ ?_; exact rfl; intro w hcl; replace H := H.ext hcl; clear hcl) | ((with_reducible apply zBD); decide +kernel) | (refine' z8 4 ?_ ?_; rotate_left; first | exact z9 sg) | (refine' z8 6 ?_ ?_; rotate_left; first | exact z9 sg) | refine z10 0 ?_ | refine z10 1 ?_ | refine z10 2 ?_ | refine z10 3 ?_ | refine z10 5 ?_ | refine z10 7 ?_ | refine z11 0 2 ?_ ?_ | refine z11 1 2 ?_ ?_ | (refine' y33 zCj ?_ ?_; rotate_left 2; exact zCl (Nat.le_trans hA.inv (Nat.le_of_eq hlen)) hs' (H.perm (zh _)); rintro v N w ⟨x, p', rfl, rfl, ⟨hx0, hx1⟩, hS⟩ H; replace H := H.perm (zh _).symm; replace hA := hA.seq hS; clear hS) | (refine' y33 zAk ?_ ?_; rotate_left 2; exact zAR 64 (by omega) (Nat.le_trans hA.inv (Nat.le_of_eq hlen)) hs' (H.perm (zh _)); rintro v N w ⟨x, p', rfl, rfl, -, hS⟩ H; replace H := H.perm (zh _).symm; replace hA := hA.seq hS; clear hS) | (refine' y33 zAk ?_ ?_; rotate_left 2; exact zAR 16 (by omega) (Nat.le_trans hA.inv (Nat.le_of_eq hlen)) hs' (H.perm (zh _)); rintro v N w ⟨x, p', rfl, rfl, -, hS⟩ H; replace H := H.perm (zh _).symm; replace hA := hA.seq hS; clear hS) | (refine' y33 zJM ?_ ?_; rotate_left 2; exact zNf (Nat.le_trans hA.inv (Nat.le_of_eq hlen)) hs' (H.perm (zh _)); rintro v N w ⟨x, p', rfl, rfl, -, hS⟩ H; replace H := H.perm (zh _).symm; replace hA := hA.seq hS; clear hS) | (refine' y33 ent135 ?_ ?_; rotate_left 2; exact zL2 zIW (fun x l h => zK3 h) ent136 (zPh hs (List.Mem.tail _ (hG hm))) (Nat.le_trans hA.inv (Nat.le_of_eq hlen)) hs (H.perm (zh _)); rintro v N w ⟨xs, p', a, cap, M, rfl, rfl, hO, hxs, hS⟩ H; replace H := H.perm (permA M _); replace hA := hA.seq hS; clear hS) | (with_reducible first | apply zB | apply zD | apply zC | apply zF) | refine zA ?_ | fail)
 all_goals
  refine zU (vs := [_]) ⟨zAF sg rfl H.mem (List.Mem.head _) rfl rfl, trivial⟩ (H.sub (List.sublist_cons_self _ _)) ⟨_, a, cap, M, _, ?_, rfl, ?_, hA.map zNt zCZ (fun l h => h) (fun z l h => ⟨rfl, h⟩), Own.fz hO⟩
  ·rfl
  ·exact hO.sl (List.Subset.refl _) (fun _ _ => rfl) (by omega)
end Go.Proofs.YtggolnppckpdlaaGreat
