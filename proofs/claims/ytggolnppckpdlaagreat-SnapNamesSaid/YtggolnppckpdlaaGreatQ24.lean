/- Texts of ours, joined: the steps of the proof, or the claim's theorem. -/
import Derived.Test.YtggolnppckpdlaaGreatQ23
set_option linter.unusedSimpArgs false
set_option linter.unusedVariables false
namespace Go.Proofs.YtggolnppckpdlaaGreat
open Go Go.Sk Go.RowKit
attribute [local irreducible] Go.Calls
theorem short_ne (n : Nat) : short n ≠ [] := by
  by_cases h : n < 128
  · rw [short_lt h]; simp
  · rw [short_ge h]; simp
theorem bidP_ne {x : Bid} {l : List Nat} (h : bidP x l) : l ≠ [] := by
  have := h.2.2
  subst this
  intro h; exact short_ne _ (List.append_eq_nil_iff.1 h).1
theorem permA {c a b : Nat × Obj} (M G : Frag) : (a :: b :: (M ++ (c :: G))).Perm (c :: a :: b :: (M ++ G)) := by
  have h1 : (M ++ c :: G).Perm (c :: (M ++ G)) := List.perm_middle
  exact ((h1.cons b).cons a).trans (permC _).symm
def aucS := sqP (sqP (sqP (sqP (sqP (sqP (sqP (sqP (sqP nilP (numP 4611686018427387904)) (numP 64)) (numP 16)) flagP) (numP 4611686018427387904)) (numP 4611686018427387904)) (numP 4611686018427387904)) (numP 4611686018427387904)) (listP bidP)
def aucT (x : Auc) : (((((((((Unit × Int) × Int) × Int) × Bool) × Int) × Int) × Int) × Int) × List Bid) := (((((((((((), x.id), x.seller), x.inst), x.sealed), x.qty), x.reserve), x.step), x.fin), x.bids))
abbrev AucTup := (((((((((Unit × Int) × Int) × Int) × Bool) × Int) × Int) × Int) × Int) × List Bid)
def aucOf (z : AucTup) : Auc := ⟨z.1.1.1.1.1.1.1.1.2, z.1.1.1.1.1.1.1.2, z.1.1.1.1.1.1.2, z.1.1.1.1.1.2, z.1.1.1.1.2, z.1.1.1.2, z.1.1.2, z.1.2, z.2⟩
def aucP (x : Auc) (l : List Nat) : Prop := aucS (aucT x) l
def AucR (br pr : Nat) (s : ByteArray) (G : Frag) (p : Rs) : Frag → Value → Prop := fun N v => ∃ (x : Auc) (a : Option Addr) (cap : Nat) (M : Frag) (p' : Rs), v = .agg (x.cells a cap).toArray ∧ N = rd pr s p' :: sr br pr s p'.bad :: (M ++ G) ∧ Bids M a cap x.bids ∧ Step (strL s) aucP p p' x
def GtA (w0 : World) (G : Frag) (br pr : Nat) (s : ByteArray) (g : FuncId) (caps : List Value) : Prop :=
  ∀ (G' : Frag) (p : Rs) (w : World), G ⊆ G' → p.pos ≤ s.size → St w0 (rd pr s p :: sr br pr s p.bad :: G') w → Calls Tryz.prog g caps.toArray w (RetF (AucR br pr s G' p) w0)
set_option maxHeartbeats 4000000 in
theorem get_Auc {w0 : World} {G : Frag} {br pr cr : Nat} {s : ByteArray} (hs : s.size ≤ 16777216) (hm : cb cr [ptr br] 119 ∈ G) : GtA w0 G br pr s 134 [ptr cr] := by
  intro G' p w hG hp H
  have hlen := strL_len s
  have hs' : s.size ≤ 1073741824 := by omega
  have hA := Step.start (B := strL s) (p := p) (by omega)
  refine enter [.cell 1 81] Tryz.func134 rfl Tryz.ntmps134 rfl rfl ?_
  repeat' (first | refine y1 sg ?_ | refine y3 ?_ | refine y7 sg H ?_ | (refine y10 sg H ?_; intro b w H) | (refine y11 sg H ?_; intro w H) | ((with_reducible apply OX.val); exact rfl; exact rfl; exact Yq.loadS sg rfl rfl (H.mem.sub (by intro p hp; simp [hp])) (hG hm) rfl rfl) | (refine CW.regionA mixed 8 ?_ ?_; exact rfl; intro w hcl; replace H := H.ext hcl; clear hcl) | ((with_reducible apply RA.nil); decide +kernel) | ((with_reducible apply RA.take 4); decide +kernel; exact rfl; exact rfl; exact rfl; exact rfl; (first | exact (fun w => pvn_ok sg rfl w)); exact rfl) | ((with_reducible apply RA.take 6); decide +kernel; exact rfl; exact rfl; exact rfl; exact rfl; (first | exact (fun w => pvn_ok sg rfl w)); exact rfl) | ((with_reducible apply RA.c1 0); exact rfl; decide +kernel; exact rfl) | ((with_reducible apply RA.c1 1); exact rfl; decide +kernel; exact rfl) | ((with_reducible apply RA.c1 2); exact rfl; decide +kernel; exact rfl) | ((with_reducible apply RA.c1 3); exact rfl; decide +kernel; exact rfl) | ((with_reducible apply RA.c1 5); exact rfl; decide +kernel; exact rfl) | ((with_reducible apply RA.c1 7); exact rfl; decide +kernel; exact rfl) | ((with_reducible apply RA.c2 0 2); exact rfl; decide +kernel; exact rfl; exact rfl) | ((with_reducible apply RA.c2 1 2); exact rfl; decide +kernel; exact rfl; exact rfl) | (refine' y33 ent120 ?_ ?_; rotate_left 2; exact c_long (Nat.le_trans hA.inv (Nat.le_of_eq hlen)) hs' (H.perm (permC _)); rintro v N w ⟨x, p', rfl, rfl, ⟨hx0, hx1⟩, hS⟩ H; replace H := H.perm (permC _).symm; replace hA := hA.seq hS; clear hS) | (refine' y33 ent129 ?_ ?_; rotate_left 2; exact c_sUpTo 64 (by omega) (Nat.le_trans hA.inv (Nat.le_of_eq hlen)) hs' (H.perm (permC _)); rintro v N w ⟨x, p', rfl, rfl, -, hS⟩ H; replace H := H.perm (permC _).symm; replace hA := hA.seq hS; clear hS) | (refine' y33 ent129 ?_ ?_; rotate_left 2; exact c_sUpTo 16 (by omega) (Nat.le_trans hA.inv (Nat.le_of_eq hlen)) hs' (H.perm (permC _)); rintro v N w ⟨x, p', rfl, rfl, -, hS⟩ H; replace H := H.perm (permC _).symm; replace hA := hA.seq hS; clear hS) | (refine' y33 ent124 ?_ ?_; rotate_left 2; exact c_yes (Nat.le_trans hA.inv (Nat.le_of_eq hlen)) hs' (H.perm (permC _)); rintro v N w ⟨x, p', rfl, rfl, -, hS⟩ H; replace H := H.perm (permC _).symm; replace hA := hA.seq hS; clear hS) | (refine' y33 ent135 ?_ ?_; rotate_left 2; exact c_listBid bidP (fun x l h => bidP_ne h) ent136 (get_Bid hs (List.Mem.tail _ (hG hm))) (Nat.le_trans hA.inv (Nat.le_of_eq hlen)) hs (H.perm (permC _)); rintro v N w ⟨xs, p', a, cap, M, rfl, rfl, hO, hxs, hS⟩ H; replace H := H.perm (permA M _); replace hA := hA.seq hS; clear hS) | with_reducible apply OW.nil | with_reducible apply thn_n | with_reducible apply CW.seq | refine CW.region ?_ | with_reducible apply CW.ret | fail)
  all_goals
    refine retVF (vs := [_]) ⟨rdvC sg rfl H.mem (List.Mem.head _) rfl rfl, trivial⟩ (H.sub (List.sublist_cons_self _ _)) ⟨_, a, cap, M, _, ?_, rfl, ?_, hA.map aucOf aucT (fun l h => h) (fun z l h => ⟨rfl, h⟩)⟩
    · rfl
    · exact hO.sl (List.Subset.refl _) (fun _ _ => rfl) (by omega)
end Go.Proofs.YtggolnppckpdlaaGreat
