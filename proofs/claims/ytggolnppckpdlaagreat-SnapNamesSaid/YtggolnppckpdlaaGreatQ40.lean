/- Texts of ours, joined: the steps of the proof, or the claim's theorem. -/
import Derived.Test.YtggolnppckpdlaaGreatQ39
set_option linter.unusedSimpArgs false
set_option linter.unusedVariables false
namespace Go.Proofs.YtggolnppckpdlaaGreat
open Go Go.Sk Go.RowKit
attribute [local irreducible] Go.Calls
theorem permG0 {a b c r q : Nat × Obj} {G : Frag} : (a :: b :: c :: r :: q :: G).Perm (r :: q :: a :: b :: c :: G) := by
  have := List.perm_append_comm_assoc [a, b, c] [r, q] G
  simpa using this
theorem permG {a b c r q : Nat × Obj} (M G : Frag) : (r :: q :: (M ++ (a :: b :: c :: G))).Perm (a :: b :: c :: r :: q :: (M ++ G)) := by
  have h1 := List.perm_append_comm_assoc M [a, b, c] G
  have h2 : (r :: q :: (M ++ (a :: b :: c :: G))).Perm (r :: q :: ([a, b, c] ++ (M ++ G))) := (h1.cons q).cons r
  exact h2.trans permG0.symm
theorem app_ne {a b : List Nat} (h : b ≠ []) : a ++ b ≠ [] := fun k => h (List.append_eq_nil_iff.1 k).2
theorem accP_ne {x : Ac} {l : List Nat} (h : accP x l) : l ≠ [] := by
  have h2 : ∃ m, l = m ++ flagB x.opn := ⟨_, h.2⟩
  obtain ⟨m, rfl⟩ := h2
  exact app_ne (by simp [flagB])
theorem insP_ne {x : Ins} {l : List Nat} (h : insP x l) : l ≠ [] := by
  have h2 : ∃ m, l = m ++ flagB x.halted := ⟨_, h.2.2⟩
  obtain ⟨m, rfl⟩ := h2
  exact app_ne (by simp [flagB])
theorem rowP_ne {x : Row4} {l : List Nat} (h : rowP x l) : l ≠ [] := by
  rw [h.2.2.2.2.2]
  exact fun k => short_ne _ (List.append_eq_nil_iff.1 k).1
theorem ordP_ne {x : Odr} {l : List Nat} (h : ordP x l) : l ≠ [] := by
  rw [h.2.2.2.2.2.2]
  exact app_ne (short_ne _)
theorem opnP_ne {x : Opn} {l : List Nat} (h : opnP x l) : l ≠ [] := by
  rw [h.2.2.2.2.2.2]
  exact app_ne (short_ne _)
theorem lotP_ne {x : Lt} {l : List Nat} (h : lotP x l) : l ≠ [] := by
  rw [h.2.2.2.2]
  exact app_ne (short_ne _)
theorem posP_ne {x : Psn} {l : List Nat} (h : posP x l) : l ≠ [] := by
  rw [h.2.2.2.2.2.2]
  exact app_ne (short_ne _)
theorem linP_ne {x : Ln} {l : List Nat} (h : linP x l) : l ≠ [] := by
  rw [h.2.2.2.2.2.2]
  exact app_ne (short_ne _)
abbrev StaTup := (((((((((Unit × Int) × Int) × Int) × Int) × List Ac) × List Ins) × List Row4) × List Odr) × List Auc)
def staS : StaTup → List Nat → Prop := sqP (sqP (sqP (sqP (sqP (sqP (sqP (sqP (sqP nilP (numP 4611686018427387904)) (numP 4611686018427387904)) (numP 4611686018427387904)) (numP 4611686018427387904)) (listP accP)) (listP insP)) (listP rowP)) (listP ordP)) (listP aucP)
def staT (x : Sta) : StaTup := ((((((((((), x.clock), x.fee), x.nextO), x.nextA), x.accts), x.insts), x.rows), x.orders), x.aucs)
def staOf (z : StaTup) : Sta := ⟨z.1.1.1.1.1.1.1.1.2, z.1.1.1.1.1.1.1.2, z.1.1.1.1.1.1.2, z.1.1.1.1.1.2, z.1.1.1.1.2, z.1.1.1.2, z.1.1.2, z.1.2, z.2⟩
def staP (x : Sta) (l : List Nat) : Prop := staS (staT x) l
def GetR (br pr : Nat) (s : ByteArray) (G : Frag) (p : Rs) : Frag → Value → Prop := fun N v => ∃ (x : Sta) (pt : SPt) (p' : Rs) (M : Frag), v = .agg (x.cells pt).toArray ∧ N = rd pr s p' :: sr br pr s p'.bad :: (M ++ G) ∧ StaM M x pt ∧ Step (strL s) staP p p' x
set_option maxHeartbeats 4000000 in
theorem c_get {w0 w : World} {G : Frag} {br pr : Nat} {s : ByteArray} {p : Rs} (hp : p.pos ≤ s.size) (hs : s.size ≤ 16777216) (H : St w0 (rd pr s p :: sr br pr s p.bad :: G) w) :
    Calls Tryz.prog 61 [ptr br].toArray w (RetF (GetR br pr s G p) w0) := by
  have hlen := strL_len s
  have hs' : s.size ≤ 1073741824 := by omega
  have hA := Step.start (B := strL s) (p := p) (by omega)
  refine enter [.cell 2 29] Tryz.func61 rfl Tryz.ntmps61 rfl rfl ?_
  repeat' (first | refine y1 sg ?_ | refine y3 ?_ | refine y7 sg H ?_ | (refine y9 H ?_; intro b w H) | (refine y10 sg H ?_; intro b w H) | (refine y11 sg H ?_; intro w H) | (refine CW.regionA mixed 8 ?_ ?_; exact rfl; intro w hcl; replace H := H.ext hcl; clear hcl) | ((with_reducible apply RA.nil); decide +kernel) | ((with_reducible apply RA.take 4); decide +kernel; exact rfl; exact rfl; exact rfl; exact rfl; (first | exact (fun w => pvn_ok sg rfl w)); exact rfl) | ((with_reducible apply RA.take 6); decide +kernel; exact rfl; exact rfl; exact rfl; exact rfl; (first | exact (fun w => pvn_ok sg rfl w)); exact rfl) | ((with_reducible apply RA.c1 0); exact rfl; decide +kernel; exact rfl) | ((with_reducible apply RA.c1 1); exact rfl; decide +kernel; exact rfl) | ((with_reducible apply RA.c1 2); exact rfl; decide +kernel; exact rfl) | ((with_reducible apply RA.c1 3); exact rfl; decide +kernel; exact rfl) | ((with_reducible apply RA.c1 5); exact rfl; decide +kernel; exact rfl) | ((with_reducible apply RA.c1 7); exact rfl; decide +kernel; exact rfl) | ((with_reducible apply RA.c2 0 2); exact rfl; decide +kernel; exact rfl; exact rfl) | ((with_reducible apply RA.c2 1 2); exact rfl; decide +kernel; exact rfl; exact rfl) | (refine' y33 ent120 ?_ ?_; rotate_left 2; exact c_long (Nat.le_trans hA.inv (Nat.le_of_eq hlen)) hs' (H.perm permG0); rintro v N w ⟨x, p', rfl, rfl, -, hS⟩ H; replace H := H.perm permG0.symm; replace hA := hA.seq hS; clear hS) | (refine' y33 ent121 ?_ ?_; rotate_left 2; exact c_listAcc accP (fun x l h => accP_ne h) ent122 (get_Acc hs (List.Mem.tail _ (List.Mem.tail _ (List.Mem.head _)))) (Nat.le_trans hA.inv (Nat.le_of_eq hlen)) hs (H.perm permG0); rintro v N w ⟨x1, p', a1, c1, M1, rfl, rfl, O1, hx1, hS⟩ H; replace H := H.perm (permG M1 _); replace hA := hA.seq hS; clear hS) | (refine' y33 ent125 ?_ ?_; rotate_left 2; exact c_listIns insP (fun x l h => insP_ne h) ent126 (get_Ins hs (List.Mem.tail _ (List.Mem.tail _ (List.Mem.head _)))) (Nat.le_trans hA.inv (Nat.le_of_eq hlen)) hs (H.perm permG0); rintro v N w ⟨x2, p', a2, c2, M2, rfl, rfl, O2, hx2, hS⟩ H; replace H := H.perm (permG M2 _); replace hA := hA.seq hS; clear hS) | (refine' y33 ent127 ?_ ?_; rotate_left 2; exact c_listRow rowP (fun x l h => rowP_ne h) ent128 (get_Row hs (List.Mem.tail _ (List.Mem.tail _ (List.Mem.head _)))) (Nat.le_trans hA.inv (Nat.le_of_eq hlen)) hs (H.perm permG0); rintro v N w ⟨x3, p', a3, c3, M3, rfl, rfl, O3, hx3, hS⟩ H; replace H := H.perm (permG M3 _); replace hA := hA.seq hS; clear hS) | (refine' y33 ent130 ?_ ?_; rotate_left 2; exact c_listOrd ordP (fun x l h => ordP_ne h) ent131 (get_Ord hs (List.Mem.tail _ (List.Mem.tail _ (List.Mem.head _)))) (Nat.le_trans hA.inv (Nat.le_of_eq hlen)) hs (H.perm permG0); rintro v N w ⟨x4, p', a4, c4, M4, rfl, rfl, O4, hx4, hS⟩ H; replace H := H.perm (permG M4 _); replace hA := hA.seq hS; clear hS) | (refine' y33 ent133 ?_ ?_; rotate_left 2; exact c_listAuc ent134 (get_Auc hs (List.Mem.tail _ (List.Mem.tail _ (List.Mem.head _)))) (Nat.le_trans hA.inv (Nat.le_of_eq hlen)) hs (H.perm permG0); rintro v N w ⟨x5, p', a5, c5, ad5, M5, rfl, rfl, O5, hS⟩ H; replace H := H.perm (permG M5 _); replace hA := hA.seq hS; clear hS) | with_reducible apply OW.nil | with_reducible apply thn_n | with_reducible apply CW.seq | refine CW.region ?_ | with_reducible apply CW.ret | fail)
  all_goals
    refine retVF (vs := [_]) ⟨rdvC sg rfl H.mem (List.Mem.tail _ (List.Mem.head _)) rfl rfl, trivial⟩ (((H.sub (List.sublist_cons_self _ _)).sub (List.sublist_cons_self _ _)).sub (List.sublist_cons_self _ _)) ⟨_, ⟨a1, c1, a2, c2, a3, c3, a4, c4, a5, c5, ad5⟩, _, M5 ++ (M4 ++ (M3 ++ (M2 ++ M1))), ?_, by simp only [List.append_assoc], ?_, hA.map staOf staT (fun l h => h) (fun z l h => ⟨rfl, h⟩)⟩
    · rfl
    · exact ⟨O1.sl (by intro p hp; simp [hp]) (fun _ _ => rfl) (by omega), O2.sl (by intro p hp; simp [hp]) (fun _ _ => rfl) (by omega), O3.sl (by intro p hp; simp [hp]) (fun _ _ => rfl) (by omega), O4.sl (by intro p hp; simp [hp]) (fun _ _ => rfl) (by omega), SlA.mono O5.1 (List.subset_append_left _ _), fun j hj => SlA.mono (O5.2 j hj) (List.subset_append_left _ _)⟩
abbrev VwsTup := ((((Unit × List Opn) × List Lt) × List Psn) × List Ln)
def vwsS : VwsTup → List Nat → Prop := sqP (sqP (sqP (sqP nilP (listP opnP)) (listP lotP)) (listP posP)) (listP linP)
def vwsT (x : Vws) : VwsTup := ((((((), x.opn), x.lots), x.poss), x.lins))
def vwsOf (z : VwsTup) : Vws := ⟨z.1.1.1.2, z.1.1.2, z.1.2, z.2⟩
def vwsP (x : Vws) (l : List Nat) : Prop := vwsS (vwsT x) l
def VwsR (br pr : Nat) (s : ByteArray) (G : Frag) (p : Rs) : Frag → Value → Prop := fun N v => ∃ (x : Vws) (pt : VPt) (p' : Rs) (M : Frag), v = .agg (x.cells pt).toArray ∧ N = rd pr s p' :: sr br pr s p'.bad :: (M ++ G) ∧ VwM M x pt ∧ Step (strL s) vwsP p p' x
set_option maxHeartbeats 4000000 in
theorem c_rviews {w0 w : World} {G : Frag} {br pr : Nat} {s : ByteArray} {p : Rs} (hp : p.pos ≤ s.size) (hs : s.size ≤ 16777216) (H : St w0 (rd pr s p :: sr br pr s p.bad :: G) w) :
    Calls Tryz.prog 62 [ptr br].toArray w (RetF (VwsR br pr s G p) w0) := by
  have hlen := strL_len s
  have hA := Step.start (B := strL s) (p := p) (by omega)
  refine enter [.cell 2 35] Tryz.func62 rfl Tryz.ntmps62 rfl rfl ?_
  repeat' (first | refine y1 sg ?_ | refine y3 ?_ | refine y7 sg H ?_ | (refine y9 H ?_; intro b w H) | (refine y10 sg H ?_; intro b w H) | (refine y11 sg H ?_; intro w H) | (refine' y33 ent137 ?_ ?_; rotate_left 2; exact c_listOpn opnP (fun x l h => opnP_ne h) ent138 (get_Opn hs (List.Mem.tail _ (List.Mem.tail _ (List.Mem.head _)))) (Nat.le_trans hA.inv (Nat.le_of_eq hlen)) hs (H.perm permG0); rintro v N w ⟨x1, p', a1, c1, M1, rfl, rfl, O1, hx1, hS⟩ H; replace H := H.perm (permG M1 _); replace hA := hA.seq hS; clear hS) | (refine' y33 ent139 ?_ ?_; rotate_left 2; exact c_listLot lotP (fun x l h => lotP_ne h) ent140 (get_Lot hs (List.Mem.tail _ (List.Mem.tail _ (List.Mem.head _)))) (Nat.le_trans hA.inv (Nat.le_of_eq hlen)) hs (H.perm permG0); rintro v N w ⟨x2, p', a2, c2, M2, rfl, rfl, O2, hx2, hS⟩ H; replace H := H.perm (permG M2 _); replace hA := hA.seq hS; clear hS) | (refine' y33 ent141 ?_ ?_; rotate_left 2; exact c_listPos posP (fun x l h => posP_ne h) ent142 (get_Pos hs (List.Mem.tail _ (List.Mem.tail _ (List.Mem.head _)))) (Nat.le_trans hA.inv (Nat.le_of_eq hlen)) hs (H.perm permG0); rintro v N w ⟨x3, p', a3, c3, M3, rfl, rfl, O3, hx3, hS⟩ H; replace H := H.perm (permG M3 _); replace hA := hA.seq hS; clear hS) | (refine' y33 ent143 ?_ ?_; rotate_left 2; exact c_listLin linP (fun x l h => linP_ne h) ent144 (get_Lin hs (List.Mem.tail _ (List.Mem.tail _ (List.Mem.head _)))) (Nat.le_trans hA.inv (Nat.le_of_eq hlen)) hs (H.perm permG0); rintro v N w ⟨x4, p', a4, c4, M4, rfl, rfl, O4, hx4, hS⟩ H; replace H := H.perm (permG M4 _); replace hA := hA.seq hS; clear hS) | with_reducible apply OW.nil | with_reducible apply thn_n | with_reducible apply CW.seq | refine CW.region ?_ | with_reducible apply CW.ret | fail)
  all_goals
    refine retVF (vs := [_]) ⟨rdvC sg rfl H.mem (List.Mem.tail _ (List.Mem.head _)) rfl rfl, trivial⟩ (((H.sub (List.sublist_cons_self _ _)).sub (List.sublist_cons_self _ _)).sub (List.sublist_cons_self _ _)) ⟨_, ⟨a1, c1, a2, c2, a3, c3, a4, c4⟩, _, M4 ++ (M3 ++ (M2 ++ M1)), ?_, by simp only [List.append_assoc], ?_, hA.map vwsOf vwsT (fun l h => h) (fun z l h => ⟨rfl, h⟩)⟩
    · rfl
    · exact ⟨O1.sl (by intro p hp; simp [hp]) (fun _ _ => rfl) (by omega), O2.sl (by intro p hp; simp [hp]) (fun _ _ => rfl) (by omega), O3.sl (by intro p hp; simp [hp]) (fun _ _ => rfl) (by omega), O4.sl (by intro p hp; simp [hp]) (fun _ _ => rfl) (by omega)⟩
end Go.Proofs.YtggolnppckpdlaaGreat
