/- Texts of ours, joined: the steps of the proof, or the claim's theorem. -/
import Derived.Test.YtggolnppckpdlaaGreatQ21
set_option linter.unusedSimpArgs false
set_option linter.unusedVariables false
namespace Go.Proofs.YtggolnppckpdlaaGreat
open Go Go.Sk Go.RowKit
attribute [local irreducible] Go.Calls
def nilP (_ : Unit) (l : List Nat) : Prop := l = []
theorem Step.start {B : List Nat} {p : Rs} (h : p.pos ≤ B.length) : Step B nilP p p () := ⟨h, fun hl => ⟨hl, [], rfl, rfl⟩, fun hl y l r hy hr => ⟨hl, rfl, by rw [hr, show l = [] from hy]; rfl⟩⟩
theorem permC {c a b : Nat × Obj} (G : Frag) : (c :: a :: b :: G).Perm (a :: b :: c :: G) := (List.Perm.swap a c _).trans ((List.Perm.swap b c _).cons a)
def rowP (x : Row4) (l : List Nat) : Prop := (0 ≤ x.acct ∧ x.acct ≤ 64) ∧ (0 ≤ x.asset ∧ x.asset ≤ 16) ∧ (0 ≤ (belowR x).free ∧ (belowR x).free ≤ 4611686018427387904) ∧ (0 ≤ x.held ∧ x.held ≤ 4611686018427387904) ∧ (-4611686018427387904 ≤ x.free ∧ x.free ≤ 4611686018427387904) ∧ l = rowB x
theorem below2 {a b c d : Int} (h0 : -4611686018427387904 ≤ c) (h1 : c ≤ 4611686018427387904) : belowR (belowR ⟨a, b, c, d⟩) = ⟨a, b, c, d⟩ := by
  unfold belowR
  by_cases h : a = 0
  · simp only [h, if_true]
    rw [w64 (x := 0 - c) (by omega) (by omega), w64 (by omega) (by omega)]
    congr 1; omega
  · simp only [h, if_false]
theorem below_in {a b c d : Int} (h0 : 0 ≤ c) (h1 : c ≤ 4611686018427387904) : -4611686018427387904 ≤ (belowR ⟨a, b, c, d⟩).free ∧ (belowR ⟨a, b, c, d⟩).free ≤ 4611686018427387904 := by
  unfold belowR
  by_cases h : a = 0
  · simp only [h, if_true]; rw [w64 (by omega) (by omega)]; omega
  · simp only [h, if_false]; omega
theorem below_a (r : Row4) : (belowR r).acct = r.acct ∧ (belowR r).asset = r.asset ∧ (belowR r).held = r.held := by unfold belowR; split <;> exact ⟨rfl, rfl, rfl⟩
def rowS := sqP (sqP (sqP (sqP nilP (numP 64)) (numP 16)) (numP 4611686018427387904)) (numP 4611686018427387904)
theorem row_PQ {a b c d : Int} (l : List Nat) (h : rowS (((((), a), b), c), d) l) : rowP (belowR ⟨a, b, c, d⟩) l := by
  obtain ⟨_, _, ⟨_, _, ⟨_, _, ⟨_, _, h0, ⟨a0, b0, rfl⟩, rfl⟩, ⟨a1, b1, rfl⟩, rfl⟩, ⟨a2, b2, rfl⟩, rfl⟩, ⟨a3, b3, rfl⟩, rfl⟩ := h
  cases h0
  simp only at a0 b0 a1 b1 a2 b2 a3 b3 ⊢
  obtain ⟨e1, e2, e3⟩ := below_a ⟨a, b, c, d⟩
  have hi := below_in (a := a) (b := b) (d := d) a2 b2
  have h2 := below2 (a := a) (b := b) (c := c) (d := d) (by omega) b2
  refine ⟨by rw [e1]; exact ⟨a0, b0⟩, by rw [e2]; exact ⟨a1, b1⟩, by rw [h2]; exact ⟨a2, b2⟩, by rw [e3]; exact ⟨a3, b3⟩, hi, ?_⟩
  unfold rowB
  rw [h2]
  simp [numsB]
theorem row_QP (x : Row4) (l : List Nat) (h : rowP x l) : belowR ⟨x.acct, x.asset, (belowR x).free, x.held⟩ = x ∧ rowS (((((), x.acct), x.asset), (belowR x).free), x.held) l := by
  obtain ⟨⟨a0, b0⟩, ⟨a1, b1⟩, ⟨a2, b2⟩, ⟨a3, b3⟩, ⟨a4, b4⟩, rfl⟩ := h
  obtain ⟨e1, e2, e3⟩ := below_a x
  constructor
  · have h2 := below2 (a := x.acct) (b := x.asset) (c := x.free) (d := x.held) a4 b4
    have h3 : (⟨x.acct, x.asset, (belowR x).free, x.held⟩ : Row4) = belowR x := by
      rw [← e1, ← e2, ← e3]
    rw [h3]; exact h2
  · exact ⟨_, _, ⟨_, _, ⟨_, _, ⟨[], _, rfl, ⟨a0, b0, rfl⟩, rfl⟩, ⟨a1, b1, rfl⟩, rfl⟩, ⟨a2, b2, rfl⟩, rfl⟩, ⟨a3, b3, rfl⟩, by simp [rowB, numsB, e1, e2, e3]⟩
theorem get_Row {w0 : World} {G : Frag} {br pr cr : Nat} {s : ByteArray} (hs : s.size ≤ 16777216) (hm : cb cr [ptr br] 119 ∈ G) : Gt w0 G br pr s 128 [ptr cr] (fun x : Row4 => .agg x.cells.toArray) rowP := by
  intro G' p w hG hp H
  have hlen := strL_len s
  have hs' : s.size ≤ 1073741824 := by omega
  have hA := Step.start (B := strL s) (p := p) (by omega)
  refine enter [.cell 1 74] Tryz.func128 rfl Tryz.ntmps128 rfl rfl ?_
  repeat' (first | refine y3 ?_ | refine y7 sg H ?_ | (refine y10 sg H ?_; intro b w H) | (refine y11 sg H ?_; intro w H) | (refine' y30 ent96 ?_ ?_; rotate_left; exact c_below ⟨_, _, _, _⟩ _; intro w hcl; replace H := H.ext hcl; clear hcl) | ((with_reducible apply OX.val); exact rfl; exact rfl; exact Yq.loadS sg rfl rfl (H.mem.sub (by intro p hp; simp [hp])) (hG hm) rfl rfl) | (refine CW.regionA mixed 8 ?_ ?_; exact rfl; intro w hcl; replace H := H.ext hcl; clear hcl) | ((with_reducible apply RA.nil); decide +kernel) | ((with_reducible apply RA.take 4); decide +kernel; exact rfl; exact rfl; exact rfl; exact rfl; (first | exact (fun w => pvn_ok sg rfl w)); exact rfl) | ((with_reducible apply RA.take 6); decide +kernel; exact rfl; exact rfl; exact rfl; exact rfl; (first | exact (fun w => pvn_ok sg rfl w)); exact rfl) | ((with_reducible apply RA.c1 0); exact rfl; decide +kernel; exact rfl) | ((with_reducible apply RA.c1 1); exact rfl; decide +kernel; exact rfl) | ((with_reducible apply RA.c1 2); exact rfl; decide +kernel; exact rfl) | ((with_reducible apply RA.c1 3); exact rfl; decide +kernel; exact rfl) | ((with_reducible apply RA.c1 5); exact rfl; decide +kernel; exact rfl) | ((with_reducible apply RA.c1 7); exact rfl; decide +kernel; exact rfl) | ((with_reducible apply RA.c2 0 2); exact rfl; decide +kernel; exact rfl; exact rfl) | ((with_reducible apply RA.c2 1 2); exact rfl; decide +kernel; exact rfl; exact rfl) | (refine' y33 ent129 ?_ ?_; rotate_left 2; exact c_sUpTo 64 (by omega) (Nat.le_trans hA.inv (Nat.le_of_eq hlen)) hs' (H.perm (permC _)); rintro v N w ⟨x, p', rfl, rfl, -, hS⟩ H; replace H := H.perm (permC _).symm; replace hA := hA.seq hS; clear hS) | (refine' y33 ent129 ?_ ?_; rotate_left 2; exact c_sUpTo 16 (by omega) (Nat.le_trans hA.inv (Nat.le_of_eq hlen)) hs' (H.perm (permC _)); rintro v N w ⟨x, p', rfl, rfl, -, hS⟩ H; replace H := H.perm (permC _).symm; replace hA := hA.seq hS; clear hS) | (refine' y33 ent120 ?_ ?_; rotate_left 2; exact c_long (Nat.le_trans hA.inv (Nat.le_of_eq hlen)) hs' (H.perm (permC _)); rintro v N w ⟨x, p', rfl, rfl, -, hS⟩ H; replace H := H.perm (permC _).symm; replace hA := hA.seq hS; clear hS) | with_reducible apply OW.nil | with_reducible apply thn_n | with_reducible apply CW.seq | refine CW.region ?_ | with_reducible apply CW.ret | fail)
  all_goals
    refine retVF (vs := [_]) ⟨rdvC sg rfl H.mem (List.Mem.head _) rfl rfl, trivial⟩ (H.sub (List.sublist_cons_self _ _)) ⟨_, _, ?_, rfl, trivial, hA.map (fun z => belowR ⟨z.1.1.1.2, z.1.1.2, z.1.2, z.2⟩) (fun x => (((((), x.acct), x.asset), (belowR x).free), x.held)) ?_ ?_⟩
    · rfl
    · exact row_PQ
    · exact row_QP
theorem and1 {n : Int} (h0 : 0 ≤ n) (h1 : n ≤ 4611686018427387904) : IntKind.i64.wrap ((BitVec.ofInt IntKind.i64.bits n &&& BitVec.ofInt IntKind.i64.bits 1).toNat : Int) = n % 2 := by
  obtain ⟨k, rfl⟩ : ∃ k : Nat, n = (k : Int) := ⟨n.toNat, by omega⟩
  rw [show (1 : Int) = ((1 : Nat) : Int) from rfl, BitVec.ofInt_natCast, BitVec.ofInt_natCast, BitVec.toNat_and, BitVec.toNat_ofNat, BitVec.toNat_ofNat, show k % 2 ^ IntKind.i64.bits = k from Nat.mod_eq_of_lt (show k < 2 ^ 64 by omega), show 1 % 2 ^ IntKind.i64.bits = 1 from rfl, Nat.and_one_is_mod, w64 (by omega) (by omega)]
  omega
def unfoldI (n : Int) : Int := if n % 2 = 0 then n / 2 else -(n / 2) - 1
def foldZ (d : Int) : Int := if d > 0 then 2 * d else if d = 0 then 0 else -2 * d - 1
theorem fold_un {n : Int} (h0 : 0 ≤ n) (_ : n ≤ 4611686018427387904) : foldZ (unfoldI n) = n := by
  unfold foldZ unfoldI; repeat' split
  all_goals omega
theorem fold_ok {n : Int} (h0 : 0 ≤ n) (h1 : n ≤ 4611686018427387904) : 0 ≤ foldZ (unfoldI n) ∧ foldZ (unfoldI n) ≤ 4611686018427387904 := by rw [fold_un h0 h1]; exact ⟨h0, h1⟩
theorem unf_ok {n : Int} (h0 : 0 ≤ n) (h1 : n ≤ 4611686018427387904) : unfoldI (foldZ (unfoldI n)) = unfoldI n := by rw [fold_un h0 h1]
theorem c_unfold {n : Int} (h0 : 0 ≤ n) (h1 : n ≤ 4611686018427387904) (w : World) : Calls Tryz.prog 145 [.int .i64 n].toArray w (Ret (.int .i64 (unfoldI n)) w) := by
  have ha := and1 h0 h1
  have hq : Int.tdiv n 2 = n / 2 := Int.tdiv_eq_ediv_of_nonneg h0
  have hq2 : Int.tdiv (-n) 2 = -(n / 2) := by rw [Int.neg_tdiv, hq]
  refine enter [.tmp 2] Tryz.func145 rfl Tryz.ntmps145 rfl rfl ?_
  have H := St.start w
  repeat' (first | refine y1 sg ?_ | with_reducible apply OW.nil | with_reducible apply thn_n | with_reducible apply CW.seq | refine CW.region ?_ | with_reducible apply CW.ret | with_reducible apply CW.skip | with_reducible apply thn_r | (refine y23 ?_ ?_; all_goals intro h) | fail)
  · rw [ha] at h
    exact ret1 rfl H.cl (congrArg (Value.int .i64) (by
      show IntKind.i64.wrap (n.tdiv 2) = _
      rw [hq, w64 (by omega) (by omega)]; unfold unfoldI; rw [if_pos (by simpa using h)]))
  · rw [ha] at h
    exact ret1 rfl H.cl (congrArg (Value.int .i64) (by
      show IntKind.i64.wrap (IntKind.i64.wrap ((IntKind.i64.wrap (0 - n)).tdiv 2) - 1) = _
      rw [w64 (x := 0 - n) (by omega) (by omega), show 0 - n = -n by omega, hq2, w64 (x := -(n / 2)) (by omega) (by omega), w64 (by omega) (by omega)]; unfold unfoldI; rw [if_neg (by simpa using h)]))
end Go.Proofs.YtggolnppckpdlaaGreat
