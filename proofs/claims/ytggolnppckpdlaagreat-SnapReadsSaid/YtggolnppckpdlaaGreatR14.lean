/- Texts of ours, joined: the steps of the proof, or the claim's theorem. -/
import Derived.Test.YtggolnppckpdlaaGreatR13
set_option linter.unusedSimpArgs false
set_option linter.unusedVariables false
namespace Go.Proofs.YtggolnppckpdlaaGreat
open Go Go.Sk Go.RowKit
attribute [local irreducible] Go.Calls
def zBq (_ : Unit) (l : List Nat) : Prop := l = []
theorem zg {B : List Nat} {p : Rs} (h : p.pos ≤ B.length) : Step B zBq p p () := ⟨h, fun hl => ⟨hl, [], rfl, rfl⟩, fun hl y l r hy hr => ⟨hl, rfl, by rw [hr, show l = [] from hy]; rfl⟩⟩
theorem zh {c a b : Nat × Obj} (G : zI) : (c :: a :: b :: G).Perm (a :: b :: c :: G) := (List.Perm.swap a c _).trans ((List.Perm.swap b c _).cons a)
def zGg (x : Row4) (l : List Nat) : Prop := (0 ≤ x.acct ∧ x.acct ≤ 64) ∧ (0 ≤ x.asset ∧ x.asset ≤ 16) ∧ (0 ≤ (zj x).free ∧ (zj x).free ≤ 4611686018427387904) ∧ (0 ≤ x.held ∧ x.held ≤ 4611686018427387904) ∧ (-4611686018427387904 ≤ x.free ∧ x.free ≤ 4611686018427387904) ∧ l = zEd x
theorem zHd {a b c d : Int} (h0 : -4611686018427387904 ≤ c) (h1 : c ≤ 4611686018427387904) : zj (zj ⟨a, b, c, d⟩) = ⟨a, b, c, d⟩ := by
 unfold zj
 by_cases h : a = 0
 ·simp only [h, if_true]
  rw [w64 (x := 0 - c) (by omega) (by omega), w64 (by omega) (by omega)]
  congr 1; omega
 ·simp only [h, if_false]
theorem zIS {a b c d : Int} (h0 : 0 ≤ c) (h1 : c ≤ 4611686018427387904) : -4611686018427387904 ≤ (zj ⟨a, b, c, d⟩).free ∧ (zj ⟨a, b, c, d⟩).free ≤ 4611686018427387904 := by
 unfold zj
 by_cases h : a = 0
 ·simp only [h, if_true]; rw [w64 (by omega) (by omega)]; omega
 ·simp only [h, if_false]; omega
theorem zDj (r : Row4) : (zj r).acct = r.acct ∧ (zj r).asset = r.asset ∧ (zj r).held = r.held := by unfold zj; split <;> exact ⟨rfl, rfl, rfl⟩
def rowS := sqP (sqP (sqP (sqP zBq (ze 64)) (ze 16)) (ze 4611686018427387904)) (ze 4611686018427387904)
theorem row_PQ {a b c d : Int} (l : List Nat) (h : rowS (((((), a), b), c), d) l) : zGg (zj ⟨a, b, c, d⟩) l := by
 obtain ⟨_, _, ⟨_, _, ⟨_, _, ⟨_, _, h0, ⟨a0, b0, rfl⟩, rfl⟩, ⟨a1, b1, rfl⟩, rfl⟩, ⟨a2, b2, rfl⟩, rfl⟩, ⟨a3, b3, rfl⟩, rfl⟩ := h
 cases h0
 simp only at a0 b0 a1 b1 a2 b2 a3 b3 ⊢
 obtain ⟨e1, e2, e3⟩ := zDj ⟨a, b, c, d⟩
 have hi := zIS (a := a) (b := b) (d := d) a2 b2
 have h2 := zHd (a := a) (b := b) (c := c) (d := d) (by omega) b2
 refine ⟨by rw [e1]; exact ⟨a0, b0⟩, by rw [e2]; exact ⟨a1, b1⟩, by rw [h2]; exact ⟨a2, b2⟩, by rw [e3]; exact ⟨a3, b3⟩, hi, ?_⟩
 unfold zEd
 rw [h2]
 simp [zr]
theorem zNq (x : Row4) (l : List Nat) (h : zGg x l) : zj ⟨x.acct, x.asset, (zj x).free, x.held⟩ = x ∧ rowS (((((), x.acct), x.asset), (zj x).free), x.held) l := by
 obtain ⟨⟨a0, b0⟩, ⟨a1, b1⟩, ⟨a2, b2⟩, ⟨a3, b3⟩, ⟨a4, b4⟩, rfl⟩ := h
 obtain ⟨e1, e2, e3⟩ := zDj x
 constructor
 ·have h2 := zHd (a := x.acct) (b := x.asset) (c := x.free) (d := x.held) a4 b4
  have h3 : (⟨x.acct, x.asset, (zj x).free, x.held⟩ : Row4) = zj x := by
   rw [← e1, ← e2, ← e3]
  rw [h3]; exact h2
 ·exact ⟨_, _, ⟨_, _, ⟨_, _, ⟨[], _, rfl, ⟨a0, b0, rfl⟩, rfl⟩, ⟨a1, b1, rfl⟩, rfl⟩, ⟨a2, b2, rfl⟩, rfl⟩, ⟨a3, b3, rfl⟩, by simp [zEd, zr, e1, e2, e3]⟩
theorem zPc {w0 : World} {G : zI} {br pr cr : Nat} {s : ByteArray} (hs : s.size ≤ 16777216) (hm : cb cr [ptr br] 119 ∈ G) : Gt w0 G br pr s 128 [ptr cr] (fun x : Row4 => .agg x.cells.toArray) zGg := by
 intro G' p w hG hp H
 have hlen := zP s
 have hs' : s.size ≤ 1073741824 := by omega
 have hA := zg (B := zN s) (p := p) (by omega)
 refine enter [.cell 1 74] Tryz.func128 rfl Tryz.ntmps128 rfl rfl ?_
 repeat' (first | refine y3 ?_ | refine y7 sg H ?_ | (refine y10 sg H ?_; intro b w H) | (refine y11 sg H ?_; intro w H) | (refine' y30 ent96 ?_ ?_; rotate_left; exact zK2 ⟨_, _, _, _⟩ _; intro w hcl; replace H := H.ext hcl; clear hcl) | refine z13 (zb sg rfl rfl (H.mem.sub (by intro p hp; simp [hp])) (hG hm) rfl rfl) ?_ | (refine zw mixed 8 ?_ ?_; exact rfl; intro w hcl; replace H := H.ext hcl; clear hcl) | ((with_reducible apply zBD); decide +kernel) | (refine' z8 4 ?_ ?_; rotate_left; first | exact z9 sg) | (refine' z8 6 ?_ ?_; rotate_left; first | exact z9 sg) | refine z10 0 ?_ | refine z10 1 ?_ | refine z10 2 ?_ | refine z10 3 ?_ | refine z10 5 ?_ | refine z10 7 ?_ | refine z11 0 2 ?_ ?_ | refine z11 1 2 ?_ ?_ | (refine' y33 zAk ?_ ?_; rotate_left 2; exact zAR 64 (by omega) (Nat.le_trans hA.inv (Nat.le_of_eq hlen)) hs' (H.perm (zh _)); rintro v N w ⟨x, p', rfl, rfl, -, hS⟩ H; replace H := H.perm (zh _).symm; replace hA := hA.seq hS; clear hS) | (refine' y33 zAk ?_ ?_; rotate_left 2; exact zAR 16 (by omega) (Nat.le_trans hA.inv (Nat.le_of_eq hlen)) hs' (H.perm (zh _)); rintro v N w ⟨x, p', rfl, rfl, -, hS⟩ H; replace H := H.perm (zh _).symm; replace hA := hA.seq hS; clear hS) | (refine' y33 zCj ?_ ?_; rotate_left 2; exact zCl (Nat.le_trans hA.inv (Nat.le_of_eq hlen)) hs' (H.perm (zh _)); rintro v N w ⟨x, p', rfl, rfl, -, hS⟩ H; replace H := H.perm (zh _).symm; replace hA := hA.seq hS; clear hS) | (with_reducible first | apply zB | apply zD | apply zC | apply zF) | refine zA ?_ | fail)
 all_goals
  refine zU (vs := [_]) ⟨zAF sg rfl H.mem (List.Mem.head _) rfl rfl, trivial⟩ (H.sub (List.sublist_cons_self _ _)) ⟨_, _, ?_, rfl, trivial, hA.map (fun z => zj ⟨z.1.1.1.2, z.1.1.2, z.1.2, z.2⟩) (fun x => (((((), x.acct), x.asset), (zj x).free), x.held)) ?_ ?_⟩
  ·rfl
  ·exact row_PQ
  ·exact zNq
theorem and1 {n : Int} (h0 : 0 ≤ n) (h1 : n ≤ 4611686018427387904) : IntKind.i64.wrap ((BitVec.ofInt IntKind.i64.bits n &&& BitVec.ofInt IntKind.i64.bits 1).toNat : Int) = n % 2 := by
 obtain ⟨k, rfl⟩ : ∃ k : Nat, n = (k : Int) := ⟨n.toNat, by omega⟩
 rw [show (1 : Int) = ((1 : Nat) : Int) from rfl, BitVec.ofInt_natCast, BitVec.ofInt_natCast, BitVec.toNat_and, BitVec.toNat_ofNat, BitVec.toNat_ofNat, show k % 2 ^ IntKind.i64.bits = k from Nat.mod_eq_of_lt (show k < 2 ^ 64 by omega), show 1 % 2 ^ IntKind.i64.bits = 1 from rfl, Nat.and_one_is_mod, w64 (by omega) (by omega)]
 omega
def zAU (n : Int) : Int := if n % 2 = 0 then n / 2 else -(n / 2) - 1
def zA3 (d : Int) : Int := if d > 0 then 2 * d else if d = 0 then 0 else -2 * d - 1
theorem zFb {n : Int} (h0 : 0 ≤ n) (_ : n ≤ 4611686018427387904) : zA3 (zAU n) = n := by
 unfold zA3 zAU; repeat' split
 all_goals omega
theorem zPd {n : Int} (h0 : 0 ≤ n) (h1 : n ≤ 4611686018427387904) : 0 ≤ zA3 (zAU n) ∧ zA3 (zAU n) ≤ 4611686018427387904 := by rw [zFb h0 h1]; exact ⟨h0, h1⟩
theorem zNr {n : Int} (h0 : 0 ≤ n) (h1 : n ≤ 4611686018427387904) : zAU (zA3 (zAU n)) = zAU n := by rw [zFb h0 h1]
theorem zNs {n : Int} (h0 : 0 ≤ n) (h1 : n ≤ 4611686018427387904) (w : World) : Calls Tryz.prog 145 [.int .i64 n].toArray w (Ret (.int .i64 (zAU n)) w) := by
 have ha := and1 h0 h1
 have hq : Int.tdiv n 2 = n / 2 := Int.tdiv_eq_ediv_of_nonneg h0
 have hq2 : Int.tdiv (-n) 2 = -(n / 2) := by rw [Int.neg_tdiv, hq]
 refine enter [.tmp 2] Tryz.func145 rfl Tryz.ntmps145 rfl rfl ?_
 have H := zH w
 repeat' (first | refine y1 sg ?_ | (with_reducible first | apply zB | apply zD | apply zC | apply zF | apply zG | apply zO) | refine zA ?_ | (refine y23 ?_ ?_; all_goals intro h) | fail)
 ·rw [ha] at h
  exact zQ rfl H.cl (congrArg (Value.int .i64) (by
   show IntKind.i64.wrap (n.tdiv 2) = _
   rw [hq, w64 (by omega) (by omega)]; unfold zAU; rw [if_pos (by simpa using h)]))
 ·rw [ha] at h
  exact zQ rfl H.cl (congrArg (Value.int .i64) (by
   show IntKind.i64.wrap (IntKind.i64.wrap ((IntKind.i64.wrap (0 - n)).tdiv 2) - 1) = _
   rw [w64 (x := 0 - n) (by omega) (by omega), show 0 - n = -n by omega, hq2, w64 (x := -(n / 2)) (by omega) (by omega), w64 (by omega) (by omega)]; unfold zAU; rw [if_neg (by simpa using h)]))
end Go.Proofs.YtggolnppckpdlaaGreat
