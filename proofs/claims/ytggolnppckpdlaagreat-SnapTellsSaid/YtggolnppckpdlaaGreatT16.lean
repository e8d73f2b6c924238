/- Texts of ours, joined: the steps of the proof, or the claim's theorem. -/
import Derived.Test.YtggolnppckpdlaaGreatT15
set_option linter.unusedSimpArgs false
set_option linter.unusedVariables false
namespace Go.Proofs.YtggolnppckpdlaaGreat
open Go Go.Sk Go.RowKit
attribute [local irreducible] Go.Calls
def zJg (x : Ac) (l : List Nat) : Prop := (x.name.size ≤ 24) ∧ l = (short x.name.size ++ zT x.name) ++ zk x.opn
set_option maxHeartbeats 4000000 in
theorem zPO {w0 : World} {G : zI} {br pr cr : Nat} {s : ByteArray} (hs : s.size ≤ 16777216) (hm : cb cr [ptr br] 119 ∈ G) : Gt w0 G br pr s 122 [ptr cr] (fun x : Ac => .agg x.cells.toArray) zJg := by
 intro G' p w hG hp H
 have hlen := zU s
 have hs' : s.size ≤ 1073741824 := by omega
 have hA := zAl (B := zT s) (p := p) (by omega)
 refine enter [.cell 1 70] Tryz.func122 rfl Tryz.ntmps122 rfl rfl ?_
 repeat' (first | refine y1 sg ?_ | refine y3 ?_ | refine y7 sg H ?_ | (refine y10 sg H ?_; intro b w H) | (refine y11 sg H ?_; intro w H) | refine z13 (zJ sg rfl rfl (H.mem.sub (by intro p hp; simp [hp])) (hG hm) rfl rfl) ?_ | (refine' y33 zMu ?_ ?_; rotate_left 2; exact zKs 24 (by omega) (Nat.le_trans hA.inv (Nat.le_of_eq hlen)) hs' (H.perm (zl _)); rintro v N w ⟨x, p', rfl, rfl, -, hb, hS⟩ H; rw [← hb] at H; replace H := H.perm (zl _).symm; replace hA := hA.seq hS; clear hS) | (refine' y33 zJK ?_ ?_; rotate_left 2; exact zNh (Nat.le_trans hA.inv (Nat.le_of_eq hlen)) hs' (H.perm (zl _)); rintro v N w ⟨x, p', rfl, rfl, -, hS⟩ H; replace H := H.perm (zl _).symm; replace hA := hA.seq hS; clear hS) | (with_reducible first | apply zB | apply zD | apply zC | apply zG) | refine zA ?_ | fail)
 all_goals
  refine zh (vs := [_]) ⟨zAb sg rfl H.mem (List.Mem.head _) rfl rfl, trivial⟩ (H.sub (List.sublist_cons_self _ _)) ⟨_, _, ?_, rfl, trivial, hA.map (fun z => (⟨z.1.2, z.2⟩ : Ac)) (fun x => (((), x.name), x.opn)) ?_ ?_⟩
  ·rfl
  ·rintro l ⟨_, _, ⟨_, _, rfl, ⟨a0, rfl⟩, rfl⟩, rfl, rfl⟩
   exact ⟨a0, by simp [List.append_assoc]⟩
  ·rintro x l ⟨a0, rfl⟩
   exact ⟨by cases x; simp_all, ⟨_, _, ⟨_, _, rfl, ⟨a0, rfl⟩, rfl⟩, rfl, by simp [List.append_assoc]⟩⟩
def zJh (x : Ins) (l : List Nat) : Prop := (x.name.size ≤ 24) ∧ (0 ≤ x.tick ∧ x.tick ≤ 4611686018427387904) ∧ l = (short x.name.size ++ zT x.name) ++ short (zAX x.tick) ++ zk x.halted
set_option maxHeartbeats 4000000 in
theorem zPP {w0 : World} {G : zI} {br pr cr : Nat} {s : ByteArray} (hs : s.size ≤ 16777216) (hm : cb cr [ptr br] 119 ∈ G) : Gt w0 G br pr s 126 [ptr cr] (fun x : Ins => .agg x.cells.toArray) zJh := by
 intro G' p w hG hp H
 have hlen := zU s
 have hs' : s.size ≤ 1073741824 := by omega
 have hA := zAl (B := zT s) (p := p) (by omega)
 refine enter [.cell 1 72] Tryz.func126 rfl Tryz.ntmps126 rfl rfl ?_
 repeat' (first | refine y1 sg ?_ | refine y3 ?_ | refine y7 sg H ?_ | (refine y10 sg H ?_; intro b w H) | (refine y11 sg H ?_; intro w H) | refine z13 (zJ sg rfl rfl (H.mem.sub (by intro p hp; simp [hp])) (hG hm) rfl rfl) ?_ | (refine' y33 zMu ?_ ?_; rotate_left 2; exact zKs 24 (by omega) (Nat.le_trans hA.inv (Nat.le_of_eq hlen)) hs' (H.perm (zl _)); rintro v N w ⟨x, p', rfl, rfl, -, hb, hS⟩ H; rw [← hb] at H; replace H := H.perm (zl _).symm; replace hA := hA.seq hS; clear hS) | (refine' y33 zCv ?_ ?_; rotate_left 2; exact zCx (Nat.le_trans hA.inv (Nat.le_of_eq hlen)) hs' (H.perm (zl _)); rintro v N w ⟨x, p', rfl, rfl, ⟨hx0, hx1⟩, hS⟩ H; replace H := H.perm (zl _).symm; replace hA := hA.seq hS; clear hS) | (refine' y33 zJK ?_ ?_; rotate_left 2; exact zNh (Nat.le_trans hA.inv (Nat.le_of_eq hlen)) hs' (H.perm (zl _)); rintro v N w ⟨x, p', rfl, rfl, -, hS⟩ H; replace H := H.perm (zl _).symm; replace hA := hA.seq hS; clear hS) | (with_reducible first | apply zB | apply zD | apply zC | apply zG) | refine zA ?_ | fail)
 all_goals
  refine zh (vs := [_]) ⟨zAb sg rfl H.mem (List.Mem.head _) rfl rfl, trivial⟩ (H.sub (List.sublist_cons_self _ _)) ⟨_, _, ?_, rfl, trivial, hA.map (fun z => (⟨z.1.1.2, z.1.2, z.2⟩ : Ins)) (fun x => ((((), x.name), x.tick), x.halted)) ?_ ?_⟩
  ·rfl
  ·rintro l ⟨_, _, ⟨_, _, ⟨_, _, rfl, ⟨a0, rfl⟩, rfl⟩, ⟨a1, b1, rfl⟩, rfl⟩, rfl, rfl⟩
   exact ⟨a0, ⟨a1, b1⟩, by simp [List.append_assoc]⟩
  ·rintro x l ⟨a0, ⟨a1, b1⟩, rfl⟩
   exact ⟨by cases x; simp_all, ⟨_, _, ⟨_, _, ⟨_, _, rfl, ⟨a0, rfl⟩, rfl⟩, ⟨a1, b1, rfl⟩, rfl⟩, rfl, by simp [List.append_assoc]⟩⟩
def zJi (x : Odr) (l : List Nat) : Prop := (0 ≤ x.id ∧ x.id ≤ 4611686018427387904) ∧ (0 ≤ x.acct ∧ x.acct ≤ 64) ∧ (0 ≤ x.inst ∧ x.inst ≤ 16) ∧ (0 ≤ x.side ∧ x.side < 256) ∧ (0 ≤ x.price ∧ x.price ≤ 4611686018427387904) ∧ (0 ≤ x.left ∧ x.left ≤ 4611686018427387904) ∧ l = short (zAX x.id) ++ short (zAX x.acct) ++ short (zAX x.inst) ++ beK 1 (x.side).toNat ++ short (zAX x.price) ++ short (zAX x.left)
set_option maxHeartbeats 4000000 in
theorem zPQ {w0 : World} {G : zI} {br pr cr : Nat} {s : ByteArray} (hs : s.size ≤ 16777216) (hm : cb cr [ptr br] 119 ∈ G) : Gt w0 G br pr s 131 [ptr cr] (fun x : Odr => .agg x.cells.toArray) zJi := by
 intro G' p w hG hp H
 have hlen := zU s
 have hs' : s.size ≤ 1073741824 := by omega
 have hA := zAl (B := zT s) (p := p) (by omega)
 refine enter [.cell 1 76] Tryz.func131 rfl Tryz.ntmps131 rfl rfl ?_
 repeat' (first | refine y1 sg ?_ | refine y3 ?_ | refine y7 sg H ?_ | (refine y10 sg H ?_; intro b w H) | (refine y11 sg H ?_; intro w H) | refine z13 (zJ sg rfl rfl (H.mem.sub (by intro p hp; simp [hp])) (hG hm) rfl rfl) ?_ | (refine zAE zZ 8 ?_ ?_; exact rfl; intro w hcl; replace H := H.ext hcl; clear hcl) | ((with_reducible apply zBc); decide +kernel) | (refine' z8 4 ?_ ?_; rotate_left; first | exact z9 sg) | (refine' z8 6 ?_ ?_; rotate_left; first | exact z9 sg) | refine z10 0 ?_ | refine z10 1 ?_ | refine z10 2 ?_ | refine z10 3 ?_ | refine z10 5 ?_ | refine z10 7 ?_ | refine z11 0 2 ?_ ?_ | refine z11 1 2 ?_ ?_ | (refine' y33 zCv ?_ ?_; rotate_left 2; exact zCx (Nat.le_trans hA.inv (Nat.le_of_eq hlen)) hs' (H.perm (zl _)); rintro v N w ⟨x, p', rfl, rfl, ⟨hx0, hx1⟩, hS⟩ H; replace H := H.perm (zl _).symm; replace hA := hA.seq hS; clear hS) | (refine' y33 zAo ?_ ?_; rotate_left 2; exact zAT 64 (by omega) (Nat.le_trans hA.inv (Nat.le_of_eq hlen)) hs' (H.perm (zl _)); rintro v N w ⟨x, p', rfl, rfl, -, hS⟩ H; replace H := H.perm (zl _).symm; replace hA := hA.seq hS; clear hS) | (refine' y33 zAo ?_ ?_; rotate_left 2; exact zAT 16 (by omega) (Nat.le_trans hA.inv (Nat.le_of_eq hlen)) hs' (H.perm (zl _)); rintro v N w ⟨x, p', rfl, rfl, -, hS⟩ H; replace H := H.perm (zl _).symm; replace hA := hA.seq hS; clear hS) | (refine' y33 zHi ?_ ?_; rotate_left 2; exact zKp (Nat.le_trans hA.inv (Nat.le_of_eq hlen)) hs' (H.perm (zl _)); rintro v N w ⟨x, p', rfl, rfl, -, hb, hS⟩ H; rw [← hb] at H; replace H := H.perm (zl _).symm; replace hA := hA.seq hS; clear hS) | (with_reducible first | apply zB | apply zD | apply zC | apply zG) | refine zA ?_ | fail)
 all_goals
  refine zh (vs := [_]) ⟨zAb sg rfl H.mem (List.Mem.head _) rfl rfl, trivial⟩ (H.sub (List.sublist_cons_self _ _)) ⟨_, _, ?_, rfl, trivial, hA.map (fun z => (⟨z.1.1.1.1.1.2, z.1.1.1.1.2, z.1.1.1.2, ((z.1.1.2 : Nat) : Int), z.1.2, z.2⟩ : Odr)) (fun x => (((((((), x.id), x.acct), x.inst), x.side.toNat), x.price), x.left)) ?_ ?_⟩
  ·rfl
  ·rintro l ⟨_, _, ⟨_, _, ⟨_, _, ⟨_, _, ⟨_, _, ⟨_, _, rfl, ⟨a0, b0, rfl⟩, rfl⟩, ⟨a1, b1, rfl⟩, rfl⟩, ⟨a2, b2, rfl⟩, rfl⟩, ⟨a3, rfl⟩, rfl⟩, ⟨a4, b4, rfl⟩, rfl⟩, ⟨a5, b5, rfl⟩, rfl⟩
   exact ⟨⟨a0, b0⟩, ⟨a1, b1⟩, ⟨a2, b2⟩, ⟨Int.natCast_nonneg _, Int.ofNat_lt.2 a3⟩, ⟨a4, b4⟩, ⟨a5, b5⟩, by simp [List.append_assoc]⟩
  ·rintro x l ⟨⟨a0, b0⟩, ⟨a1, b1⟩, ⟨a2, b2⟩, ⟨a3, b3⟩, ⟨a4, b4⟩, ⟨a5, b5⟩, rfl⟩
   exact ⟨by have := Int.toNat_of_nonneg a3; cases x; simp_all, ⟨_, _, ⟨_, _, ⟨_, _, ⟨_, _, ⟨_, _, ⟨_, _, rfl, ⟨a0, b0, rfl⟩, rfl⟩, ⟨a1, b1, rfl⟩, rfl⟩, ⟨a2, b2, rfl⟩, rfl⟩, ⟨by show Int.toNat _ < 256; omega, rfl⟩, rfl⟩, ⟨a4, b4, rfl⟩, rfl⟩, ⟨a5, b5, rfl⟩, by simp [List.append_assoc]⟩⟩
def zJj (x : Bid) (l : List Nat) : Prop := (0 ≤ x.acct ∧ x.acct ≤ 64) ∧ (0 ≤ x.amount ∧ x.amount ≤ 4611686018427387904) ∧ l = short (zAX x.acct) ++ short (zAX x.amount)
set_option maxHeartbeats 4000000 in
theorem zPR {w0 : World} {G : zI} {br pr cr : Nat} {s : ByteArray} (hs : s.size ≤ 16777216) (hm : cb cr [ptr br] 119 ∈ G) : Gt w0 G br pr s 136 [ptr cr] (fun x : Bid => .agg x.cells.toArray) zJj := by
 intro G' p w hG hp H
 have hlen := zU s
 have hs' : s.size ≤ 1073741824 := by omega
 have hA := zAl (B := zT s) (p := p) (by omega)
 refine enter [.cell 1 78] Tryz.func136 rfl Tryz.ntmps136 rfl rfl ?_
 repeat' (first | refine y1 sg ?_ | refine y3 ?_ | refine y7 sg H ?_ | (refine y10 sg H ?_; intro b w H) | (refine y11 sg H ?_; intro w H) | refine z13 (zJ sg rfl rfl (H.mem.sub (by intro p hp; simp [hp])) (hG hm) rfl rfl) ?_ | (refine' y33 zAo ?_ ?_; rotate_left 2; exact zAT 64 (by omega) (Nat.le_trans hA.inv (Nat.le_of_eq hlen)) hs' (H.perm (zl _)); rintro v N w ⟨x, p', rfl, rfl, -, hS⟩ H; replace H := H.perm (zl _).symm; replace hA := hA.seq hS; clear hS) | (refine' y33 zCv ?_ ?_; rotate_left 2; exact zCx (Nat.le_trans hA.inv (Nat.le_of_eq hlen)) hs' (H.perm (zl _)); rintro v N w ⟨x, p', rfl, rfl, ⟨hx0, hx1⟩, hS⟩ H; replace H := H.perm (zl _).symm; replace hA := hA.seq hS; clear hS) | (with_reducible first | apply zB | apply zD | apply zC | apply zG) | refine zA ?_ | fail)
 all_goals
  refine zh (vs := [_]) ⟨zAb sg rfl H.mem (List.Mem.head _) rfl rfl, trivial⟩ (H.sub (List.sublist_cons_self _ _)) ⟨_, _, ?_, rfl, trivial, hA.map (fun z => (⟨z.1.2, z.2⟩ : Bid)) (fun x => (((), x.acct), x.amount)) ?_ ?_⟩
  ·rfl
  ·rintro l ⟨_, _, ⟨_, _, rfl, ⟨a0, b0, rfl⟩, rfl⟩, ⟨a1, b1, rfl⟩, rfl⟩
   exact ⟨⟨a0, b0⟩, ⟨a1, b1⟩, by simp [List.append_assoc]⟩
  ·rintro x l ⟨⟨a0, b0⟩, ⟨a1, b1⟩, rfl⟩
   exact ⟨by cases x; simp_all, ⟨_, _, ⟨_, _, rfl, ⟨a0, b0, rfl⟩, rfl⟩, ⟨a1, b1, rfl⟩, by simp [List.append_assoc]⟩⟩
def zJk (x : Opn) (l : List Nat) : Prop := (0 ≤ x.acct ∧ x.acct ≤ 64) ∧ (0 ≤ x.id ∧ x.id ≤ 4611686018427387904) ∧ (0 ≤ x.inst ∧ x.inst ≤ 16) ∧ (0 ≤ x.side ∧ x.side < 256) ∧ (0 ≤ x.price ∧ x.price ≤ 4611686018427387904) ∧ (0 ≤ x.left ∧ x.left ≤ 4611686018427387904) ∧ l = short (zAX x.acct) ++ short (zAX x.id) ++ short (zAX x.inst) ++ beK 1 (x.side).toNat ++ short (zAX x.price) ++ short (zAX x.left)
set_option maxHeartbeats 4000000 in
theorem zPS {w0 : World} {G : zI} {br pr cr : Nat} {s : ByteArray} (hs : s.size ≤ 16777216) (hm : cb cr [ptr br] 119 ∈ G) : Gt w0 G br pr s 138 [ptr cr] (fun x : Opn => .agg x.cells.toArray) zJk := by
 intro G' p w hG hp H
 have hlen := zU s
 have hs' : s.size ≤ 1073741824 := by omega
 have hA := zAl (B := zT s) (p := p) (by omega)
 refine enter [.cell 1 83] Tryz.func138 rfl Tryz.ntmps138 rfl rfl ?_
 repeat' (first | refine y1 sg ?_ | refine y3 ?_ | refine y7 sg H ?_ | (refine y10 sg H ?_; intro b w H) | (refine y11 sg H ?_; intro w H) | refine z13 (zJ sg rfl rfl (H.mem.sub (by intro p hp; simp [hp])) (hG hm) rfl rfl) ?_ | (refine zAE zZ 8 ?_ ?_; exact rfl; intro w hcl; replace H := H.ext hcl; clear hcl) | ((with_reducible apply zBc); decide +kernel) | (refine' z8 4 ?_ ?_; rotate_left; first | exact z9 sg) | (refine' z8 6 ?_ ?_; rotate_left; first | exact z9 sg) | refine z10 0 ?_ | refine z10 1 ?_ | refine z10 2 ?_ | refine z10 3 ?_ | refine z10 5 ?_ | refine z10 7 ?_ | refine z11 0 2 ?_ ?_ | refine z11 1 2 ?_ ?_ | (refine' y33 zAo ?_ ?_; rotate_left 2; exact zAT 64 (by omega) (Nat.le_trans hA.inv (Nat.le_of_eq hlen)) hs' (H.perm (zl _)); rintro v N w ⟨x, p', rfl, rfl, -, hS⟩ H; replace H := H.perm (zl _).symm; replace hA := hA.seq hS; clear hS) | (refine' y33 zCv ?_ ?_; rotate_left 2; exact zCx (Nat.le_trans hA.inv (Nat.le_of_eq hlen)) hs' (H.perm (zl _)); rintro v N w ⟨x, p', rfl, rfl, ⟨hx0, hx1⟩, hS⟩ H; replace H := H.perm (zl _).symm; replace hA := hA.seq hS; clear hS) | (refine' y33 zAo ?_ ?_; rotate_left 2; exact zAT 16 (by omega) (Nat.le_trans hA.inv (Nat.le_of_eq hlen)) hs' (H.perm (zl _)); rintro v N w ⟨x, p', rfl, rfl, -, hS⟩ H; replace H := H.perm (zl _).symm; replace hA := hA.seq hS; clear hS) | (refine' y33 zHi ?_ ?_; rotate_left 2; exact zKp (Nat.le_trans hA.inv (Nat.le_of_eq hlen)) hs' (H.perm (zl _)); rintro v N w ⟨x, p', rfl, rfl, -, hb, hS⟩ H; rw [← hb] at H; replace H := H.perm (zl _).symm; replace hA := hA.seq hS; clear hS) | (with_reducible first | apply zB | apply zD | apply zC | apply zG) | refine zA ?_ | fail)
 all_goals
  refine zh (vs := [_]) ⟨zAb sg rfl H.mem (List.Mem.head _) rfl rfl, trivial⟩ (H.sub (List.sublist_cons_self _ _)) ⟨_, _, ?_, rfl, trivial, hA.map (fun z => (⟨z.1.1.1.1.1.2, z.1.1.1.1.2, z.1.1.1.2, ((z.1.1.2 : Nat) : Int), z.1.2, z.2⟩ : Opn)) (fun x => (((((((), x.acct), x.id), x.inst), x.side.toNat), x.price), x.left)) ?_ ?_⟩
  ·rfl
  ·rintro l ⟨_, _, ⟨_, _, ⟨_, _, ⟨_, _, ⟨_, _, ⟨_, _, rfl, ⟨a0, b0, rfl⟩, rfl⟩, ⟨a1, b1, rfl⟩, rfl⟩, ⟨a2, b2, rfl⟩, rfl⟩, ⟨a3, rfl⟩, rfl⟩, ⟨a4, b4, rfl⟩, rfl⟩, ⟨a5, b5, rfl⟩, rfl⟩
   exact ⟨⟨a0, b0⟩, ⟨a1, b1⟩, ⟨a2, b2⟩, ⟨Int.natCast_nonneg _, Int.ofNat_lt.2 a3⟩, ⟨a4, b4⟩, ⟨a5, b5⟩, by simp [List.append_assoc]⟩
  ·rintro x l ⟨⟨a0, b0⟩, ⟨a1, b1⟩, ⟨a2, b2⟩, ⟨a3, b3⟩, ⟨a4, b4⟩, ⟨a5, b5⟩, rfl⟩
   exact ⟨by have := Int.toNat_of_nonneg a3; cases x; simp_all, ⟨_, _, ⟨_, _, ⟨_, _, ⟨_, _, ⟨_, _, ⟨_, _, rfl, ⟨a0, b0, rfl⟩, rfl⟩, ⟨a1, b1, rfl⟩, rfl⟩, ⟨a2, b2, rfl⟩, rfl⟩, ⟨by show Int.toNat _ < 256; omega, rfl⟩, rfl⟩, ⟨a4, b4, rfl⟩, rfl⟩, ⟨a5, b5, rfl⟩, by simp [List.append_assoc]⟩⟩
def zJl (x : Lt) (l : List Nat) : Prop := (0 ≤ x.id ∧ x.id ≤ 4611686018427387904) ∧ (0 ≤ x.seller ∧ x.seller ≤ 64) ∧ (0 ≤ x.inst ∧ x.inst ≤ 16) ∧ (0 ≤ x.qty ∧ x.qty ≤ 4611686018427387904) ∧ l = short (zAX x.id) ++ short (zAX x.seller) ++ short (zAX x.inst) ++ short (zAX x.qty)
set_option maxHeartbeats 4000000 in
theorem zPT {w0 : World} {G : zI} {br pr cr : Nat} {s : ByteArray} (hs : s.size ≤ 16777216) (hm : cb cr [ptr br] 119 ∈ G) : Gt w0 G br pr s 140 [ptr cr] (fun x : Lt => .agg x.cells.toArray) zJl := by
 intro G' p w hG hp H
 have hlen := zU s
 have hs' : s.size ≤ 1073741824 := by omega
 have hA := zAl (B := zT s) (p := p) (by omega)
 refine enter [.cell 1 85] Tryz.func140 rfl Tryz.ntmps140 rfl rfl ?_
 repeat' (first | refine y1 sg ?_ | refine y3 ?_ | refine y7 sg H ?_ | (refine y10 sg H ?_; intro b w H) | (refine y11 sg H ?_; intro w H) | refine z13 (zJ sg rfl rfl (H.mem.sub (by intro p hp; simp [hp])) (hG hm) rfl rfl) ?_ | (refine zAE zZ 8 ?_ ?_; exact rfl; intro w hcl; replace H := H.ext hcl; clear hcl) | ((with_reducible apply zBc); decide +kernel) | (refine' z8 4 ?_ ?_; rotate_left; first | exact z9 sg) | (refine' z8 6 ?_ ?_; rotate_left; first | exact z9 sg) | refine z10 0 ?_ | refine z10 1 ?_ | refine z10 2 ?_ | refine z10 3 ?_ | refine z10 5 ?_ | refine z10 7 ?_ | refine z11 0 2 ?_ ?_ | refine z11 1 2 ?_ ?_ | (refine' y33 zCv ?_ ?_; rotate_left 2; exact zCx (Nat.le_trans hA.inv (Nat.le_of_eq hlen)) hs' (H.perm (zl _)); rintro v N w ⟨x, p', rfl, rfl, ⟨hx0, hx1⟩, hS⟩ H; replace H := H.perm (zl _).symm; replace hA := hA.seq hS; clear hS) | (refine' y33 zAo ?_ ?_; rotate_left 2; exact zAT 64 (by omega) (Nat.le_trans hA.inv (Nat.le_of_eq hlen)) hs' (H.perm (zl _)); rintro v N w ⟨x, p', rfl, rfl, -, hS⟩ H; replace H := H.perm (zl _).symm; replace hA := hA.seq hS; clear hS) | (refine' y33 zAo ?_ ?_; rotate_left 2; exact zAT 16 (by omega) (Nat.le_trans hA.inv (Nat.le_of_eq hlen)) hs' (H.perm (zl _)); rintro v N w ⟨x, p', rfl, rfl, -, hS⟩ H; replace H := H.perm (zl _).symm; replace hA := hA.seq hS; clear hS) | (with_reducible first | apply zB | apply zD | apply zC | apply zG) | refine zA ?_ | fail)
 all_goals
  refine zh (vs := [_]) ⟨zAb sg rfl H.mem (List.Mem.head _) rfl rfl, trivial⟩ (H.sub (List.sublist_cons_self _ _)) ⟨_, _, ?_, rfl, trivial, hA.map (fun z => (⟨z.1.1.1.2, z.1.1.2, z.1.2, z.2⟩ : Lt)) (fun x => (((((), x.id), x.seller), x.inst), x.qty)) ?_ ?_⟩
  ·rfl
  ·rintro l ⟨_, _, ⟨_, _, ⟨_, _, ⟨_, _, rfl, ⟨a0, b0, rfl⟩, rfl⟩, ⟨a1, b1, rfl⟩, rfl⟩, ⟨a2, b2, rfl⟩, rfl⟩, ⟨a3, b3, rfl⟩, rfl⟩
   exact ⟨⟨a0, b0⟩, ⟨a1, b1⟩, ⟨a2, b2⟩, ⟨a3, b3⟩, by simp [List.append_assoc]⟩
  ·rintro x l ⟨⟨a0, b0⟩, ⟨a1, b1⟩, ⟨a2, b2⟩, ⟨a3, b3⟩, rfl⟩
   exact ⟨by cases x; simp_all, ⟨_, _, ⟨_, _, ⟨_, _, ⟨_, _, rfl, ⟨a0, b0, rfl⟩, rfl⟩, ⟨a1, b1, rfl⟩, rfl⟩, ⟨a2, b2, rfl⟩, rfl⟩, ⟨a3, b3, rfl⟩, by simp [List.append_assoc]⟩⟩
def zJm (x : Psn) (l : List Nat) : Prop := (0 ≤ x.acct ∧ x.acct ≤ 64) ∧ (0 ≤ x.inst ∧ x.inst ≤ 16) ∧ (0 ≤ x.bought ∧ x.bought ≤ 4611686018427387904) ∧ (0 ≤ x.sold ∧ x.sold ≤ 4611686018427387904) ∧ (0 ≤ x.spent ∧ x.spent ≤ 4611686018427387904) ∧ (0 ≤ x.got ∧ x.got ≤ 4611686018427387904) ∧ l = short (zAX x.acct) ++ short (zAX x.inst) ++ short (zAX x.bought) ++ short (zAX x.sold) ++ short (zAX x.spent) ++ short (zAX x.got)
set_option maxHeartbeats 4000000 in
theorem zPU {w0 : World} {G : zI} {br pr cr : Nat} {s : ByteArray} (hs : s.size ≤ 16777216) (hm : cb cr [ptr br] 119 ∈ G) : Gt w0 G br pr s 142 [ptr cr] (fun x : Psn => .agg x.cells.toArray) zJm := by
 intro G' p w hG hp H
 have hlen := zU s
 have hs' : s.size ≤ 1073741824 := by omega
 have hA := zAl (B := zT s) (p := p) (by omega)
 refine enter [.cell 1 87] Tryz.func142 rfl Tryz.ntmps142 rfl rfl ?_
 repeat' (first | refine y3 ?_ | refine y7 sg H ?_ | (refine y10 sg H ?_; intro b w H) | (refine y11 sg H ?_; intro w H) | refine z13 (zJ sg rfl rfl (H.mem.sub (by intro p hp; simp [hp])) (hG hm) rfl rfl) ?_ | (refine zAE zZ 8 ?_ ?_; exact rfl; intro w hcl; replace H := H.ext hcl; clear hcl) | ((with_reducible apply zBc); decide +kernel) | (refine' z8 4 ?_ ?_; rotate_left; first | exact z9 sg) | (refine' z8 6 ?_ ?_; rotate_left; first | exact z9 sg) | refine z10 0 ?_ | refine z10 1 ?_ | refine z10 2 ?_ | refine z10 3 ?_ | refine z10 5 ?_ | refine z10 7 ?_ | refine z11 0 2 ?_ ?_ | refine z11 1 2 ?_ ?_ | (refine' y33 zAo ?_ ?_; rotate_left 2; exact zAT 64 (by omega) (Nat.le_trans hA.inv (Nat.le_of_eq hlen)) hs' (H.perm (zl _)); rintro v N w ⟨x, p', rfl, rfl, -, hS⟩ H; replace H := H.perm (zl _).symm; replace hA := hA.seq hS; clear hS) | (refine' y33 zAo ?_ ?_; rotate_left 2; exact zAT 16 (by omega) (Nat.le_trans hA.inv (Nat.le_of_eq hlen)) hs' (H.perm (zl _)); rintro v N w ⟨x, p', rfl, rfl, -, hS⟩ H; replace H := H.perm (zl _).symm; replace hA := hA.seq hS; clear hS) | (refine' y33 zCv ?_ ?_; rotate_left 2; exact zCx (Nat.le_trans hA.inv (Nat.le_of_eq hlen)) hs' (H.perm (zl _)); rintro v N w ⟨x, p', rfl, rfl, ⟨hx0, hx1⟩, hS⟩ H; replace H := H.perm (zl _).symm; replace hA := hA.seq hS; clear hS) | (with_reducible first | apply zB | apply zD | apply zC | apply zG) | refine zA ?_ | fail)
 all_goals
  refine zh (vs := [_]) ⟨zAb sg rfl H.mem (List.Mem.head _) rfl rfl, trivial⟩ (H.sub (List.sublist_cons_self _ _)) ⟨_, _, ?_, rfl, trivial, hA.map (fun z => (⟨z.1.1.1.1.1.2, z.1.1.1.1.2, z.1.1.1.2, z.1.1.2, z.1.2, z.2⟩ : Psn)) (fun x => (((((((), x.acct), x.inst), x.bought), x.sold), x.spent), x.got)) ?_ ?_⟩
  ·rfl
  ·rintro l ⟨_, _, ⟨_, _, ⟨_, _, ⟨_, _, ⟨_, _, ⟨_, _, rfl, ⟨a0, b0, rfl⟩, rfl⟩, ⟨a1, b1, rfl⟩, rfl⟩, ⟨a2, b2, rfl⟩, rfl⟩, ⟨a3, b3, rfl⟩, rfl⟩, ⟨a4, b4, rfl⟩, rfl⟩, ⟨a5, b5, rfl⟩, rfl⟩
   exact ⟨⟨a0, b0⟩, ⟨a1, b1⟩, ⟨a2, b2⟩, ⟨a3, b3⟩, ⟨a4, b4⟩, ⟨a5, b5⟩, by simp [List.append_assoc]⟩
  ·rintro x l ⟨⟨a0, b0⟩, ⟨a1, b1⟩, ⟨a2, b2⟩, ⟨a3, b3⟩, ⟨a4, b4⟩, ⟨a5, b5⟩, rfl⟩
   exact ⟨by cases x; simp_all, ⟨_, _, ⟨_, _, ⟨_, _, ⟨_, _, ⟨_, _, ⟨_, _, rfl, ⟨a0, b0, rfl⟩, rfl⟩, ⟨a1, b1, rfl⟩, rfl⟩, ⟨a2, b2, rfl⟩, rfl⟩, ⟨a3, b3, rfl⟩, rfl⟩, ⟨a4, b4, rfl⟩, rfl⟩, ⟨a5, b5, rfl⟩, by simp [List.append_assoc]⟩⟩
def zJn (x : Ln) (l : List Nat) : Prop := (0 ≤ x.acct ∧ x.acct ≤ 64) ∧ (0 ≤ x.seq ∧ x.seq ≤ 4611686018427387904) ∧ (0 ≤ x.kind ∧ x.kind < 256) ∧ (0 ≤ (zB3 x.delta) ∧ (zB3 x.delta) ≤ 4611686018427387904) ∧ (0 ≤ x.bal ∧ x.bal ≤ 4611686018427387904) ∧ zBC (zB3 x.delta) = x.delta ∧ l = short (zAX x.acct) ++ short (zAX x.seq) ++ beK 1 (x.kind).toNat ++ short (zAX (zB3 x.delta)) ++ short (zAX x.bal)
set_option maxHeartbeats 4000000 in
theorem zPV {w0 : World} {G : zI} {br pr cr : Nat} {s : ByteArray} (hs : s.size ≤ 16777216) (hm : cb cr [ptr br] 119 ∈ G) : Gt w0 G br pr s 144 [ptr cr] (fun x : Ln => .agg x.cells.toArray) zJn := by
 intro G' p w hG hp H
 have hlen := zU s
 have hs' : s.size ≤ 1073741824 := by omega
 have hA := zAl (B := zT s) (p := p) (by omega)
 refine enter [.cell 1 52] Tryz.func144 rfl Tryz.ntmps144 rfl rfl ?_
 repeat' (first | refine y1 sg ?_ | refine y3 ?_ | refine y7 sg H ?_ | (refine y10 sg H ?_; intro b w H) | (refine y11 sg H ?_; intro w H) | refine z13 (zJ sg rfl rfl (H.mem.sub (by intro p hp; simp [hp])) (hG hm) rfl rfl) ?_ | (refine' y33 zAo ?_ ?_; rotate_left 2; exact zAT 64 (by omega) (Nat.le_trans hA.inv (Nat.le_of_eq hlen)) hs' (H.perm (zl _)); rintro v N w ⟨x, p', rfl, rfl, -, hS⟩ H; replace H := H.perm (zl _).symm; replace hA := hA.seq hS; clear hS) | (refine' y33 zCv ?_ ?_; rotate_left 2; exact zCx (Nat.le_trans hA.inv (Nat.le_of_eq hlen)) hs' (H.perm (zl _)); rintro v N w ⟨x, p', rfl, rfl, ⟨hx0, hx1⟩, hS⟩ H; replace H := H.perm (zl _).symm; replace hA := hA.seq hS; clear hS) | (refine' y33 zHi ?_ ?_; rotate_left 2; exact zKp (Nat.le_trans hA.inv (Nat.le_of_eq hlen)) hs' (H.perm (zl _)); rintro v N w ⟨x, p', rfl, rfl, -, hb, hS⟩ H; rw [← hb] at H; replace H := H.perm (zl _).symm; replace hA := hA.seq hS; clear hS) | (refine' y30 ent145 ?_ ?_; rotate_left; exact zNm (by omega) (by omega) _; intro w hcl; replace H := H.ext hcl; clear hcl) | (with_reducible first | apply zB | apply zD | apply zC | apply zG) | refine zA ?_ | fail)
 all_goals
  refine zh (vs := [_]) ⟨zAb sg rfl H.mem (List.Mem.head _) rfl rfl, trivial⟩ (H.sub (List.sublist_cons_self _ _)) ⟨_, _, ?_, rfl, trivial, hA.map (fun z => (⟨z.1.1.1.1.2, z.1.1.1.2, ((z.1.1.2 : Nat) : Int), zBC (z.1.2), z.2⟩ : Ln)) (fun x => ((((((), x.acct), x.seq), x.kind.toNat), (zB3 x.delta)), x.bal)) ?_ ?_⟩
  ·rfl
  ·rintro l ⟨_, _, ⟨_, _, ⟨_, _, ⟨_, _, ⟨_, _, rfl, ⟨a0, b0, rfl⟩, rfl⟩, ⟨a1, b1, rfl⟩, rfl⟩, ⟨a2, rfl⟩, rfl⟩, ⟨a3, b3, rfl⟩, rfl⟩, ⟨a4, b4, rfl⟩, rfl⟩
   exact ⟨⟨a0, b0⟩, ⟨a1, b1⟩, ⟨Int.natCast_nonneg _, Int.ofNat_lt.2 a2⟩, zPN a3 b3, ⟨a4, b4⟩, unf_ok a3 b3, by rw [zHt a3 b3]; simp [List.append_assoc]⟩
  ·rintro x l ⟨⟨a0, b0⟩, ⟨a1, b1⟩, ⟨a2, b2⟩, ⟨a3, b3⟩, ⟨a4, b4⟩, edelta, rfl⟩
   exact ⟨by have := Int.toNat_of_nonneg a2; cases x; simp_all, ⟨_, _, ⟨_, _, ⟨_, _, ⟨_, _, ⟨_, _, rfl, ⟨a0, b0, rfl⟩, rfl⟩, ⟨a1, b1, rfl⟩, rfl⟩, ⟨by show Int.toNat _ < 256; omega, rfl⟩, rfl⟩, ⟨a3, b3, rfl⟩, rfl⟩, ⟨a4, b4, rfl⟩, by simp [List.append_assoc]⟩⟩
end Go.Proofs.YtggolnppckpdlaaGreat
