/- Texts of ours, joined: the steps of the proof, or the claim's theorem. -/
import Derived.Test.YtggolnppckpdlaaGreatR14
set_option linter.unusedSimpArgs false
set_option linter.unusedVariables false
namespace Go.Proofs.YtggolnppckpdlaaGreat
open Go Go.Sk Go.RowKit
attribute [local irreducible] Go.Calls
def zIT (x : Ac) (l : List Nat) : Prop := (x.name.size ≤ 24) ∧ l = (short x.name.size ++ zN x.name) ++ zAS x.opn
set_option maxHeartbeats 4000000 in
theorem zPe {w0 : World} {G : zI} {br pr cr : Nat} {s : ByteArray} (hs : s.size ≤ 16777216) (hm : cb cr [ptr br] 119 ∈ G) : Gt w0 G br pr s 122 [ptr cr] (fun x : Ac => .agg x.cells.toArray) zIT := by
 intro G' p w hG hp H
 have hlen := zP s
 have hs' : s.size ≤ 1073741824 := by omega
 have hA := zg (B := zN s) (p := p) (by omega)
 refine enter [.cell 1 70] Tryz.func122 rfl Tryz.ntmps122 rfl rfl ?_
 repeat' (first | refine y1 sg ?_ | refine y3 ?_ | refine y7 sg H ?_ | (refine y10 sg H ?_; intro b w H) | (refine y11 sg H ?_; intro w H) | refine z13 (zb sg rfl rfl (H.mem.sub (by intro p hp; simp [hp])) (hG hm) rfl rfl) ?_ | (refine' y33 zMs ?_ ?_; rotate_left 2; exact zKw 24 (by omega) (Nat.le_trans hA.inv (Nat.le_of_eq hlen)) hs' (H.perm (zh _)); rintro v N w ⟨x, p', rfl, rfl, -, hb, hS⟩ H; rw [← hb] at H; replace H := H.perm (zh _).symm; replace hA := hA.seq hS; clear hS) | (refine' y33 zJM ?_ ?_; rotate_left 2; exact zNf (Nat.le_trans hA.inv (Nat.le_of_eq hlen)) hs' (H.perm (zh _)); rintro v N w ⟨x, p', rfl, rfl, -, hS⟩ H; replace H := H.perm (zh _).symm; replace hA := hA.seq hS; clear hS) | (with_reducible first | apply zB | apply zD | apply zC | apply zF) | refine zA ?_ | fail)
 all_goals
  refine zU (vs := [_]) ⟨zAF sg rfl H.mem (List.Mem.head _) rfl rfl, trivial⟩ (H.sub (List.sublist_cons_self _ _)) ⟨_, _, ?_, rfl, trivial, hA.map (fun z => (⟨z.1.2, z.2⟩ : Ac)) (fun x => (((), x.name), x.opn)) ?_ ?_⟩
  ·rfl
  ·rintro l ⟨_, _, ⟨_, _, rfl, ⟨a0, rfl⟩, rfl⟩, rfl, rfl⟩
   exact ⟨a0, by simp [List.append_assoc]⟩
  ·rintro x l ⟨a0, rfl⟩
   exact ⟨by cases x; simp_all, ⟨_, _, ⟨_, _, rfl, ⟨a0, rfl⟩, rfl⟩, rfl, by simp [List.append_assoc]⟩⟩
def zIU (x : Ins) (l : List Nat) : Prop := (x.name.size ≤ 24) ∧ (0 ≤ x.tick ∧ x.tick ≤ 4611686018427387904) ∧ l = (short x.name.size ++ zN x.name) ++ short (zAu x.tick) ++ zAS x.halted
set_option maxHeartbeats 4000000 in
theorem zPf {w0 : World} {G : zI} {br pr cr : Nat} {s : ByteArray} (hs : s.size ≤ 16777216) (hm : cb cr [ptr br] 119 ∈ G) : Gt w0 G br pr s 126 [ptr cr] (fun x : Ins => .agg x.cells.toArray) zIU := by
 intro G' p w hG hp H
 have hlen := zP s
 have hs' : s.size ≤ 1073741824 := by omega
 have hA := zg (B := zN s) (p := p) (by omega)
 refine enter [.cell 1 72] Tryz.func126 rfl Tryz.ntmps126 rfl rfl ?_
 repeat' (first | refine y1 sg ?_ | refine y3 ?_ | refine y7 sg H ?_ | (refine y10 sg H ?_; intro b w H) | (refine y11 sg H ?_; intro w H) | refine z13 (zb sg rfl rfl (H.mem.sub (by intro p hp; simp [hp])) (hG hm) rfl rfl) ?_ | (refine' y33 zMs ?_ ?_; rotate_left 2; exact zKw 24 (by omega) (Nat.le_trans hA.inv (Nat.le_of_eq hlen)) hs' (H.perm (zh _)); rintro v N w ⟨x, p', rfl, rfl, -, hb, hS⟩ H; rw [← hb] at H; replace H := H.perm (zh _).symm; replace hA := hA.seq hS; clear hS) | (refine' y33 zCj ?_ ?_; rotate_left 2; exact zCl (Nat.le_trans hA.inv (Nat.le_of_eq hlen)) hs' (H.perm (zh _)); rintro v N w ⟨x, p', rfl, rfl, ⟨hx0, hx1⟩, hS⟩ H; replace H := H.perm (zh _).symm; replace hA := hA.seq hS; clear hS) | (refine' y33 zJM ?_ ?_; rotate_left 2; exact zNf (Nat.le_trans hA.inv (Nat.le_of_eq hlen)) hs' (H.perm (zh _)); rintro v N w ⟨x, p', rfl, rfl, -, hS⟩ H; replace H := H.perm (zh _).symm; replace hA := hA.seq hS; clear hS) | (with_reducible first | apply zB | apply zD | apply zC | apply zF) | refine zA ?_ | fail)
 all_goals
  refine zU (vs := [_]) ⟨zAF sg rfl H.mem (List.Mem.head _) rfl rfl, trivial⟩ (H.sub (List.sublist_cons_self _ _)) ⟨_, _, ?_, rfl, trivial, hA.map (fun z => (⟨z.1.1.2, z.1.2, z.2⟩ : Ins)) (fun x => ((((), x.name), x.tick), x.halted)) ?_ ?_⟩
  ·rfl
  ·rintro l ⟨_, _, ⟨_, _, ⟨_, _, rfl, ⟨a0, rfl⟩, rfl⟩, ⟨a1, b1, rfl⟩, rfl⟩, rfl, rfl⟩
   exact ⟨a0, ⟨a1, b1⟩, by simp [List.append_assoc]⟩
  ·rintro x l ⟨a0, ⟨a1, b1⟩, rfl⟩
   exact ⟨by cases x; simp_all, ⟨_, _, ⟨_, _, ⟨_, _, rfl, ⟨a0, rfl⟩, rfl⟩, ⟨a1, b1, rfl⟩, rfl⟩, rfl, by simp [List.append_assoc]⟩⟩
def zIV (x : Odr) (l : List Nat) : Prop := (0 ≤ x.id ∧ x.id ≤ 4611686018427387904) ∧ (0 ≤ x.acct ∧ x.acct ≤ 64) ∧ (0 ≤ x.inst ∧ x.inst ≤ 16) ∧ (0 ≤ x.side ∧ x.side < 256) ∧ (0 ≤ x.price ∧ x.price ≤ 4611686018427387904) ∧ (0 ≤ x.left ∧ x.left ≤ 4611686018427387904) ∧ l = short (zAu x.id) ++ short (zAu x.acct) ++ short (zAu x.inst) ++ beK 1 (x.side).toNat ++ short (zAu x.price) ++ short (zAu x.left)
set_option maxHeartbeats 4000000 in
theorem zPg {w0 : World} {G : zI} {br pr cr : Nat} {s : ByteArray} (hs : s.size ≤ 16777216) (hm : cb cr [ptr br] 119 ∈ G) : Gt w0 G br pr s 131 [ptr cr] (fun x : Odr => .agg x.cells.toArray) zIV := by
 intro G' p w hG hp H
 have hlen := zP s
 have hs' : s.size ≤ 1073741824 := by omega
 have hA := zg (B := zN s) (p := p) (by omega)
 refine enter [.cell 1 76] Tryz.func131 rfl Tryz.ntmps131 rfl rfl ?_
 repeat' (first | refine y1 sg ?_ | refine y3 ?_ | refine y7 sg H ?_ | (refine y10 sg H ?_; intro b w H) | (refine y11 sg H ?_; intro w H) | refine z13 (zb sg rfl rfl (H.mem.sub (by intro p hp; simp [hp])) (hG hm) rfl rfl) ?_ | (refine zw mixed 8 ?_ ?_; exact rfl; intro w hcl; replace H := H.ext hcl; clear hcl) | ((with_reducible apply zBD); decide +kernel) | (refine' z8 4 ?_ ?_; rotate_left; first | exact z9 sg) | (refine' z8 6 ?_ ?_; rotate_left; first | exact z9 sg) | refine z10 0 ?_ | refine z10 1 ?_ | refine z10 2 ?_ | refine z10 3 ?_ | refine z10 5 ?_ | refine z10 7 ?_ | refine z11 0 2 ?_ ?_ | refine z11 1 2 ?_ ?_ | (refine' y33 zCj ?_ ?_; rotate_left 2; exact zCl (Nat.le_trans hA.inv (Nat.le_of_eq hlen)) hs' (H.perm (zh _)); rintro v N w ⟨x, p', rfl, rfl, ⟨hx0, hx1⟩, hS⟩ H; replace H := H.perm (zh _).symm; replace hA := hA.seq hS; clear hS) | (refine' y33 zAk ?_ ?_; rotate_left 2; exact zAR 64 (by omega) (Nat.le_trans hA.inv (Nat.le_of_eq hlen)) hs' (H.perm (zh _)); rintro v N w ⟨x, p', rfl, rfl, -, hS⟩ H; replace H := H.perm (zh _).symm; replace hA := hA.seq hS; clear hS) | (refine' y33 zAk ?_ ?_; rotate_left 2; exact zAR 16 (by omega) (Nat.le_trans hA.inv (Nat.le_of_eq hlen)) hs' (H.perm (zh _)); rintro v N w ⟨x, p', rfl, rfl, -, hS⟩ H; replace H := H.perm (zh _).symm; replace hA := hA.seq hS; clear hS) | (refine' y33 zHS ?_ ?_; rotate_left 2; exact zKu (Nat.le_trans hA.inv (Nat.le_of_eq hlen)) hs' (H.perm (zh _)); rintro v N w ⟨x, p', rfl, rfl, -, hb, hS⟩ H; rw [← hb] at H; replace H := H.perm (zh _).symm; replace hA := hA.seq hS; clear hS) | (with_reducible first | apply zB | apply zD | apply zC | apply zF) | refine zA ?_ | fail)
 all_goals
  refine zU (vs := [_]) ⟨zAF sg rfl H.mem (List.Mem.head _) rfl rfl, trivial⟩ (H.sub (List.sublist_cons_self _ _)) ⟨_, _, ?_, rfl, trivial, hA.map (fun z => (⟨z.1.1.1.1.1.2, z.1.1.1.1.2, z.1.1.1.2, ((z.1.1.2 : Nat) : Int), z.1.2, z.2⟩ : Odr)) (fun x => (((((((), x.id), x.acct), x.inst), x.side.toNat), x.price), x.left)) ?_ ?_⟩
  ·rfl
  ·rintro l ⟨_, _, ⟨_, _, ⟨_, _, ⟨_, _, ⟨_, _, ⟨_, _, rfl, ⟨a0, b0, rfl⟩, rfl⟩, ⟨a1, b1, rfl⟩, rfl⟩, ⟨a2, b2, rfl⟩, rfl⟩, ⟨a3, rfl⟩, rfl⟩, ⟨a4, b4, rfl⟩, rfl⟩, ⟨a5, b5, rfl⟩, rfl⟩
   exact ⟨⟨a0, b0⟩, ⟨a1, b1⟩, ⟨a2, b2⟩, ⟨Int.natCast_nonneg _, Int.ofNat_lt.2 a3⟩, ⟨a4, b4⟩, ⟨a5, b5⟩, by simp [List.append_assoc]⟩
  ·rintro x l ⟨⟨a0, b0⟩, ⟨a1, b1⟩, ⟨a2, b2⟩, ⟨a3, b3⟩, ⟨a4, b4⟩, ⟨a5, b5⟩, rfl⟩
   exact ⟨by have := Int.toNat_of_nonneg a3; cases x; simp_all, ⟨_, _, ⟨_, _, ⟨_, _, ⟨_, _, ⟨_, _, ⟨_, _, rfl, ⟨a0, b0, rfl⟩, rfl⟩, ⟨a1, b1, rfl⟩, rfl⟩, ⟨a2, b2, rfl⟩, rfl⟩, ⟨by show Int.toNat _ < 256; omega, rfl⟩, rfl⟩, ⟨a4, b4, rfl⟩, rfl⟩, ⟨a5, b5, rfl⟩, by simp [List.append_assoc]⟩⟩
def zIW (x : Bid) (l : List Nat) : Prop := (0 ≤ x.acct ∧ x.acct ≤ 64) ∧ (0 ≤ x.amount ∧ x.amount ≤ 4611686018427387904) ∧ l = short (zAu x.acct) ++ short (zAu x.amount)
set_option maxHeartbeats 4000000 in
theorem zPh {w0 : World} {G : zI} {br pr cr : Nat} {s : ByteArray} (hs : s.size ≤ 16777216) (hm : cb cr [ptr br] 119 ∈ G) : Gt w0 G br pr s 136 [ptr cr] (fun x : Bid => .agg x.cells.toArray) zIW := by
 intro G' p w hG hp H
 have hlen := zP s
 have hs' : s.size ≤ 1073741824 := by omega
 have hA := zg (B := zN s) (p := p) (by omega)
 refine enter [.cell 1 78] Tryz.func136 rfl Tryz.ntmps136 rfl rfl ?_
 repeat' (first | refine y1 sg ?_ | refine y3 ?_ | refine y7 sg H ?_ | (refine y10 sg H ?_; intro b w H) | (refine y11 sg H ?_; intro w H) | refine z13 (zb sg rfl rfl (H.mem.sub (by intro p hp; simp [hp])) (hG hm) rfl rfl) ?_ | (refine' y33 zAk ?_ ?_; rotate_left 2; exact zAR 64 (by omega) (Nat.le_trans hA.inv (Nat.le_of_eq hlen)) hs' (H.perm (zh _)); rintro v N w ⟨x, p', rfl, rfl, -, hS⟩ H; replace H := H.perm (zh _).symm; replace hA := hA.seq hS; clear hS) | (refine' y33 zCj ?_ ?_; rotate_left 2; exact zCl (Nat.le_trans hA.inv (Nat.le_of_eq hlen)) hs' (H.perm (zh _)); rintro v N w ⟨x, p', rfl, rfl, ⟨hx0, hx1⟩, hS⟩ H; replace H := H.perm (zh _).symm; replace hA := hA.seq hS; clear hS) | (with_reducible first | apply zB | apply zD | apply zC | apply zF) | refine zA ?_ | fail)
 all_goals
  refine zU (vs := [_]) ⟨zAF sg rfl H.mem (List.Mem.head _) rfl rfl, trivial⟩ (H.sub (List.sublist_cons_self _ _)) ⟨_, _, ?_, rfl, trivial, hA.map (fun z => (⟨z.1.2, z.2⟩ : Bid)) (fun x => (((), x.acct), x.amount)) ?_ ?_⟩
  ·rfl
  ·rintro l ⟨_, _, ⟨_, _, rfl, ⟨a0, b0, rfl⟩, rfl⟩, ⟨a1, b1, rfl⟩, rfl⟩
   exact ⟨⟨a0, b0⟩, ⟨a1, b1⟩, by simp [List.append_assoc]⟩
  ·rintro x l ⟨⟨a0, b0⟩, ⟨a1, b1⟩, rfl⟩
   exact ⟨by cases x; simp_all, ⟨_, _, ⟨_, _, rfl, ⟨a0, b0, rfl⟩, rfl⟩, ⟨a1, b1, rfl⟩, by simp [List.append_assoc]⟩⟩
def zIX (x : Opn) (l : List Nat) : Prop := (0 ≤ x.acct ∧ x.acct ≤ 64) ∧ (0 ≤ x.id ∧ x.id ≤ 4611686018427387904) ∧ (0 ≤ x.inst ∧ x.inst ≤ 16) ∧ (0 ≤ x.side ∧ x.side < 256) ∧ (0 ≤ x.price ∧ x.price ≤ 4611686018427387904) ∧ (0 ≤ x.left ∧ x.left ≤ 4611686018427387904) ∧ l = short (zAu x.acct) ++ short (zAu x.id) ++ short (zAu x.inst) ++ beK 1 (x.side).toNat ++ short (zAu x.price) ++ short (zAu x.left)
set_option maxHeartbeats 4000000 in
theorem zPi {w0 : World} {G : zI} {br pr cr : Nat} {s : ByteArray} (hs : s.size ≤ 16777216) (hm : cb cr [ptr br] 119 ∈ G) : Gt w0 G br pr s 138 [ptr cr] (fun x : Opn => .agg x.cells.toArray) zIX := by
 intro G' p w hG hp H
 have hlen := zP s
 have hs' : s.size ≤ 1073741824 := by omega
 have hA := zg (B := zN s) (p := p) (by omega)
 refine enter [.cell 1 83] Tryz.func138 rfl Tryz.ntmps138 rfl rfl ?_
 repeat' (first | refine y1 sg ?_ | refine y3 ?_ | refine y7 sg H ?_ | (refine y10 sg H ?_; intro b w H) | (refine y11 sg H ?_; intro w H) | refine z13 (zb sg rfl rfl (H.mem.sub (by intro p hp; simp [hp])) (hG hm) rfl rfl) ?_ | (refine zw mixed 8 ?_ ?_; exact rfl; intro w hcl; replace H := H.ext hcl; clear hcl) | ((with_reducible apply zBD); decide +kernel) | (refine' z8 4 ?_ ?_; rotate_left; first | exact z9 sg) | (refine' z8 6 ?_ ?_; rotate_left; first | exact z9 sg) | refine z10 0 ?_ | refine z10 1 ?_ | refine z10 2 ?_ | refine z10 3 ?_ | refine z10 5 ?_ | refine z10 7 ?_ | refine z11 0 2 ?_ ?_ | refine z11 1 2 ?_ ?_ | (refine' y33 zAk ?_ ?_; rotate_left 2; exact zAR 64 (by omega) (Nat.le_trans hA.inv (Nat.le_of_eq hlen)) hs' (H.perm (zh _)); rintro v N w ⟨x, p', rfl, rfl, -, hS⟩ H; replace H := H.perm (zh _).symm; replace hA := hA.seq hS; clear hS) | (refine' y33 zCj ?_ ?_; rotate_left 2; exact zCl (Nat.le_trans hA.inv (Nat.le_of_eq hlen)) hs' (H.perm (zh _)); rintro v N w ⟨x, p', rfl, rfl, ⟨hx0, hx1⟩, hS⟩ H; replace H := H.perm (zh _).symm; replace hA := hA.seq hS; clear hS) | (refine' y33 zAk ?_ ?_; rotate_left 2; exact zAR 16 (by omega) (Nat.le_trans hA.inv (Nat.le_of_eq hlen)) hs' (H.perm (zh _)); rintro v N w ⟨x, p', rfl, rfl, -, hS⟩ H; replace H := H.perm (zh _).symm; replace hA := hA.seq hS; clear hS) | (refine' y33 zHS ?_ ?_; rotate_left 2; exact zKu (Nat.le_trans hA.inv (Nat.le_of_eq hlen)) hs' (H.perm (zh _)); rintro v N w ⟨x, p', rfl, rfl, -, hb, hS⟩ H; rw [← hb] at H; replace H := H.perm (zh _).symm; replace hA := hA.seq hS; clear hS) | (with_reducible first | apply zB | apply zD | apply zC | apply zF) | refine zA ?_ | fail)
 all_goals
  refine zU (vs := [_]) ⟨zAF sg rfl H.mem (List.Mem.head _) rfl rfl, trivial⟩ (H.sub (List.sublist_cons_self _ _)) ⟨_, _, ?_, rfl, trivial, hA.map (fun z => (⟨z.1.1.1.1.1.2, z.1.1.1.1.2, z.1.1.1.2, ((z.1.1.2 : Nat) : Int), z.1.2, z.2⟩ : Opn)) (fun x => (((((((), x.acct), x.id), x.inst), x.side.toNat), x.price), x.left)) ?_ ?_⟩
  ·rfl
  ·rintro l ⟨_, _, ⟨_, _, ⟨_, _, ⟨_, _, ⟨_, _, ⟨_, _, rfl, ⟨a0, b0, rfl⟩, rfl⟩, ⟨a1, b1, rfl⟩, rfl⟩, ⟨a2, b2, rfl⟩, rfl⟩, ⟨a3, rfl⟩, rfl⟩, ⟨a4, b4, rfl⟩, rfl⟩, ⟨a5, b5, rfl⟩, rfl⟩
   exact ⟨⟨a0, b0⟩, ⟨a1, b1⟩, ⟨a2, b2⟩, ⟨Int.natCast_nonneg _, Int.ofNat_lt.2 a3⟩, ⟨a4, b4⟩, ⟨a5, b5⟩, by simp [List.append_assoc]⟩
  ·rintro x l ⟨⟨a0, b0⟩, ⟨a1, b1⟩, ⟨a2, b2⟩, ⟨a3, b3⟩, ⟨a4, b4⟩, ⟨a5, b5⟩, rfl⟩
   exact ⟨by have := Int.toNat_of_nonneg a3; cases x; simp_all, ⟨_, _, ⟨_, _, ⟨_, _, ⟨_, _, ⟨_, _, ⟨_, _, rfl, ⟨a0, b0, rfl⟩, rfl⟩, ⟨a1, b1, rfl⟩, rfl⟩, ⟨a2, b2, rfl⟩, rfl⟩, ⟨by show Int.toNat _ < 256; omega, rfl⟩, rfl⟩, ⟨a4, b4, rfl⟩, rfl⟩, ⟨a5, b5, rfl⟩, by simp [List.append_assoc]⟩⟩
def zIY (x : Lt) (l : List Nat) : Prop := (0 ≤ x.id ∧ x.id ≤ 4611686018427387904) ∧ (0 ≤ x.seller ∧ x.seller ≤ 64) ∧ (0 ≤ x.inst ∧ x.inst ≤ 16) ∧ (0 ≤ x.qty ∧ x.qty ≤ 4611686018427387904) ∧ l = short (zAu x.id) ++ short (zAu x.seller) ++ short (zAu x.inst) ++ short (zAu x.qty)
set_option maxHeartbeats 4000000 in
theorem zPj {w0 : World} {G : zI} {br pr cr : Nat} {s : ByteArray} (hs : s.size ≤ 16777216) (hm : cb cr [ptr br] 119 ∈ G) : Gt w0 G br pr s 140 [ptr cr] (fun x : Lt => .agg x.cells.toArray) zIY := by
 intro G' p w hG hp H
 have hlen := zP s
 have hs' : s.size ≤ 1073741824 := by omega
 have hA := zg (B := zN s) (p := p) (by omega)
 refine enter [.cell 1 85] Tryz.func140 rfl Tryz.ntmps140 rfl rfl ?_
 repeat' (first | refine y1 sg ?_ | refine y3 ?_ | refine y7 sg H ?_ | (refine y10 sg H ?_; intro b w H) | (refine y11 sg H ?_; intro w H) | refine z13 (zb sg rfl rfl (H.mem.sub (by intro p hp; simp [hp])) (hG hm) rfl rfl) ?_ | (refine zw mixed 8 ?_ ?_; exact rfl; intro w hcl; replace H := H.ext hcl; clear hcl) | ((with_reducible apply zBD); decide +kernel) | (refine' z8 4 ?_ ?_; rotate_left; first | exact z9 sg) | (refine' z8 6 ?_ ?_; rotate_left; first | exact z9 sg) | refine z10 0 ?_ | refine z10 1 ?_ | refine z10 2 ?_ | refine z10 3 ?_ | refine z10 5 ?_ | refine z10 7 ?_ | refine z11 0 2 ?_ ?_ | refine z11 1 2 ?_ ?_ | (refine' y33 zCj ?_ ?_; rotate_left 2; exact zCl (Nat.le_trans hA.inv (Nat.le_of_eq hlen)) hs' (H.perm (zh _)); rintro v N w ⟨x, p', rfl, rfl, ⟨hx0, hx1⟩, hS⟩ H; replace H := H.perm (zh _).symm; replace hA := hA.seq hS; clear hS) | (refine' y33 zAk ?_ ?_; rotate_left 2; exact zAR 64 (by omega) (Nat.le_trans hA.inv (Nat.le_of_eq hlen)) hs' (H.perm (zh _)); rintro v N w ⟨x, p', rfl, rfl, -, hS⟩ H; replace H := H.perm (zh _).symm; replace hA := hA.seq hS; clear hS) | (refine' y33 zAk ?_ ?_; rotate_left 2; exact zAR 16 (by omega) (Nat.le_trans hA.inv (Nat.le_of_eq hlen)) hs' (H.perm (zh _)); rintro v N w ⟨x, p', rfl, rfl, -, hS⟩ H; replace H := H.perm (zh _).symm; replace hA := hA.seq hS; clear hS) | (with_reducible first | apply zB | apply zD | apply zC | apply zF) | refine zA ?_ | fail)
 all_goals
  refine zU (vs := [_]) ⟨zAF sg rfl H.mem (List.Mem.head _) rfl rfl, trivial⟩ (H.sub (List.sublist_cons_self _ _)) ⟨_, _, ?_, rfl, trivial, hA.map (fun z => (⟨z.1.1.1.2, z.1.1.2, z.1.2, z.2⟩ : Lt)) (fun x => (((((), x.id), x.seller), x.inst), x.qty)) ?_ ?_⟩
  ·rfl
  ·rintro l ⟨_, _, ⟨_, _, ⟨_, _, ⟨_, _, rfl, ⟨a0, b0, rfl⟩, rfl⟩, ⟨a1, b1, rfl⟩, rfl⟩, ⟨a2, b2, rfl⟩, rfl⟩, ⟨a3, b3, rfl⟩, rfl⟩
   exact ⟨⟨a0, b0⟩, ⟨a1, b1⟩, ⟨a2, b2⟩, ⟨a3, b3⟩, by simp [List.append_assoc]⟩
  ·rintro x l ⟨⟨a0, b0⟩, ⟨a1, b1⟩, ⟨a2, b2⟩, ⟨a3, b3⟩, rfl⟩
   exact ⟨by cases x; simp_all, ⟨_, _, ⟨_, _, ⟨_, _, ⟨_, _, rfl, ⟨a0, b0, rfl⟩, rfl⟩, ⟨a1, b1, rfl⟩, rfl⟩, ⟨a2, b2, rfl⟩, rfl⟩, ⟨a3, b3, rfl⟩, by simp [List.append_assoc]⟩⟩
def zIZ (x : Psn) (l : List Nat) : Prop := (0 ≤ x.acct ∧ x.acct ≤ 64) ∧ (0 ≤ x.inst ∧ x.inst ≤ 16) ∧ (0 ≤ x.bought ∧ x.bought ≤ 4611686018427387904) ∧ (0 ≤ x.sold ∧ x.sold ≤ 4611686018427387904) ∧ (0 ≤ x.spent ∧ x.spent ≤ 4611686018427387904) ∧ (0 ≤ x.got ∧ x.got ≤ 4611686018427387904) ∧ l = short (zAu x.acct) ++ short (zAu x.inst) ++ short (zAu x.bought) ++ short (zAu x.sold) ++ short (zAu x.spent) ++ short (zAu x.got)
set_option maxHeartbeats 4000000 in
theorem zPk {w0 : World} {G : zI} {br pr cr : Nat} {s : ByteArray} (hs : s.size ≤ 16777216) (hm : cb cr [ptr br] 119 ∈ G) : Gt w0 G br pr s 142 [ptr cr] (fun x : Psn => .agg x.cells.toArray) zIZ := by
 intro G' p w hG hp H
 have hlen := zP s
 have hs' : s.size ≤ 1073741824 := by omega
 have hA := zg (B := zN s) (p := p) (by omega)
 refine enter [.cell 1 87] Tryz.func142 rfl Tryz.ntmps142 rfl rfl ?_
 repeat' (first | refine y3 ?_ | refine y7 sg H ?_ | (refine y10 sg H ?_; intro b w H) | (refine y11 sg H ?_; intro w H) | refine z13 (zb sg rfl rfl (H.mem.sub (by intro p hp; simp [hp])) (hG hm) rfl rfl) ?_ | (refine zw mixed 8 ?_ ?_; exact rfl; intro w hcl; replace H := H.ext hcl; clear hcl) | ((with_reducible apply zBD); decide +kernel) | (refine' z8 4 ?_ ?_; rotate_left; first | exact z9 sg) | (refine' z8 6 ?_ ?_; rotate_left; first | exact z9 sg) | refine z10 0 ?_ | refine z10 1 ?_ | refine z10 2 ?_ | refine z10 3 ?_ | refine z10 5 ?_ | refine z10 7 ?_ | refine z11 0 2 ?_ ?_ | refine z11 1 2 ?_ ?_ | (refine' y33 zAk ?_ ?_; rotate_left 2; exact zAR 64 (by omega) (Nat.le_trans hA.inv (Nat.le_of_eq hlen)) hs' (H.perm (zh _)); rintro v N w ⟨x, p', rfl, rfl, -, hS⟩ H; replace H := H.perm (zh _).symm; replace hA := hA.seq hS; clear hS) | (refine' y33 zAk ?_ ?_; rotate_left 2; exact zAR 16 (by omega) (Nat.le_trans hA.inv (Nat.le_of_eq hlen)) hs' (H.perm (zh _)); rintro v N w ⟨x, p', rfl, rfl, -, hS⟩ H; replace H := H.perm (zh _).symm; replace hA := hA.seq hS; clear hS) | (refine' y33 zCj ?_ ?_; rotate_left 2; exact zCl (Nat.le_trans hA.inv (Nat.le_of_eq hlen)) hs' (H.perm (zh _)); rintro v N w ⟨x, p', rfl, rfl, ⟨hx0, hx1⟩, hS⟩ H; replace H := H.perm (zh _).symm; replace hA := hA.seq hS; clear hS) | (with_reducible first | apply zB | apply zD | apply zC | apply zF) | refine zA ?_ | fail)
 all_goals
  refine zU (vs := [_]) ⟨zAF sg rfl H.mem (List.Mem.head _) rfl rfl, trivial⟩ (H.sub (List.sublist_cons_self _ _)) ⟨_, _, ?_, rfl, trivial, hA.map (fun z => (⟨z.1.1.1.1.1.2, z.1.1.1.1.2, z.1.1.1.2, z.1.1.2, z.1.2, z.2⟩ : Psn)) (fun x => (((((((), x.acct), x.inst), x.bought), x.sold), x.spent), x.got)) ?_ ?_⟩
  ·rfl
  ·rintro l ⟨_, _, ⟨_, _, ⟨_, _, ⟨_, _, ⟨_, _, ⟨_, _, rfl, ⟨a0, b0, rfl⟩, rfl⟩, ⟨a1, b1, rfl⟩, rfl⟩, ⟨a2, b2, rfl⟩, rfl⟩, ⟨a3, b3, rfl⟩, rfl⟩, ⟨a4, b4, rfl⟩, rfl⟩, ⟨a5, b5, rfl⟩, rfl⟩
   exact ⟨⟨a0, b0⟩, ⟨a1, b1⟩, ⟨a2, b2⟩, ⟨a3, b3⟩, ⟨a4, b4⟩, ⟨a5, b5⟩, by simp [List.append_assoc]⟩
  ·rintro x l ⟨⟨a0, b0⟩, ⟨a1, b1⟩, ⟨a2, b2⟩, ⟨a3, b3⟩, ⟨a4, b4⟩, ⟨a5, b5⟩, rfl⟩
   exact ⟨by cases x; simp_all, ⟨_, _, ⟨_, _, ⟨_, _, ⟨_, _, ⟨_, _, ⟨_, _, rfl, ⟨a0, b0, rfl⟩, rfl⟩, ⟨a1, b1, rfl⟩, rfl⟩, ⟨a2, b2, rfl⟩, rfl⟩, ⟨a3, b3, rfl⟩, rfl⟩, ⟨a4, b4, rfl⟩, rfl⟩, ⟨a5, b5, rfl⟩, by simp [List.append_assoc]⟩⟩
def zIa (x : Ln) (l : List Nat) : Prop := (0 ≤ x.acct ∧ x.acct ≤ 64) ∧ (0 ≤ x.seq ∧ x.seq ≤ 4611686018427387904) ∧ (0 ≤ x.kind ∧ x.kind < 256) ∧ (0 ≤ (zA3 x.delta) ∧ (zA3 x.delta) ≤ 4611686018427387904) ∧ (0 ≤ x.bal ∧ x.bal ≤ 4611686018427387904) ∧ zAU (zA3 x.delta) = x.delta ∧ l = short (zAu x.acct) ++ short (zAu x.seq) ++ beK 1 (x.kind).toNat ++ short (zAu (zA3 x.delta)) ++ short (zAu x.bal)
set_option maxHeartbeats 4000000 in
theorem zPl {w0 : World} {G : zI} {br pr cr : Nat} {s : ByteArray} (hs : s.size ≤ 16777216) (hm : cb cr [ptr br] 119 ∈ G) : Gt w0 G br pr s 144 [ptr cr] (fun x : Ln => .agg x.cells.toArray) zIa := by
 intro G' p w hG hp H
 have hlen := zP s
 have hs' : s.size ≤ 1073741824 := by omega
 have hA := zg (B := zN s) (p := p) (by omega)
 refine enter [.cell 1 52] Tryz.func144 rfl Tryz.ntmps144 rfl rfl ?_
 repeat' (first | refine y1 sg ?_ | refine y3 ?_ | refine y7 sg H ?_ | (refine y10 sg H ?_; intro b w H) | (refine y11 sg H ?_; intro w H) | refine z13 (zb sg rfl rfl (H.mem.sub (by intro p hp; simp [hp])) (hG hm) rfl rfl) ?_ | (refine' y33 zAk ?_ ?_; rotate_left 2; exact zAR 64 (by omega) (Nat.le_trans hA.inv (Nat.le_of_eq hlen)) hs' (H.perm (zh _)); rintro v N w ⟨x, p', rfl, rfl, -, hS⟩ H; replace H := H.perm (zh _).symm; replace hA := hA.seq hS; clear hS) | (refine' y33 zCj ?_ ?_; rotate_left 2; exact zCl (Nat.le_trans hA.inv (Nat.le_of_eq hlen)) hs' (H.perm (zh _)); rintro v N w ⟨x, p', rfl, rfl, ⟨hx0, hx1⟩, hS⟩ H; replace H := H.perm (zh _).symm; replace hA := hA.seq hS; clear hS) | (refine' y33 zHS ?_ ?_; rotate_left 2; exact zKu (Nat.le_trans hA.inv (Nat.le_of_eq hlen)) hs' (H.perm (zh _)); rintro v N w ⟨x, p', rfl, rfl, -, hb, hS⟩ H; rw [← hb] at H; replace H := H.perm (zh _).symm; replace hA := hA.seq hS; clear hS) | (refine' y30 ent145 ?_ ?_; rotate_left; exact zNs (by omega) (by omega) _; intro w hcl; replace H := H.ext hcl; clear hcl) | (with_reducible first | apply zB | apply zD | apply zC | apply zF) | refine zA ?_ | fail)
 all_goals
  refine zU (vs := [_]) ⟨zAF sg rfl H.mem (List.Mem.head _) rfl rfl, trivial⟩ (H.sub (List.sublist_cons_self _ _)) ⟨_, _, ?_, rfl, trivial, hA.map (fun z => (⟨z.1.1.1.1.2, z.1.1.1.2, ((z.1.1.2 : Nat) : Int), zAU (z.1.2), z.2⟩ : Ln)) (fun x => ((((((), x.acct), x.seq), x.kind.toNat), (zA3 x.delta)), x.bal)) ?_ ?_⟩
  ·rfl
  ·rintro l ⟨_, _, ⟨_, _, ⟨_, _, ⟨_, _, ⟨_, _, rfl, ⟨a0, b0, rfl⟩, rfl⟩, ⟨a1, b1, rfl⟩, rfl⟩, ⟨a2, rfl⟩, rfl⟩, ⟨a3, b3, rfl⟩, rfl⟩, ⟨a4, b4, rfl⟩, rfl⟩
   exact ⟨⟨a0, b0⟩, ⟨a1, b1⟩, ⟨Int.natCast_nonneg _, Int.ofNat_lt.2 a2⟩, zPd a3 b3, ⟨a4, b4⟩, zNr a3 b3, by rw [zFb a3 b3]; simp [List.append_assoc]⟩
  ·rintro x l ⟨⟨a0, b0⟩, ⟨a1, b1⟩, ⟨a2, b2⟩, ⟨a3, b3⟩, ⟨a4, b4⟩, edelta, rfl⟩
   exact ⟨by have := Int.toNat_of_nonneg a2; cases x; simp_all, ⟨_, _, ⟨_, _, ⟨_, _, ⟨_, _, ⟨_, _, rfl, ⟨a0, b0, rfl⟩, rfl⟩, ⟨a1, b1, rfl⟩, rfl⟩, ⟨by show Int.toNat _ < 256; omega, rfl⟩, rfl⟩, ⟨a3, b3, rfl⟩, rfl⟩, ⟨a4, b4, rfl⟩, by simp [List.append_assoc]⟩⟩
end Go.Proofs.YtggolnppckpdlaaGreat
