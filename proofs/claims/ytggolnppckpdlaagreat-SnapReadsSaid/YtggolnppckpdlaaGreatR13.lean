/- Texts of ours, joined: the steps of the proof, or the claim's theorem. -/
import Derived.Test.YtggolnppckpdlaaGreatR05
import Derived.Test.YtggolnppckpdlaaGreatR12
set_option linter.unusedSimpArgs false
set_option linter.unusedVariables false
namespace Go.Proofs.YtggolnppckpdlaaGreat
open Go Go.Sk Go.RowKit
attribute [local irreducible] Go.Calls
def zEc (d : Int) : Int := if d > 0 then IntKind.i64.wrap (2 * d) else IntKind.i64.wrap (IntKind.i64.wrap (-2 * d) - 1)
theorem nb (xs : List Int) : (zr xs).length ≤ 10 * xs.length := zG0 xs
theorem c_fold (d : Int) (w : World) : Calls Tryz.prog 112 [.int .i64 d].toArray w (Ret (.int .i64 (zEc d)) w) := by
 refine enter [.tmp 2] Tryz.func112 rfl Tryz.ntmps112 rfl rfl ?_
 have H := zH w
 repeat' (first | refine y1 sg ?_ | (with_reducible first | apply zB | apply zD | apply zC | apply zF | apply zG | apply zO) | refine zA ?_ | (refine y23 ?_ ?_; all_goals intro h) | fail)
 ·exact zQ rfl H.cl (congrArg (Value.int .i64) (by unfold zEc; rw [if_pos (of_decide_eq_true h)]))
 ·exact zQ rfl H.cl (congrArg (Value.int .i64) (by unfold zEc; rw [if_neg (of_decide_eq_false h)]))
def zj (r : Row4) : Row4 := if r.acct = 0 then { r with free := IntKind.i64.wrap (0 - r.free) } else r
theorem zK2 (r : Row4) (w0 : World) : Calls Tryz.prog 96 [.agg r.cells.toArray].toArray w0 (Ret (.agg (zj r).cells.toArray) w0) := by
 refine enter [.cell 2 74] Tryz.func96 rfl Tryz.ntmps96 rfl rfl ?_
 have H := zH w0
 repeat' (first | refine y1 sg ?_ | refine y3 ?_ | refine y7 sg H ?_ | (refine y9 H ?_; intro b w H) | (refine y10 sg H ?_; intro b w H) | (refine y11 sg H ?_; intro w H) | (with_reducible first | apply zB | apply zD | apply zC | apply zF | apply zG) | refine zA ?_ | (refine y23 ?_ ?_; all_goals intro h) | fail)
 ·exact zCY (vs := [_]) ⟨zAF sg rfl H.mem (List.Mem.head _) rfl rfl, trivial⟩ H.cl (by unfold zj; rw [if_pos (eqI h)]; rfl)
 ·exact zCY (vs := [_]) ⟨zAF sg rfl H.mem (List.Mem.head _) rfl rfl, trivial⟩ H.cl (by unfold zj; rw [if_neg (neI h)]; rfl)
def zF2 (x : Ac) : List Nat := (short x.name.size ++ zN x.name) ++ zAS x.opn
theorem zPS {w0 : World} {G : zI} {pw bw : Nat} {B : Nat} (hB : B ≤ 17592186044416) (hm : cb bw [ptr pw] 88 ∈ G) (x : Ac) (hx : x.name.size ≤ 1000000) : One w0 G pw 89 [ptr bw] (.agg x.cells.toArray) (zF2 x) B := by
 intro M G' l w hG H hM hl
 have := zl (n := (x.name).size) (by omega)
 have := zP (x.name)
 (try simp only [List.length_cons, List.length_nil] at *)
 refine enter [] Tryz.func89 rfl Tryz.ntmps89 rfl rfl ?_
 repeat' (first | refine y1 sg ?_ | refine y3 ?_ | refine y7 sg H ?_ | (refine y9 H ?_; intro b w H) | refine z13 (zb sg rfl rfl (H.mem.sub (by intro p hp; simp [hp])) (hG hm) rfl rfl) ?_ | (refine' y33 ent90 ?_ ?_; rotate_left 2; exact zKs (x.name) (by omega) (H.perm (zAJ M G')) hM (by omega); rintro v N w ⟨rfl, M, rfl, hM⟩ H; replace H := H.perm (zAJ M G').symm) | (refine' y33 zMr ?_ ?_; rotate_left 2; exact zJh x.opn (H.perm (zAJ M G')) hM (by simp only [List.length_append, zAS, List.length_cons, List.length_nil]; omega); rintro v N w ⟨rfl, M, rfl, hM⟩ H; replace H := H.perm (zAJ M G').symm) | (with_reducible first | apply zB | apply zD | apply zC) | refine zA ?_ | fail)
 exact zu (vs := []) trivial (H.sub (List.sublist_cons_self _ _)) ⟨rfl, _, rfl, by simpa only [zF2, List.append_assoc] using hM⟩
def zFR (x : Ins) : List Nat := (short x.name.size ++ zN x.name) ++ (zr [x.tick] ++ zAS x.halted)
theorem zPT {w0 : World} {G : zI} {pw bw : Nat} {B : Nat} (hB : B ≤ 17592186044416) (hm : cb bw [ptr pw] 88 ∈ G) (x : Ins) (hx : x.name.size ≤ 1000000) : One w0 G pw 93 [ptr bw] (.agg x.cells.toArray) (zFR x) B := by
 intro M G' l w hG H hM hl
 have := zl (n := (x.name).size) (by omega)
 have := zP (x.name)
 have := nb [x.tick]
 (try simp only [List.length_cons, List.length_nil] at *)
 refine enter [] Tryz.func93 rfl Tryz.ntmps93 rfl rfl ?_
 repeat' (first | refine y1 sg ?_ | refine y3 ?_ | refine y7 sg H ?_ | (refine y9 H ?_; intro b w H) | (refine z14 sg H ?_; intro b w H) | refine z13 (zb sg rfl rfl (H.mem.sub (by intro p hp; simp [hp])) (hG hm) rfl rfl) ?_ | (refine' y33 ent90 ?_ ?_; rotate_left 2; exact zKs (x.name) (by omega) (H.perm (zAJ M G')) hM (by omega); rintro v N w ⟨rfl, M, rfl, hM⟩ H; replace H := H.perm (zAJ M G').symm) | (refine' y33 zCc ?_ ?_; rotate_left 2; exact zBH [x.tick] (H.perm (zt M G')) hM (zBp _ (List.Mem.head _) (by simp)) (by simp only [List.length_append, zAS, List.length_cons, List.length_nil]; omega); rintro v N w ⟨rfl, M, rfl, hM⟩ H; replace H := (H.perm (zt M G').symm).sub (List.sublist_cons_self _ _)) | (refine' y33 zMr ?_ ?_; rotate_left 2; exact zJh x.halted (H.perm (zAJ M G')) hM (by simp only [List.length_append, zAS, List.length_cons, List.length_nil]; omega); rintro v N w ⟨rfl, M, rfl, hM⟩ H; replace H := H.perm (zAJ M G').symm) | (with_reducible first | apply zB | apply zD | apply zC) | refine zA ?_ | fail)
 exact zu (vs := []) trivial (H.sub (List.sublist_cons_self _ _)) ⟨rfl, _, rfl, by simpa only [zFR, List.append_assoc] using hM⟩
def zEd (x : Row4) : List Nat := zr [(zj x).acct, (zj x).asset, (zj x).free, (zj x).held]
theorem zPU {w0 : World} {G : zI} {pw bw : Nat} {B : Nat} (hB : B ≤ 17592186044416) (hm : cb bw [ptr pw] 88 ∈ G) (x : Row4) : One w0 G pw 95 [ptr bw] (.agg x.cells.toArray) (zEd x) B := by
 intro M G' l w hG H hM hl
 have := nb [(zj x).acct, (zj x).asset, (zj x).free, (zj x).held]
 (try simp only [List.length_cons, List.length_nil] at *)
 refine enter [] Tryz.func95 rfl Tryz.ntmps95 rfl rfl ?_
 repeat' (first | refine y1 sg ?_ | refine y3 ?_ | refine y7 sg H ?_ | (refine y9 H ?_; intro b w H) | (refine y11 sg H ?_; intro w H) | (refine z14 sg H ?_; intro b w H) | refine z13 (zb sg rfl rfl (H.mem.sub (by intro p hp; simp [hp])) (hG hm) rfl rfl) ?_ | (refine' y30 ent96 ?_ ?_; rotate_left; exact zK2 x _; intro w hcl; replace H := H.ext hcl; clear hcl) | (refine' y33 zCc ?_ ?_; rotate_left 2; exact zBH [(zj x).acct, (zj x).asset, (zj x).free, (zj x).held] (H.perm (zt M G')) hM (zBp _ (List.Mem.head _) (by simp)) (by simp only [List.length_append, zAS, List.length_cons, List.length_nil]; omega); rintro v N w ⟨rfl, M, rfl, hM⟩ H; replace H := (H.perm (zt M G').symm).sub (List.sublist_cons_self _ _)) | (with_reducible first | apply zB | apply zD | apply zC) | refine zA ?_ | fail)
 exact zu (vs := []) trivial (H.sub (List.sublist_cons_self _ _)) ⟨rfl, _, rfl, by simpa only [zEd, List.append_assoc] using hM⟩
def zFS (x : Odr) : List Nat := zr [x.id, x.acct, x.inst] ++ ([x.side.toNat] ++ zr [x.price, x.left])
theorem zPV {w0 : World} {G : zI} {pw bw : Nat} {B : Nat} (hB : B ≤ 17592186044416) (hm : cb bw [ptr pw] 88 ∈ G) (x : Odr) (hx : 0 ≤ x.side ∧ x.side < 256) : One w0 G pw 98 [ptr bw] (.agg x.cells.toArray) (zFS x) B := by
 intro M G' l w hG H hM hl
 have := nb [x.id, x.acct, x.inst]
 have := nb [x.price, x.left]
 (try simp only [List.length_cons, List.length_nil] at *)
 refine enter [] Tryz.func98 rfl Tryz.ntmps98 rfl rfl ?_
 repeat' (first | refine y1 sg ?_ | refine y3 ?_ | refine y7 sg H ?_ | (refine y9 H ?_; intro b w H) | (refine z14 sg H ?_; intro b w H) | refine z13 (zb sg rfl rfl (H.mem.sub (by intro p hp; simp [hp])) (hG hm) rfl rfl) ?_ | (refine' y33 zCc ?_ ?_; rotate_left 2; exact zBH [x.id, x.acct, x.inst] (H.perm (zt M G')) hM (zBp _ (List.Mem.head _) (by simp)) (by simp only [List.length_append, zAS, List.length_cons, List.length_nil]; omega); rintro v N w ⟨rfl, M, rfl, hM⟩ H; replace H := (H.perm (zt M G').symm).sub (List.sublist_cons_self _ _)) | (refine' y33 zFs ?_ ?_; rotate_left 2; exact zJV (x.side).toNat (by omega) (by omega) (H.perm (zAJ M G')) hM (by simp only [List.length_append, zAS, List.length_cons, List.length_nil]; omega); rintro v N w ⟨rfl, M, rfl, hM⟩ H; replace H := H.perm (zAJ M G').symm) | (refine' y33 zCc ?_ ?_; rotate_left 2; exact zBH [x.price, x.left] (H.perm (zt M G')) hM (zBp _ (List.Mem.head _) (by simp)) (by simp only [List.length_append, zAS, List.length_cons, List.length_nil]; omega); rintro v N w ⟨rfl, M, rfl, hM⟩ H; replace H := (H.perm (zt M G').symm).sub (List.sublist_cons_self _ _)) | (with_reducible first | apply zB | apply zD | apply zC) | refine zA ?_ | fail)
 exact zu (vs := []) trivial (H.sub (List.sublist_cons_self _ _)) ⟨rfl, _, rfl, by simpa only [zFS, List.append_assoc] using hM⟩
def zFT (x : Opn) : List Nat := zr [x.acct, x.id, x.inst] ++ ([x.side.toNat] ++ zr [x.price, x.left])
theorem zPW {w0 : World} {G : zI} {pw bw : Nat} {B : Nat} (hB : B ≤ 17592186044416) (hm : cb bw [ptr pw] 88 ∈ G) (x : Opn) (hx : 0 ≤ x.side ∧ x.side < 256) : One w0 G pw 105 [ptr bw] (.agg x.cells.toArray) (zFT x) B := by
 intro M G' l w hG H hM hl
 have := nb [x.acct, x.id, x.inst]
 have := nb [x.price, x.left]
 (try simp only [List.length_cons, List.length_nil] at *)
 refine enter [] Tryz.func105 rfl Tryz.ntmps105 rfl rfl ?_
 repeat' (first | refine y1 sg ?_ | refine y3 ?_ | refine y7 sg H ?_ | (refine y9 H ?_; intro b w H) | (refine z14 sg H ?_; intro b w H) | refine z13 (zb sg rfl rfl (H.mem.sub (by intro p hp; simp [hp])) (hG hm) rfl rfl) ?_ | (refine' y33 zCc ?_ ?_; rotate_left 2; exact zBH [x.acct, x.id, x.inst] (H.perm (zt M G')) hM (zBp _ (List.Mem.head _) (by simp)) (by simp only [List.length_append, zAS, List.length_cons, List.length_nil]; omega); rintro v N w ⟨rfl, M, rfl, hM⟩ H; replace H := (H.perm (zt M G').symm).sub (List.sublist_cons_self _ _)) | (refine' y33 zFs ?_ ?_; rotate_left 2; exact zJV (x.side).toNat (by omega) (by omega) (H.perm (zAJ M G')) hM (by simp only [List.length_append, zAS, List.length_cons, List.length_nil]; omega); rintro v N w ⟨rfl, M, rfl, hM⟩ H; replace H := H.perm (zAJ M G').symm) | (refine' y33 zCc ?_ ?_; rotate_left 2; exact zBH [x.price, x.left] (H.perm (zt M G')) hM (zBp _ (List.Mem.head _) (by simp)) (by simp only [List.length_append, zAS, List.length_cons, List.length_nil]; omega); rintro v N w ⟨rfl, M, rfl, hM⟩ H; replace H := (H.perm (zt M G').symm).sub (List.sublist_cons_self _ _)) | (with_reducible first | apply zB | apply zD | apply zC) | refine zA ?_ | fail)
 exact zu (vs := []) trivial (H.sub (List.sublist_cons_self _ _)) ⟨rfl, _, rfl, by simpa only [zFT, List.append_assoc] using hM⟩
def zF3 (x : Lt) : List Nat := zr [x.id, x.seller, x.inst, x.qty]
theorem zPX {w0 : World} {G : zI} {pw bw : Nat} {B : Nat} (hB : B ≤ 17592186044416) (hm : cb bw [ptr pw] 88 ∈ G) (x : Lt) : One w0 G pw 107 [ptr bw] (.agg x.cells.toArray) (zF3 x) B := by
 intro M G' l w hG H hM hl
 have := nb [x.id, x.seller, x.inst, x.qty]
 (try simp only [List.length_cons, List.length_nil] at *)
 refine enter [] Tryz.func107 rfl Tryz.ntmps107 rfl rfl ?_
 repeat' (first | refine y1 sg ?_ | refine y3 ?_ | refine y7 sg H ?_ | (refine y9 H ?_; intro b w H) | (refine z14 sg H ?_; intro b w H) | refine z13 (zb sg rfl rfl (H.mem.sub (by intro p hp; simp [hp])) (hG hm) rfl rfl) ?_ | (refine' y33 zCc ?_ ?_; rotate_left 2; exact zBH [x.id, x.seller, x.inst, x.qty] (H.perm (zt M G')) hM (zBp _ (List.Mem.head _) (by simp)) (by simp only [List.length_append, zAS, List.length_cons, List.length_nil]; omega); rintro v N w ⟨rfl, M, rfl, hM⟩ H; replace H := (H.perm (zt M G').symm).sub (List.sublist_cons_self _ _)) | (with_reducible first | apply zB | apply zD | apply zC) | refine zA ?_ | fail)
 exact zu (vs := []) trivial (H.sub (List.sublist_cons_self _ _)) ⟨rfl, _, rfl, by simpa only [zF3, List.append_assoc] using hM⟩
def zF4 (x : Psn) : List Nat := zr [x.acct, x.inst, x.bought, x.sold, x.spent, x.got]
theorem zPY {w0 : World} {G : zI} {pw bw : Nat} {B : Nat} (hB : B ≤ 17592186044416) (hm : cb bw [ptr pw] 88 ∈ G) (x : Psn) : One w0 G pw 109 [ptr bw] (.agg x.cells.toArray) (zF4 x) B := by
 intro M G' l w hG H hM hl
 have := nb [x.acct, x.inst, x.bought, x.sold, x.spent, x.got]
 (try simp only [List.length_cons, List.length_nil] at *)
 refine enter [] Tryz.func109 rfl Tryz.ntmps109 rfl rfl ?_
 repeat' (first | refine y1 sg ?_ | refine y3 ?_ | refine y7 sg H ?_ | (refine y9 H ?_; intro b w H) | (refine z14 sg H ?_; intro b w H) | refine z13 (zb sg rfl rfl (H.mem.sub (by intro p hp; simp [hp])) (hG hm) rfl rfl) ?_ | (refine' y33 zCc ?_ ?_; rotate_left 2; exact zBH [x.acct, x.inst, x.bought, x.sold, x.spent, x.got] (H.perm (zt M G')) hM (zBp _ (List.Mem.head _) (by simp)) (by simp only [List.length_append, zAS, List.length_cons, List.length_nil]; omega); rintro v N w ⟨rfl, M, rfl, hM⟩ H; replace H := (H.perm (zt M G').symm).sub (List.sublist_cons_self _ _)) | (with_reducible first | apply zB | apply zD | apply zC) | refine zA ?_ | fail)
 exact zu (vs := []) trivial (H.sub (List.sublist_cons_self _ _)) ⟨rfl, _, rfl, by simpa only [zF4, List.append_assoc] using hM⟩
def zFU (x : Ln) : List Nat := zr [x.acct, x.seq] ++ ([x.kind.toNat] ++ zr [zEc x.delta, x.bal])
theorem zPZ {w0 : World} {G : zI} {pw bw : Nat} {B : Nat} (hB : B ≤ 17592186044416) (hm : cb bw [ptr pw] 88 ∈ G) (x : Ln) (hx : 0 ≤ x.kind ∧ x.kind < 256) : One w0 G pw 111 [ptr bw] (.agg x.cells.toArray) (zFU x) B := by
 intro M G' l w hG H hM hl
 have := nb [x.acct, x.seq]
 have := nb [zEc x.delta, x.bal]
 (try simp only [List.length_cons, List.length_nil] at *)
 refine enter [] Tryz.func111 rfl Tryz.ntmps111 rfl rfl ?_
 repeat' (first | refine y1 sg ?_ | refine y3 ?_ | refine y7 sg H ?_ | (refine y9 H ?_; intro b w H) | (refine z14 sg H ?_; intro b w H) | refine z13 (zb sg rfl rfl (H.mem.sub (by intro p hp; simp [hp])) (hG hm) rfl rfl) ?_ | (refine' y33 zCc ?_ ?_; rotate_left 2; exact zBH [x.acct, x.seq] (H.perm (zt M G')) hM (zBp _ (List.Mem.head _) (by simp)) (by simp only [List.length_append, zAS, List.length_cons, List.length_nil]; omega); rintro v N w ⟨rfl, M, rfl, hM⟩ H; replace H := (H.perm (zt M G').symm).sub (List.sublist_cons_self _ _)) | (refine' y33 zFs ?_ ?_; rotate_left 2; exact zJV (x.kind).toNat (by omega) (by omega) (H.perm (zAJ M G')) hM (by simp only [List.length_append, zAS, List.length_cons, List.length_nil]; omega); rintro v N w ⟨rfl, M, rfl, hM⟩ H; replace H := H.perm (zAJ M G').symm) | (refine zw mixed 8 ?_ ?_; exact rfl; intro w hcl; replace H := H.ext hcl; clear hcl) | ((with_reducible apply zBD); decide +kernel) | (refine' z8 1 ?_ ?_; rotate_left; first | exact z9 sg) | (refine' z8 4 ?_ ?_; rotate_left; first | exact z9 sg) | refine z10 0 ?_ | refine z10 2 ?_ | refine z10 3 ?_ | refine z10 5 ?_ | refine z10 6 ?_ | refine z10 7 ?_ | refine z11 0 2 ?_ ?_ | refine z11 0 3 ?_ ?_ | refine z11 0 5 ?_ ?_ | refine z11 2 5 ?_ ?_ | refine z11 3 5 ?_ ?_ | refine z11 0 6 ?_ ?_ | ((with_reducible apply RA.c3 0 2 5); exact rfl; decide +kernel; exact rfl; exact rfl; exact rfl) | ((with_reducible apply RA.c3 0 3 5); exact rfl; decide +kernel; exact rfl; exact rfl; exact rfl) | (refine' y30 ent112 ?_ ?_; rotate_left; exact c_fold x.delta _; intro w hcl; replace H := H.ext hcl; clear hcl) | (refine' y33 zCc ?_ ?_; rotate_left 2; exact zBH [zEc x.delta, x.bal] (H.perm (zt M G')) hM (zBp _ (List.Mem.head _) (by simp)) (by simp only [List.length_append, zAS, List.length_cons, List.length_nil]; omega); rintro v N w ⟨rfl, M, rfl, hM⟩ H; replace H := (H.perm (zt M G').symm).sub (List.sublist_cons_self _ _)) | (with_reducible first | apply zB | apply zD | apply zC) | refine zA ?_ | fail)
 all_goals exact zu (vs := []) trivial (H.sub (List.sublist_cons_self _ _)) ⟨rfl, _, rfl, by simpa only [zFU, List.append_assoc] using hM⟩
def zF5 (x : Bid) : List Nat := zr [x.acct, x.amount]
theorem zPa {w0 : World} {G : zI} {pw bw : Nat} {B : Nat} (hB : B ≤ 17592186044416) (hm : cb bw [ptr pw] 88 ∈ G) (x : Bid) : One w0 G pw 103 [ptr bw] (.agg x.cells.toArray) (zF5 x) B := by
 intro M G' l w hG H hM hl
 have := nb [x.acct, x.amount]
 (try simp only [List.length_cons, List.length_nil] at *)
 refine enter [] Tryz.func103 rfl Tryz.ntmps103 rfl rfl ?_
 repeat' (first | refine y1 sg ?_ | refine y3 ?_ | refine y7 sg H ?_ | (refine y9 H ?_; intro b w H) | (refine z14 sg H ?_; intro b w H) | refine z13 (zb sg rfl rfl (H.mem.sub (by intro p hp; simp [hp])) (hG hm) rfl rfl) ?_ | (refine' y33 zCc ?_ ?_; rotate_left 2; exact zBH [x.acct, x.amount] (H.perm (zt M G')) hM (zBp _ (List.Mem.head _) (by simp)) (by simp only [List.length_append, zAS, List.length_cons, List.length_nil]; omega); rintro v N w ⟨rfl, M, rfl, hM⟩ H; replace H := (H.perm (zt M G').symm).sub (List.sublist_cons_self _ _)) | (with_reducible first | apply zB | apply zD | apply zC) | refine zA ?_ | fail)
 exact zu (vs := []) trivial (H.sub (List.sublist_cons_self _ _)) ⟨rfl, _, rfl, by simpa only [zF5, List.append_assoc] using hM⟩
end Go.Proofs.YtggolnppckpdlaaGreat
set_option linter.unusedSimpArgs false
set_option linter.unusedVariables false
namespace Go.Proofs.YtggolnppckpdlaaGreat
open Go Go.Sk Go.RowKit
attribute [local irreducible] Go.Calls
abbrev sr (br pr : Nat) (s : ByteArray) (b : Bool) : Nat × Obj := cb br [ptr pr, .int .i64 (s.size : Int), .bool b] 121
def ze (most : Nat) (x : Int) (l : List Nat) : Prop := 0 ≤ x ∧ x ≤ most ∧ l = short (zAu x)
def SR {α : Type} (br pr : Nat) (s : ByteArray) (G : zI) (p : Rs) (enc : α → Value) (P : α → List Nat → Prop) (ok : α → Prop) : zI → Value → Prop :=
 fun N v => ∃ (x : α) (p' : Rs), v = enc x ∧ N = rd pr s p' :: sr br pr s p'.bad :: G ∧ ok x ∧ Step (zN s) P p p' x
theorem Step.num {B : List Nat} {p p' : Rs} {x most : Nat} (hm : most < 18446744073709551616) (h : Step B (zJX most) p p' x) : Step B (ze most) p p' (x : Int) := by
 refine ⟨h.inv, fun hl => ?_, fun hl y l r hy hr => ?_⟩
 ·obtain ⟨h1, l, ⟨h2, rfl⟩, h3⟩ := h.snd hl
  exact ⟨h1, _, ⟨by omega, by omega, by rw [zAv (by omega) (by omega)]; simp⟩, h3⟩
 ·obtain ⟨h1, h2, rfl⟩ := hy
  obtain ⟨e1, e2, e3⟩ := h.cpl hl y.toNat _ r ⟨by omega, rfl⟩ (by rw [hr, zAv h1 (by omega)])
  exact ⟨e1, by omega, e3⟩
theorem zAR {w0 w : World} {G : zI} {br pr : Nat} {s : ByteArray} {p : Rs} (n : Nat) (hn : n ≤ 1073741824) (hp : p.pos ≤ s.size) (hs : s.size ≤ 1073741824) (H : St w0 (rd pr s p :: sr br pr s p.bad :: G) w) :
  Calls Tryz.prog 129 [ptr br, .int .i64 (n : Int)].toArray w (zf (SR br pr s G p (Value.int .i64) (ze n) (fun x => 0 ≤ x ∧ x ≤ n)) w0) := by
 refine enter [.tmp 4] Tryz.func129 rfl Tryz.ntmps129 rfl rfl ?_
 repeat' (first | refine y1 sg ?_ | refine y3 ?_ | refine y7 sg H ?_ | (refine' y33 zJO ?_ ?_; rotate_left 2; exact zFx n (zBI (by omega)) (by omega) hp hs H; rintro v N w ⟨x, p', rfl, rfl, hx, hb, hS⟩ H) | (with_reducible first | apply zB | apply zD | apply zC | apply zF) | refine zA ?_ | fail)
 rw [← hb] at H
 exact zU (vs := [_]) ⟨zZ rfl, trivial⟩ H ⟨(x : Int), p', congrArg (Value.int .i64) (w64 (by omega) (by omega)), rfl, ⟨by omega, by omega⟩, hS.num (by omega)⟩
theorem zCl {w0 w : World} {G : zI} {br pr : Nat} {s : ByteArray} {p : Rs} (hp : p.pos ≤ s.size) (hs : s.size ≤ 1073741824) (H : St w0 (rd pr s p :: sr br pr s p.bad :: G) w) :
  Calls Tryz.prog 120 [ptr br].toArray w (zf (SR br pr s G p (Value.int .i64) (ze 4611686018427387904) (fun x => 0 ≤ x ∧ x ≤ 4611686018427387904)) w0) := by
 refine enter [.tmp 2] Tryz.func120 rfl Tryz.ntmps120 rfl rfl ?_
 repeat' (first | refine y1 sg ?_ | refine y3 ?_ | refine y7 sg H ?_ | (refine' y33 zJO ?_ ?_; rotate_left 2; exact zFx 4611686018427387904 rfl (by omega) hp hs H; rintro v N w ⟨x, p', rfl, rfl, hx, hb, hS⟩ H) | (with_reducible first | apply zB | apply zD | apply zC | apply zF) | refine zA ?_ | fail)
 rw [← hb] at H
 exact zU (vs := [_]) ⟨zZ rfl, trivial⟩ H ⟨(x : Int), p', congrArg (Value.int .i64) (w64 (by omega) (by omega)), rfl, ⟨by omega, by omega⟩, hS.num (by omega)⟩
def zDW (b : Bool) (l : List Nat) : Prop := l = zAS b
theorem Step.flag {B : List Nat} {p p' : Rs} {x : Nat} (h : Step B (zDp 1) p p' x) (hb : p'.bad = p.bad) (b : Bool) (hbad : b = (p.bad || decide (1 < x))) : Step B zDW p ⟨p'.pos, p'.e, p'.to, b⟩ (decide (x = 1)) := by
 refine ⟨h.inv, fun hl => ?_, fun hl y l r hy hr => ?_⟩
 ·obtain ⟨h1, h2⟩ := hl
  simp only at h1 h2
  rw [hbad] at h2
  have h3 : p.bad = false ∧ ¬ 1 < x := by simpa using h2
  obtain ⟨h4, l, ⟨h5, rfl⟩, h6⟩ := h.snd ⟨h1, hb.trans h3.1⟩
  refine ⟨h4, _, ?_, h6⟩
  rcases (show x = 0 ∨ x = 1 by omega) with rfl | rfl <;> rfl
 ·obtain ⟨e1, e2, e3⟩ := h.cpl hl (if y then 1 else 0) l r ⟨by split <;> decide, by rw [show l = zAS y from hy]; cases y <;> rfl⟩ hr
  subst e2
  refine ⟨⟨e1.1, ?_⟩, by cases y <;> rfl, e3⟩
  simp only
  rw [hbad, hl.2]; cases y <;> rfl
theorem zHc (x : Nat) : ((x : Int) == 1) = decide (x = 1) := by by_cases h : x = 1 <;> simp [h] <;> omega
theorem zNf {w0 w : World} {G : zI} {br pr : Nat} {s : ByteArray} {p : Rs} (hp : p.pos ≤ s.size) (hs : s.size ≤ 1073741824) (H : St w0 (rd pr s p :: sr br pr s p.bad :: G) w) :
  Calls Tryz.prog 124 [ptr br].toArray w (zf (SR br pr s G p Value.bool zDW (fun _ => True)) w0) := by
 refine enter [.tmp 2] Tryz.func124 rfl Tryz.ntmps124 rfl rfl ?_
 repeat' (first | refine y1 sg ?_ | refine y3 ?_ | refine y5 sg ?_ | refine y7 sg H ?_ | (refine y11 sg H ?_; intro w H) | (refine' y33 zHS ?_ ?_; rotate_left 2; exact zKu hp hs H; rintro v N w ⟨x, p', rfl, rfl, hx, hb, hS⟩ H) | refine y13 ?_ | refine y14 ?_ | (refine y17 ?_ ?_; all_goals intro h) | (with_reducible first | apply zB | apply zD | apply zC | apply zF) | refine zA ?_ | fail)
 ·exact zU (vs := [_]) ⟨zZ rfl, trivial⟩ H ⟨decide (x = 1), ⟨p'.pos, p'.e, p'.to, true⟩, congrArg Value.bool (zHc x), rfl, trivial, hS.flag hb _ (by rw [h, Bool.true_or])⟩
 ·exact zU (vs := [_]) ⟨zZ rfl, trivial⟩ H ⟨decide (x = 1), ⟨p'.pos, p'.e, p'.to, decide ((x : Int) > 1)⟩, congrArg Value.bool (zHc x), rfl, trivial, hS.flag hb _ (by rw [h, Bool.false_or]; exact decide_eq_decide.2 (by omega))⟩
def sqP {α β : Type} (P : α → List Nat → Prop) (Q : β → List Nat → Prop) (z : α × β) (l : List Nat) : Prop := ∃ l1 l2, P z.1 l1 ∧ Q z.2 l2 ∧ l = l1 ++ l2
theorem Step.seq {α β : Type} {B : List Nat} {P : α → List Nat → Prop} {Q : β → List Nat → Prop} {p p1 p2 : Rs} {x : α} {y : β} (h1 : Step B P p p1 x) (h2 : Step B Q p1 p2 y) : Step B (sqP P Q) p p2 (x, y) := by
 refine ⟨h2.inv, fun hl => ?_, fun hl z l r hz hr => ?_⟩
 ·obtain ⟨a1, l2, a2, a3⟩ := h2.snd hl
  obtain ⟨b1, l1, b2, b3⟩ := h1.snd a1
  exact ⟨b1, l1 ++ l2, ⟨l1, l2, b2, a2, rfl⟩, by rw [b3, a3, List.append_assoc]⟩
 ·obtain ⟨l1, l2, a1, a2, rfl⟩ := hz
  rw [List.append_assoc] at hr
  obtain ⟨b1, b2, b3⟩ := h1.cpl hl _ _ _ a1 hr
  obtain ⟨c1, c2, c3⟩ := h2.cpl b1 _ _ _ a2 b3
  exact ⟨c1, by rw [b2, c2], c3⟩
theorem Step.map {α β : Type} {B : List Nat} {P : α → List Nat → Prop} {Q : β → List Nat → Prop} {p p' : Rs} {x : α} (f : α → β) (g : β → α) (h : Step B P p p' x) (hPQ : ∀ l, P x l → Q (f x) l) (hQP : ∀ z l, Q z l → f (g z) = z ∧ P (g z) l) : Step B Q p p' (f x) := by
 refine ⟨h.inv, fun hl => ?_, fun hl z l r hz hr => ?_⟩
 ·obtain ⟨a1, l, a2, a3⟩ := h.snd hl
  exact ⟨a1, l, hPQ l a2, a3⟩
 ·obtain ⟨e1, e2⟩ := hQP z l hz
  obtain ⟨c1, c2, c3⟩ := h.cpl hl _ _ _ e2 hr
  exact ⟨c1, by rw [c2, e1], c3⟩
def zCH {α : Type} (P : α → List Nat → Prop) : List α → List Nat → Prop
 | [], l => l = []
 | x :: xs, l => ∃ l1 l2, P x l1 ∧ zCH P xs l2 ∧ l = l1 ++ l2
theorem zF6 {α : Type} {P : α → List Nat → Prop} {x : α} {l1 : List Nat} : ∀ {xs : List α} {l : List Nat}, zCH P xs l → P x l1 → zCH P (xs ++ [x]) (l ++ l1)
 | [], _, rfl, h1 => ⟨l1, [], h1, rfl, by simp⟩
 | y :: ys, _, ⟨a, b, h2, h3, rfl⟩, h1 => ⟨a, b ++ l1, h2, zF6 h3 h1, by rw [List.append_assoc]⟩
theorem zCv {α : Type} {P : α → List Nat → Prop} (hP : ∀ x l, P x l → l ≠ []) : ∀ {xs : List α} {l : List Nat}, zCH P xs l → xs.length ≤ l.length
 | [], _, _ => Nat.zero_le _
 | y :: ys, _, ⟨a, b, h2, h3, rfl⟩ => by
   have := zCv hP h3
   have : 0 < a.length := List.length_pos_iff.2 (hP y a h2)
   rw [List.length_append, List.length_cons]; omega
def zy {α : Type} (P : α → List Nat → Prop) (xs : List α) (l : List Nat) : Prop := ∃ l2, zCH P xs l2 ∧ l = short xs.length ++ l2
structure ListAt {α : Type} (B : List Nat) (P : α → List Nat → Prop) (p1 pk : Rs) (n : Nat) (xs : List α) : Prop where
 inv : pk.pos ≤ B.length
 snd : pk.live → p1.live ∧ ∃ l, zCH P xs l ∧ B.drop p1.pos = l ++ B.drop pk.pos
 cpl : p1.live → ∀ ys l r, zCH P ys l → ys.length = n → B.drop p1.pos = l ++ r → pk.live ∧ ∃ zs l', ys = xs ++ zs ∧ zCH P zs l' ∧ B.drop pk.pos = l' ++ r
theorem zd {α : Type} {B : List Nat} {P : α → List Nat → Prop} {p : Rs} {n : Nat} (h : p.pos ≤ B.length) : ListAt B P p p n ([] : List α) :=
 ⟨h, fun hl => ⟨hl, [], rfl, rfl⟩, fun hl ys l r h1 _ h2 => ⟨hl, ys, l, rfl, h1, h2⟩⟩
theorem ListAt.next {α : Type} {B : List Nat} {P : α → List Nat → Prop} {p1 pk p' : Rs} {n : Nat} {xs : List α} {x : α} (h : ListAt B P p1 pk n xs) (hs : Step B P pk p' x) (hk : xs.length < n) : ListAt B P p1 p' n (xs ++ [x]) := by
 refine ⟨hs.inv, fun hl => ?_, fun hl ys l r h1 h2 h3 => ?_⟩
 ·obtain ⟨a1, l1, a2, a3⟩ := hs.snd hl
  obtain ⟨b1, l, b2, b3⟩ := h.snd a1
  exact ⟨b1, l ++ l1, zF6 b2 a2, by rw [b3, a3, List.append_assoc]⟩
 ·obtain ⟨a1, zs, l', rfl, a3, a4⟩ := h.cpl hl ys l r h1 h2 h3
  cases zs with
  | nil => simp at h2; omega
  | cons z zs =>
    obtain ⟨la, lb, b1, b2, rfl⟩ := a3
    rw [List.append_assoc] at a4
    obtain ⟨c1, rfl, c3⟩ := hs.cpl a1 _ _ _ b1 a4
    exact ⟨c1, zs, lb, by simp, b2, c3⟩
theorem ListAt.done {α : Type} {B : List Nat} {P : α → List Nat → Prop} {p p1 pk : Rs} {n most : Nat} {xs : List α} (hP : ∀ x l, P x l → l ≠ []) (hm : B.length ≤ most) (hm2 : most < 1152921504606846976) (h1 : Step B (ze most) p p1 (n : Int)) (h : ListAt B P p1 pk n xs) (hn : xs.length = n) : Step B (zy P) p pk xs := by
 subst hn
 refine ⟨h.inv, fun hl => ?_, fun hl ys l r hy hr => ?_⟩
 ·obtain ⟨a1, l2, a2, a3⟩ := h.snd hl
  obtain ⟨b1, l1, ⟨c1, c2, rfl⟩, b3⟩ := h1.snd a1
  exact ⟨b1, _, ⟨l2, a2, rfl⟩, by rw [b3, a3, zAv (by omega) (by omega), Int.toNat_natCast, List.append_assoc]⟩
 ·obtain ⟨l2, a1, rfl⟩ := hy
  have := zCv hP a1
  have hle := congrArg List.length hr
  rw [List.length_drop, List.length_append, List.length_append] at hle
  rw [List.append_assoc] at hr
  obtain ⟨b1, b2, b3⟩ := h1.cpl hl (ys.length : Int) _ _ ⟨by omega, by omega, by rw [zAv (by omega) (by omega), Int.toNat_natCast]⟩ hr
  obtain ⟨c1, zs, l', rfl, c3, c4⟩ := h.cpl b1 ys l2 r a1 (by omega) b3
  rw [List.length_append] at b2
  have : zs = [] := List.length_eq_zero_iff.1 (by omega)
  subst this
  cases c3
  exact ⟨c1, by simp, c4⟩
theorem ListAt.fail {α : Type} {B : List Nat} {P : α → List Nat → Prop} {p p1 pk p' : Rs} {n most : Nat} {xs : List α} {x : α} (hP : ∀ x l, P x l → l ≠ []) (hm : B.length ≤ most) (hm2 : most < 1152921504606846976) (h1 : Step B (ze most) p p1 (n : Int)) (h : ListAt B P p1 pk n xs) (hn : xs.length < n) (hs : Step B P pk p' x) (he : p'.e ≠ 0) : Step B (zy P) p p' ([] : List α) := by
 have h' := h.next hs hn
 refine ⟨h'.inv, fun hl => absurd hl.1 he, fun hl ys l r hy hr => ?_⟩
 obtain ⟨l2, a1, rfl⟩ := hy
 have := zCv hP a1
 have hle := congrArg List.length hr
 rw [List.length_drop, List.length_append, List.length_append] at hle
 rw [List.append_assoc] at hr
 obtain ⟨b1, b2, b3⟩ := h1.cpl hl (ys.length : Int) _ _ ⟨by omega, by omega, by rw [zAv (by omega) (by omega), Int.toNat_natCast]⟩ hr
 exact absurd (h'.cpl b1 ys l2 r a1 (by omega) b3).1.1 he
end Go.Proofs.YtggolnppckpdlaaGreat
set_option linter.unusedSimpArgs false
set_option linter.unusedVariables false
namespace Go.Proofs.YtggolnppckpdlaaGreat
open Go Go.Sk Go.RowKit
attribute [local irreducible] Go.Calls
theorem zNg {x y z : Nat × Obj} (M G : zI) : (x :: y :: z :: (M ++ G)).Perm (M ++ (x :: y :: z :: G)) := by
 have := List.perm_append_comm_assoc [x, y, z] M G
 simpa using this
def zG1 (l : List Bid) : List Nat := zAT l.length fun k => zF5 (l.getD k default)
def zFV (x : Auc) : List Nat := zr [x.id, x.seller, x.inst] ++ (zAS x.sealed ++ (zr [x.qty, x.reserve, x.step, x.fin] ++ zG1 x.bids))
theorem zLx {l : List Bid} (h : l.length ≤ 10000) : (zG1 l).length ≤ 10 + l.length * 20 := by
 unfold zG1 zAT
 have h1 := zAQ (n := l.length) (ob := fun k => zF5 (l.getD k default)) (C := 20) fun k hk => nb [(l.getD k default).acct, (l.getD k default).amount]
 have h2 := zl (n := l.length) (by omega)
 rw [List.length_append]; omega
theorem zIQ {x : Auc} (h : x.bids.length ≤ 10000) : (zFV x).length ≤ 200100 := by
 have h1 := zLx h
 have h2 := nb [x.id, x.seller, x.inst]
 have h3 := nb [x.qty, x.reserve, x.step, x.fin]
 simp only [List.length_cons, List.length_nil] at h2 h3
 unfold zFV zAS
 simp only [List.length_append, List.length_cons, List.length_nil]
 omega
theorem zPb {w0 : World} {G F : zI} {pw bw B : Nat} (hB : B ≤ 8796093022208) (hF : Mem w0 F) (hm : cb bw [ptr pw] 88 ∈ G) (x : Auc) (a : Option Addr) (cap : Nat) (hs : Bids F a cap x.bids) (hb : x.bids.length ≤ 10000) : One w0 G pw 101 [ptr bw] (.agg (x.cells a cap).toArray) (zFV x) B := by
 intro M G' l w hG H hM hl
 have h1 := nb [x.id, x.seller, x.inst]
 have h2 := nb [x.qty, x.reserve, x.step, x.fin]
 simp only [List.length_cons, List.length_nil] at h1 h2
 refine enter [] Tryz.func101 rfl Tryz.ntmps101 rfl rfl ?_
 repeat' (first | refine y1 sg ?_ | refine y3 ?_ | refine y7 sg H ?_ | (refine y9 H ?_; intro b w H) | (refine z14 sg H ?_; intro b w H) | refine z13 (zb sg rfl rfl (H.mem.sub (by intro p hp; simp [hp])) (hG hm) rfl rfl) ?_ | (refine' y33 zCc ?_ ?_; rotate_left 2; exact zBH [x.id, x.seller, x.inst] (H.perm (zt M G')) hM (zBp _ (List.Mem.head _) (by simp)) (by simp only [List.length_append, zAS, List.length_cons, List.length_nil]; omega); rintro v N w ⟨rfl, M, rfl, hM⟩ H; replace H := (H.perm (zt M G').symm).sub (List.sublist_cons_self _ _)) | (refine' y33 zCc ?_ ?_; rotate_left 2; exact zBH [x.qty, x.reserve, x.step, x.fin] (H.perm (zt M G')) hM (zBp _ (List.Mem.head _) (by simp)) (by simp only [List.length_append, zAS, List.length_cons, List.length_nil]; omega); rintro v N w ⟨rfl, M, rfl, hM⟩ H; replace H := (H.perm (zt M G').symm).sub (List.sublist_cons_self _ _)) | (refine' y33 zMr ?_ ?_; rotate_left 2; exact zJh x.sealed (H.perm (zAJ M G')) hM (by simp only [List.length_append, zAS, List.length_cons, List.length_nil]; omega); rintro v N w ⟨rfl, M, rfl, hM⟩ H; replace H := H.perm (zAJ M G').symm) | (refine' y33 ent102 ?_ ?_; rotate_left 2; exact zLs x.bids (fun k => zF5 (x.bids.getD k default)) 20 (Nat.le_refl _) hF hs ent103 (fun k hk => zPa (Nat.le_refl _) (List.Mem.tail _ (hG hm)) _) (fun k hk => nb [(x.bids.getD k default).acct, (x.bids.getD k default).amount]) (H.perm (zAJ M G')) hM (by simp only [List.length_append, zAS, List.length_cons, List.length_nil]; omega); rintro v N w ⟨rfl, M, rfl, hM⟩ H; replace H := H.perm (zAJ M G').symm) | (with_reducible first | apply zB | apply zD | apply zC) | refine zA ?_ | fail)
 exact zu (vs := []) trivial (H.sub (List.sublist_cons_self _ _)) ⟨rfl, _, rfl, by simpa only [zFV, zG1, List.append_assoc] using hM⟩
structure StaB (s : Sta) : Prop where
 ac : s.accts.length ≤ 10000
 acN : ∀ k, k < s.accts.length → (ac_ s.accts k).name.size ≤ 1000
 ins : s.insts.length ≤ 10000
 insN : ∀ k, k < s.insts.length → (in_ s.insts k).name.size ≤ 1000
 rw : s.rows.length ≤ 10000
 od : s.orders.length ≤ 10000
 odS : ∀ k, k < s.orders.length → 0 ≤ (od_ s.orders k).side ∧ (od_ s.orders k).side < 256
 au : s.aucs.length ≤ 10000
 bd : ∀ k, k < s.aucs.length → (s.aucs.getD k default).bids.length ≤ 10000
structure VwB (v : Vws) : Prop where
 op : v.opn.length ≤ 10000
 opS : ∀ k, k < v.opn.length → 0 ≤ (op_ v.opn k).side ∧ (op_ v.opn k).side < 256
 lt : v.lots.length ≤ 10000
 ps : v.poss.length ≤ 10000
 ln : v.lins.length ≤ 10000
 lnK : ∀ k, k < v.lins.length → 0 ≤ (ln_ v.lins k).kind ∧ (ln_ v.lins k).kind < 256
def zBL (s : Sta) : List Nat := zr [s.clock, s.fee, s.nextO, s.nextA] ++ (zAT s.accts.length (fun k => zF2 (ac_ s.accts k)) ++ (zAT s.insts.length (fun k => zFR (in_ s.insts k)) ++ (zAT s.rows.length (fun k => zEd (rw_ s.rows k)) ++ (zAT s.orders.length (fun k => zFS (od_ s.orders k)) ++ zAT s.aucs.length (fun k => zFV (s.aucs.getD k default))))))
def zBh (v : Vws) : List Nat := zAT v.opn.length (fun k => zFT (op_ v.opn k)) ++ (zAT v.lots.length (fun k => zF3 (lt_ v.lots k)) ++ (zAT v.poss.length (fun k => zF4 (ps_ v.poss k)) ++ zAT v.lins.length (fun k => zFU (ln_ v.lins k))))
theorem zAW {n C : Nat} {ob : Nat → List Nat} (hn : n ≤ 10000) (h : ∀ k, k < n → (ob k).length ≤ C) : (zAT n ob).length ≤ 10 + n * C := by
 unfold zAT
 have h1 := zAQ h
 have h2 := zl (n := n) (by omega)
 rw [List.length_append]; omega
theorem zF7 {x : Ac} (h : x.name.size ≤ 1000) : (zF2 x).length ≤ 1011 := by
 have h1 := zl (n := x.name.size) (by omega)
 have h2 := zP x.name
 unfold zF2 zAS
 simp only [List.length_append, List.length_cons, List.length_nil]; omega
theorem zF8 {x : Ins} (h : x.name.size ≤ 1000) : (zFR x).length ≤ 1021 := by
 have h1 := zl (n := x.name.size) (by omega)
 have h2 := zP x.name
 have h3 := nb [x.tick]
 simp only [List.length_cons, List.length_nil] at h3
 unfold zFR zAS
 simp only [List.length_append, List.length_cons, List.length_nil]; omega
theorem zF9 (x : Row4) : (zEd x).length ≤ 40 := nb [_, _, _, _]
theorem zGA (x : Odr) : (zFS x).length ≤ 51 := by
 have h1 := nb [x.id, x.acct, x.inst]
 have h2 := nb [x.price, x.left]
 simp only [List.length_cons, List.length_nil] at h1 h2
 unfold zFS
 simp only [List.length_append, List.length_cons, List.length_nil]; omega
theorem zGB (x : Opn) : (zFT x).length ≤ 51 := by
 have h1 := nb [x.acct, x.id, x.inst]
 have h2 := nb [x.price, x.left]
 simp only [List.length_cons, List.length_nil] at h1 h2
 unfold zFT
 simp only [List.length_append, List.length_cons, List.length_nil]; omega
theorem zGC (x : Lt) : (zF3 x).length ≤ 40 := nb [_, _, _, _]
theorem zGD (x : Psn) : (zF4 x).length ≤ 60 := nb [_, _, _, _, _, _]
theorem zIR (x : Ln) : (zFU x).length ≤ 41 := by
 have h1 := nb [x.acct, x.seq]
 have h2 := nb [zEc x.delta, x.bal]
 simp only [List.length_cons, List.length_nil] at h1 h2
 unfold zFU
 simp only [List.length_append, List.length_cons, List.length_nil]; omega
set_option maxHeartbeats 2000000 in
theorem c_put {w0 w : World} {M G F : zI} {pw : Nat} {l : List Nat} (s : Sta) (p : SPt) (hF : Mem w0 F) (hs : StaM F s p) (hb : StaB s) (H : St w0 (M ++ G) w) (hM : Wr M pw l) (hl : l.length ≤ 4398046511104) :
  Calls Tryz.prog 35 [ptr pw, .agg (s.cells p).toArray].toArray w (zf (WrR G pw (l ++ zBL s)) w0) := by
 obtain ⟨b1, b1n, b2, b2n, b3, b4, b4n, b5, b5n⟩ := hb
 have n0 := nb [s.clock, s.fee, s.nextO, s.nextA]
 simp only [List.length_cons, List.length_nil] at n0
 have n1 := zAW b1 fun k hk => zF7 (b1n k hk)
 have n2 := zAW b2 fun k hk => zF8 (b2n k hk)
 have n3 := zAW b3 fun k _ => zF9 (rw_ s.rows k)
 have n4 := zAW b4 fun k _ => zGA (od_ s.orders k)
 refine enter [] Tryz.func35 rfl Tryz.ntmps35 rfl rfl ?_
 repeat' (first | refine y1 sg ?_ | refine y3 ?_ | refine y7 sg H ?_ | (refine y9 H ?_; intro b w H) | (refine z14 sg H ?_; intro b w H) | (refine' y33 zCc ?_ ?_; rotate_left 2; exact zBH [s.clock, s.fee, s.nextO, s.nextA] (H.perm (zNg M G)) hM (zBp _ (List.Mem.head _) (by simp)) (by simp only [List.length_append, List.length_cons, List.length_nil]; omega); rintro v N w ⟨rfl, M, rfl, hM⟩ H; replace H := (H.perm (zNg M G).symm).sub (List.sublist_cons_self _ _)) | (refine' y33 ent88 ?_ ?_; rotate_left 2; exact zLn s.accts (B := 8796093022208) (fun k => zF2 (ac_ s.accts k)) 1011 (by decide) hF hs.ac ent89 (fun k hk => zPS (by decide) (List.Mem.tail _ (List.Mem.head _)) _ (by have := b1n k hk; omega)) (fun k hk => zF7 (b1n k hk)) (H.perm (zt M G)) hM (by simp only [List.length_append]; omega); rintro v N w ⟨rfl, M, rfl, hM⟩ H; replace H := H.perm (zt M G).symm) | (refine' y33 ent92 ?_ ?_; rotate_left 2; exact zLo s.insts (B := 8796093022208) (fun k => zFR (in_ s.insts k)) 1021 (by decide) hF hs.ins ent93 (fun k hk => zPT (by decide) (List.Mem.tail _ (List.Mem.head _)) _ (by have := b2n k hk; omega)) (fun k hk => zF8 (b2n k hk)) (H.perm (zt M G)) hM (by simp only [List.length_append]; omega); rintro v N w ⟨rfl, M, rfl, hM⟩ H; replace H := H.perm (zt M G).symm) | (refine' y33 ent94 ?_ ?_; rotate_left 2; exact zLp s.rows (B := 8796093022208) (fun k => zEd (rw_ s.rows k)) 40 (by decide) hF hs.rw ent95 (fun k hk => zPU (by decide) (List.Mem.tail _ (List.Mem.head _)) _) (fun k hk => zF9 _) (H.perm (zt M G)) hM (by simp only [List.length_append]; omega); rintro v N w ⟨rfl, M, rfl, hM⟩ H; replace H := H.perm (zt M G).symm) | (refine' y33 ent97 ?_ ?_; rotate_left 2; exact zLq s.orders (B := 8796093022208) (fun k => zFS (od_ s.orders k)) 51 (by decide) hF hs.od ent98 (fun k hk => zPV (by decide) (List.Mem.tail _ (List.Mem.head _)) _ (b4n k hk)) (fun k hk => zGA _) (H.perm (zt M G)) hM (by simp only [List.length_append]; omega); rintro v N w ⟨rfl, M, rfl, hM⟩ H; replace H := H.perm (zt M G).symm) | (refine' y33 ent100 ?_ ?_; rotate_left 2; exact zLr s.aucs p.ad (B := 8796093022208) (fun k => zFV (s.aucs.getD k default)) 200100 (by decide) hF hs.au.1 ent101 (fun k hk => zPb (by decide) hF (List.Mem.tail _ (List.Mem.head _)) _ _ _ (hs.au.2 k hk) (b5n k hk)) (fun k hk => zIQ (b5n k hk)) (H.perm (zt M G)) hM (by simp only [List.length_append]; omega); rintro v N w ⟨rfl, M, rfl, hM⟩ H; replace H := H.perm (zt M G).symm) | (with_reducible first | apply zB | apply zD | apply zC) | refine zA ?_ | fail)
 exact zu (vs := []) trivial ((H.sub (List.sublist_cons_self _ _)).sub (List.sublist_cons_self _ _)) ⟨rfl, _, rfl, by simpa only [zBL, List.append_assoc] using hM⟩
set_option maxHeartbeats 2000000 in
theorem zG2 {w0 w : World} {M G F : zI} {pw : Nat} {l : List Nat} (v : Vws) (p : VPt) (hF : Mem w0 F) (hs : VwM F v p) (hb : VwB v) (H : St w0 (M ++ G) w) (hM : Wr M pw l) (hl : l.length ≤ 8792000000000) :
  Calls Tryz.prog 36 [ptr pw, .agg (v.cells p).toArray].toArray w (zf (WrR G pw (l ++ zBh v)) w0) := by
 obtain ⟨b1, b1n, b2, b3, b4, b4n⟩ := hb
 have n1 := zAW b1 fun k _ => zGB (op_ v.opn k)
 have n2 := zAW b2 fun k _ => zGC (lt_ v.lots k)
 have n3 := zAW b3 fun k _ => zGD (ps_ v.poss k)
 refine enter [] Tryz.func36 rfl Tryz.ntmps36 rfl rfl ?_
 repeat' (first | refine y1 sg ?_ | refine y3 ?_ | refine y7 sg H ?_ | (refine y9 H ?_; intro b w H) | (refine' y33 ent104 ?_ ?_; rotate_left 2; exact zLt v.opn (B := 8796093022208) (fun k => zFT (op_ v.opn k)) 51 (by decide) hF hs.op ent105 (fun k hk => zPW (by decide) (List.Mem.tail _ (List.Mem.head _)) _ (b1n k hk)) (fun k hk => zGB _) (H.perm (zt M G)) hM (by omega); rintro v N w ⟨rfl, M, rfl, hM⟩ H; replace H := H.perm (zt M G).symm) | (refine' y33 ent106 ?_ ?_; rotate_left 2; exact zLu v.lots (B := 8796093022208) (fun k => zF3 (lt_ v.lots k)) 40 (by decide) hF hs.lt ent107 (fun k hk => zPX (by decide) (List.Mem.tail _ (List.Mem.head _)) _) (fun k hk => zGC _) (H.perm (zt M G)) hM (by simp only [List.length_append]; omega); rintro v N w ⟨rfl, M, rfl, hM⟩ H; replace H := H.perm (zt M G).symm) | (refine' y33 ent108 ?_ ?_; rotate_left 2; exact zLv v.poss (B := 8796093022208) (fun k => zF4 (ps_ v.poss k)) 60 (by decide) hF hs.ps ent109 (fun k hk => zPY (by decide) (List.Mem.tail _ (List.Mem.head _)) _) (fun k hk => zGD _) (H.perm (zt M G)) hM (by simp only [List.length_append]; omega); rintro v N w ⟨rfl, M, rfl, hM⟩ H; replace H := H.perm (zt M G).symm) | (refine' y33 ent110 ?_ ?_; rotate_left 2; exact zLw v.lins (B := 8796093022208) (fun k => zFU (ln_ v.lins k)) 41 (by decide) hF hs.ln ent111 (fun k hk => zPZ (by decide) (List.Mem.tail _ (List.Mem.head _)) _ (b4n k hk)) (fun k hk => zIR _) (H.perm (zt M G)) hM (by simp only [List.length_append]; omega); rintro v N w ⟨rfl, M, rfl, hM⟩ H; replace H := H.perm (zt M G).symm) | (with_reducible first | apply zB | apply zD | apply zC) | refine zA ?_ | fail)
 exact zu (vs := []) trivial ((H.sub (List.sublist_cons_self _ _)).sub (List.sublist_cons_self _ _)) ⟨rfl, _, rfl, by simpa only [zBh, List.append_assoc] using hM⟩
end Go.Proofs.YtggolnppckpdlaaGreat
set_option linter.unusedSimpArgs false
set_option linter.unusedVariables false
namespace Go.Proofs.YtggolnppckpdlaaGreat
open Go Go.Sk Go.RowKit
attribute [local irreducible] Go.Calls
theorem zAo {x y z u : Nat × Obj} (M G : zI) : (x :: y :: z :: u :: (M ++ G)).Perm (M ++ (x :: y :: z :: u :: G)) := by
 have := List.perm_append_comm_assoc [x, y, z, u] M G
 simpa using this
def Fz (M : zI) : Prop := ∀ p ∈ M, ∃ cs T, p.2 = Obj.cells cs T (0, 0)
theorem Fz.nil : Fz [] := fun p h => by cases h
theorem Fz.cons {b : Nat} {cs : Array Value} {T : TypeId} {M : zI} (h : Fz M) : Fz ((b, Obj.cells cs T (0, 0)) :: M) := fun p hp => by
 rcases List.mem_cons.1 hp with rfl | hp
 ·exact ⟨cs, T, rfl⟩
 ·exact h p hp
theorem Fz.app {M N : zI} (h : Fz M) (k : Fz N) : Fz (M ++ N) := fun p hp => (List.mem_append.1 hp).elim (h p) (k p)
theorem Own.fz {M : zI} {E : TypeId} {size : Nat} {a : Option Addr} {n cap : Nat} {xs : List Value} (h : Own M E size a n cap xs) : Fz M := by
 obtain ⟨_, ⟨_, _, rfl⟩ | ⟨g, cs, _, rfl, _⟩⟩ := h
 ·exact Fz.nil
 ·exact Fz.cons Fz.nil
def Gt {α : Type} (w0 : World) (G : zI) (br pr : Nat) (s : ByteArray) (g : FuncId) (caps : List Value) (enc : α → Value) (P : α → List Nat → Prop) : Prop :=
 ∀ (G' : zI) (p : Rs) (w : World), G ⊆ G' → p.pos ≤ s.size → St w0 (rd pr s p :: sr br pr s p.bad :: G') w → Calls Tryz.prog g caps.toArray w (zf (SR br pr s G' p enc P (fun _ => True)) w0)
def LR {α : Type} (br pr : Nat) (s : ByteArray) (G : zI) (p : Rs) (T : TypeId) (sz : Nat) (el : List α → Nat → List Value) (P : α → List Nat → Prop) : zI → Value → Prop :=
 fun N v => ∃ (xs : List α) (p' : Rs) (a : Option Addr) (cap : Nat) (M : zI), v = .slice a xs.length cap ∧ N = rd pr s p' :: sr br pr s p'.bad :: (M ++ G) ∧ Own M T sz a xs.length cap ((List.range xs.length).flatMap (el xs)) ∧ xs.length ≤ s.size ∧ Step (zN s) (zy P) p p' xs
theorem zA8 {α : Type} {el : List α → Nat → List Value} {xs : List α} {x : α} (h1 : ∀ k, k < xs.length → el (xs ++ [x]) k = el xs k) : (List.range (xs ++ [x]).length).flatMap (el (xs ++ [x])) = (List.range xs.length).flatMap (el xs) ++ el (xs ++ [x]) xs.length := by
 rw [List.length_append, List.length_singleton, List.range_succ, List.flatMap_append, List.flatMap_singleton]
 congr 1
 rw [List.flatMap_def, List.flatMap_def]
 congr 1
 exact List.map_congr_left fun j hj => h1 j (List.mem_range.1 hj)
theorem zBd {α : Type} {d x : α} (xs : List α) {k : Nat} (h : k < xs.length) : (xs ++ [x]).getD k d = xs.getD k d := by
 simp [List.getD_eq_getElem?_getD, List.getElem?_append_left h]
theorem zBe {α : Type} {d x : α} (xs : List α) : (xs ++ [x]).getD xs.length d = x := by simp [List.getD_eq_getElem?_getD]
theorem zNh (xs : List Ac) (x : Ac) : (List.range (xs ++ [x]).length).flatMap (acl (xs ++ [x])) = (List.range xs.length).flatMap (acl xs) ++ x.cells := by
 rw [zA8 (fun k hk => congrArg Ac.cells (zBd xs hk))]
 exact congrArg (_ ++ ·) (congrArg Ac.cells (zBe xs))
theorem zLy {w0 w : World} {G : zI} {br pr : Nat} {s : ByteArray} {p : Rs} {g : FuncId} {caps : List Value} (P : Ac → List Nat → Prop) (hP : ∀ x l, P x l → l ≠ []) (hg : Ent Tryz.prog g) (hgt : Gt w0 G br pr s g caps (fun x : Ac => .agg x.cells.toArray) P)
  (hp : p.pos ≤ s.size) (hs : s.size ≤ 16777216) (H : St w0 (rd pr s p :: sr br pr s p.bad :: G) w) :
  Calls Tryz.prog 121 [ptr br, .func (.func g) #[] caps.toArray].toArray w (zf (LR br pr s G p 70 2 acl P) w0) := by
 have hlen := zP s
 refine enter [.tmp 4] Tryz.func121 rfl Tryz.ntmps121 rfl rfl ?_
 repeat' (first | refine y1 sg ?_ | refine y3 ?_ | refine y7 sg H ?_ | (refine' y33 zAk ?_ ?_; rotate_left 2; exact zAR s.size (by omega) hp (by omega) H; rintro v N w ⟨x, p1, rfl, rfl, ⟨hx0, hx1⟩, hS1⟩ H) | (with_reducible first | apply zB | apply zD | apply zC | apply zE) | refine zA ?_ | fail)
 obtain ⟨n, rfl⟩ : ∃ n : Nat, x = (n : Int) := ⟨x.toNat, by omega⟩
 refine zK [(4, 8), (15, 33)] (fun y : List Ac × Option Addr × Nat × zI × Rs => [(5, .slice y.2.1 y.1.length y.2.2.1), (15, .int .i64 (y.1.length : Int))]) (fun y w => St w0 (rd pr s y.2.2.2.2 :: sr br pr s y.2.2.2.2.bad :: (y.2.2.2.1 ++ G)) w ∧ Own y.2.2.2.1 70 2 y.2.1 y.1.length y.2.2.1 ((List.range y.1.length).flatMap (acl y.1)) ∧ y.1.length ≤ n ∧ ListAt (zN s) P p1 y.2.2.2.2 n y.1) (fun y => n - y.1.length) ([], none, 0, [], p1) ⟨rfl, rfl, trivial⟩ ⟨H, zAG _ _ _, Nat.zero_le _, zd hS1.inv⟩ ?_
 clear H
 rintro ⟨xs, a, cap, M, pk⟩ gh w ⟨H, hO, hk, hL⟩
 simp only at H hO hk hL ⊢
 by_cases hkn : xs.length < n
 ·have hd : decide ((xs.length : Int) < (n : Int)) = true := decide_eq_true (by omega)
  have hpk := hL.inv
  repeat' (first | refine y1 sg ?_ | refine y3 ?_ | refine y7 sg H ?_ | (refine y10 sg H ?_; intro b w H) | (refine y11 sg H ?_; intro w H) | (refine zAL rfl rfl (zAH hg rfl rfl rfl) (hgt (M ++ G) pk _ (List.subset_append_right _ _) (by omega) H) ?_; rintro v N w ⟨x, p', rfl, rfl, -, hS⟩ H) | (refine' y30 zDM ?_ ?_; rotate_left; exact zB9 H.mem (by repeat (first | exact List.Mem.head _ | exact List.mem_append_right _ (List.Mem.head _) | refine List.Mem.tail _ ?_)); intro w hcl; replace H := H.ext hcl; clear hcl) | (refine z14 sg H ?_; intro b w H) | (have hp := H.perm (zAo M G); refine zi sg 2 200 (M := M) hp rfl rfl rfl rfl rfl rfl rfl rfl rfl rfl rfl hO (zk hp.mem (List.mem_append_right _ (List.Mem.head _))) rfl (zAh rfl) (by unfold maxLen; omega) (by omega) ?_; clear hp hO; intro a cap M w hO H; replace H := ((H.perm (zAo M G).symm).sub (List.sublist_cons_self _ _)).sub (List.sublist_cons_self _ _)) | (with_reducible first | apply zB | apply zD | apply zC | apply zE | apply zF | apply zG | apply zO | apply zW) | refine zA ?_ | (refine y23 ?_ ?_; all_goals (intro h; try (exfalso; first | ((rw [hd] at h; cases h); done)))) | fail)
  ·exact zU (vs := [_]) ⟨zZ rfl, trivial⟩ (H.sub ((List.Sublist.cons _ (((List.sublist_append_right M G).cons_cons _).cons_cons _)))) ⟨[], p', none, 0, [], rfl, rfl, zAG _ _ _, Nat.zero_le _, hL.fail hP (Nat.le_of_eq hlen) (by omega) hS1 hkn hS (by simpa using h)⟩
  ·exact zJ (xs ++ [x], a, cap, M, p') rfl ⟨by rw [List.length_append]; rfl, by rw [List.length_append]; exact zT (by omega), trivial⟩ ⟨H, by rw [zNh, List.length_append]; exact hO, by rw [List.length_append]; exact hkn, hL.next hS hkn⟩ (by rw [List.length_append, List.length_singleton]; omega)
 ·have hd : decide ((xs.length : Int) < (n : Int)) = false := decide_eq_false (by omega)
  repeat' (first | refine y1 sg ?_ | (with_reducible first | apply zB | apply zD | apply zC | apply zF | apply zL | apply zS) | refine zA ?_ | refine y24 ?_ | (refine y23 ?_ ?_; all_goals (intro h; try (exfalso; first | ((rw [hd] at h; cases h); done)))) | fail)
  exact zU (vs := [_]) ⟨zZ rfl, trivial⟩ H ⟨xs, pk, a, cap, M, rfl, rfl, hO, by omega, hL.done hP (Nat.le_of_eq hlen) (by omega) hS1 (by omega)⟩
theorem zNi (xs : List Ins) (x : Ins) : (List.range (xs ++ [x]).length).flatMap (ing (xs ++ [x])) = (List.range xs.length).flatMap (ing xs) ++ x.cells := by
 rw [zA8 (fun k hk => congrArg Ins.cells (zBd xs hk))]
 exact congrArg (_ ++ ·) (congrArg Ins.cells (zBe xs))
theorem zLz {w0 w : World} {G : zI} {br pr : Nat} {s : ByteArray} {p : Rs} {g : FuncId} {caps : List Value} (P : Ins → List Nat → Prop) (hP : ∀ x l, P x l → l ≠ []) (hg : Ent Tryz.prog g) (hgt : Gt w0 G br pr s g caps (fun x : Ins => .agg x.cells.toArray) P)
  (hp : p.pos ≤ s.size) (hs : s.size ≤ 16777216) (H : St w0 (rd pr s p :: sr br pr s p.bad :: G) w) :
  Calls Tryz.prog 125 [ptr br, .func (.func g) #[] caps.toArray].toArray w (zf (LR br pr s G p 72 3 ing P) w0) := by
 have hlen := zP s
 refine enter [.tmp 4] Tryz.func125 rfl Tryz.ntmps125 rfl rfl ?_
 repeat' (first | refine y1 sg ?_ | refine y3 ?_ | refine y7 sg H ?_ | (refine' y33 zAk ?_ ?_; rotate_left 2; exact zAR s.size (by omega) hp (by omega) H; rintro v N w ⟨x, p1, rfl, rfl, ⟨hx0, hx1⟩, hS1⟩ H) | (with_reducible first | apply zB | apply zD | apply zC | apply zE) | refine zA ?_ | fail)
 obtain ⟨n, rfl⟩ : ∃ n : Nat, x = (n : Int) := ⟨x.toNat, by omega⟩
 refine zK [(4, 8), (15, 33)] (fun y : List Ins × Option Addr × Nat × zI × Rs => [(5, .slice y.2.1 y.1.length y.2.2.1), (15, .int .i64 (y.1.length : Int))]) (fun y w => St w0 (rd pr s y.2.2.2.2 :: sr br pr s y.2.2.2.2.bad :: (y.2.2.2.1 ++ G)) w ∧ Own y.2.2.2.1 72 3 y.2.1 y.1.length y.2.2.1 ((List.range y.1.length).flatMap (ing y.1)) ∧ y.1.length ≤ n ∧ ListAt (zN s) P p1 y.2.2.2.2 n y.1) (fun y => n - y.1.length) ([], none, 0, [], p1) ⟨rfl, rfl, trivial⟩ ⟨H, zAG _ _ _, Nat.zero_le _, zd hS1.inv⟩ ?_
 clear H
 rintro ⟨xs, a, cap, M, pk⟩ gh w ⟨H, hO, hk, hL⟩
 simp only at H hO hk hL ⊢
 by_cases hkn : xs.length < n
 ·have hd : decide ((xs.length : Int) < (n : Int)) = true := decide_eq_true (by omega)
  have hpk := hL.inv
  repeat' (first | refine y1 sg ?_ | refine y3 ?_ | refine y7 sg H ?_ | (refine y10 sg H ?_; intro b w H) | (refine y11 sg H ?_; intro w H) | (refine zAL rfl rfl (zAH hg rfl rfl rfl) (hgt (M ++ G) pk _ (List.subset_append_right _ _) (by omega) H) ?_; rintro v N w ⟨x, p', rfl, rfl, -, hS⟩ H) | (refine' y30 zDM ?_ ?_; rotate_left; exact zB9 H.mem (by repeat (first | exact List.Mem.head _ | exact List.mem_append_right _ (List.Mem.head _) | refine List.Mem.tail _ ?_)); intro w hcl; replace H := H.ext hcl; clear hcl) | (refine z14 sg H ?_; intro b w H) | (have hp := H.perm (zAo M G); refine zi sg 3 200 (M := M) hp rfl rfl rfl rfl rfl rfl rfl rfl rfl rfl rfl hO (zk hp.mem (List.mem_append_right _ (List.Mem.head _))) rfl (zAh rfl) (by unfold maxLen; omega) (by omega) ?_; clear hp hO; intro a cap M w hO H; replace H := ((H.perm (zAo M G).symm).sub (List.sublist_cons_self _ _)).sub (List.sublist_cons_self _ _)) | (with_reducible first | apply zB | apply zD | apply zC | apply zE | apply zF | apply zG | apply zO | apply zW) | refine zA ?_ | (refine y23 ?_ ?_; all_goals (intro h; try (exfalso; first | ((rw [hd] at h; cases h); done)))) | fail)
  ·exact zU (vs := [_]) ⟨zZ rfl, trivial⟩ (H.sub ((List.Sublist.cons _ (((List.sublist_append_right M G).cons_cons _).cons_cons _)))) ⟨[], p', none, 0, [], rfl, rfl, zAG _ _ _, Nat.zero_le _, hL.fail hP (Nat.le_of_eq hlen) (by omega) hS1 hkn hS (by simpa using h)⟩
  ·exact zJ (xs ++ [x], a, cap, M, p') rfl ⟨by rw [List.length_append]; rfl, by rw [List.length_append]; exact zT (by omega), trivial⟩ ⟨H, by rw [zNi, List.length_append]; exact hO, by rw [List.length_append]; exact hkn, hL.next hS hkn⟩ (by rw [List.length_append, List.length_singleton]; omega)
 ·have hd : decide ((xs.length : Int) < (n : Int)) = false := decide_eq_false (by omega)
  repeat' (first | refine y1 sg ?_ | (with_reducible first | apply zB | apply zD | apply zC | apply zF | apply zL | apply zS) | refine zA ?_ | refine y24 ?_ | (refine y23 ?_ ?_; all_goals (intro h; try (exfalso; first | ((rw [hd] at h; cases h); done)))) | fail)
  exact zU (vs := [_]) ⟨zZ rfl, trivial⟩ H ⟨xs, pk, a, cap, M, rfl, rfl, hO, by omega, hL.done hP (Nat.le_of_eq hlen) (by omega) hS1 (by omega)⟩
theorem zNj (xs : List Row4) (x : Row4) : (List.range (xs ++ [x]).length).flatMap (rwl (xs ++ [x])) = (List.range xs.length).flatMap (rwl xs) ++ x.cells := by
 rw [zA8 (fun k hk => congrArg Row4.cells (zBd xs hk))]
 exact congrArg (_ ++ ·) (congrArg Row4.cells (zBe xs))
theorem zL0 {w0 w : World} {G : zI} {br pr : Nat} {s : ByteArray} {p : Rs} {g : FuncId} {caps : List Value} (P : Row4 → List Nat → Prop) (hP : ∀ x l, P x l → l ≠ []) (hg : Ent Tryz.prog g) (hgt : Gt w0 G br pr s g caps (fun x : Row4 => .agg x.cells.toArray) P)
  (hp : p.pos ≤ s.size) (hs : s.size ≤ 16777216) (H : St w0 (rd pr s p :: sr br pr s p.bad :: G) w) :
  Calls Tryz.prog 127 [ptr br, .func (.func g) #[] caps.toArray].toArray w (zf (LR br pr s G p 74 4 rwl P) w0) := by
 have hlen := zP s
 refine enter [.tmp 4] Tryz.func127 rfl Tryz.ntmps127 rfl rfl ?_
 repeat' (first | refine y1 sg ?_ | refine y3 ?_ | refine y7 sg H ?_ | (refine' y33 zAk ?_ ?_; rotate_left 2; exact zAR s.size (by omega) hp (by omega) H; rintro v N w ⟨x, p1, rfl, rfl, ⟨hx0, hx1⟩, hS1⟩ H) | (with_reducible first | apply zB | apply zD | apply zC | apply zE) | refine zA ?_ | fail)
 obtain ⟨n, rfl⟩ : ∃ n : Nat, x = (n : Int) := ⟨x.toNat, by omega⟩
 refine zK [(4, 8), (15, 33)] (fun y : List Row4 × Option Addr × Nat × zI × Rs => [(5, .slice y.2.1 y.1.length y.2.2.1), (15, .int .i64 (y.1.length : Int))]) (fun y w => St w0 (rd pr s y.2.2.2.2 :: sr br pr s y.2.2.2.2.bad :: (y.2.2.2.1 ++ G)) w ∧ Own y.2.2.2.1 74 4 y.2.1 y.1.length y.2.2.1 ((List.range y.1.length).flatMap (rwl y.1)) ∧ y.1.length ≤ n ∧ ListAt (zN s) P p1 y.2.2.2.2 n y.1) (fun y => n - y.1.length) ([], none, 0, [], p1) ⟨rfl, rfl, trivial⟩ ⟨H, zAG _ _ _, Nat.zero_le _, zd hS1.inv⟩ ?_
 clear H
 rintro ⟨xs, a, cap, M, pk⟩ gh w ⟨H, hO, hk, hL⟩
 simp only at H hO hk hL ⊢
 by_cases hkn : xs.length < n
 ·have hd : decide ((xs.length : Int) < (n : Int)) = true := decide_eq_true (by omega)
  have hpk := hL.inv
  repeat' (first | refine y1 sg ?_ | refine y3 ?_ | refine y7 sg H ?_ | (refine y10 sg H ?_; intro b w H) | (refine y11 sg H ?_; intro w H) | (refine zAL rfl rfl (zAH hg rfl rfl rfl) (hgt (M ++ G) pk _ (List.subset_append_right _ _) (by omega) H) ?_; rintro v N w ⟨x, p', rfl, rfl, -, hS⟩ H) | (refine' y30 zDM ?_ ?_; rotate_left; exact zB9 H.mem (by repeat (first | exact List.Mem.head _ | exact List.mem_append_right _ (List.Mem.head _) | refine List.Mem.tail _ ?_)); intro w hcl; replace H := H.ext hcl; clear hcl) | (refine z14 sg H ?_; intro b w H) | (have hp := H.perm (zAo M G); refine zi sg 4 200 (M := M) hp rfl rfl rfl rfl rfl rfl rfl rfl rfl rfl rfl hO (zk hp.mem (List.mem_append_right _ (List.Mem.head _))) rfl (zAh rfl) (by unfold maxLen; omega) (by omega) ?_; clear hp hO; intro a cap M w hO H; replace H := ((H.perm (zAo M G).symm).sub (List.sublist_cons_self _ _)).sub (List.sublist_cons_self _ _)) | (with_reducible first | apply zB | apply zD | apply zC | apply zE | apply zF | apply zG | apply zO | apply zW) | refine zA ?_ | (refine y23 ?_ ?_; all_goals (intro h; try (exfalso; first | ((rw [hd] at h; cases h); done)))) | fail)
  ·exact zU (vs := [_]) ⟨zZ rfl, trivial⟩ (H.sub ((List.Sublist.cons _ (((List.sublist_append_right M G).cons_cons _).cons_cons _)))) ⟨[], p', none, 0, [], rfl, rfl, zAG _ _ _, Nat.zero_le _, hL.fail hP (Nat.le_of_eq hlen) (by omega) hS1 hkn hS (by simpa using h)⟩
  ·exact zJ (xs ++ [x], a, cap, M, p') rfl ⟨by rw [List.length_append]; rfl, by rw [List.length_append]; exact zT (by omega), trivial⟩ ⟨H, by rw [zNj, List.length_append]; exact hO, by rw [List.length_append]; exact hkn, hL.next hS hkn⟩ (by rw [List.length_append, List.length_singleton]; omega)
 ·have hd : decide ((xs.length : Int) < (n : Int)) = false := decide_eq_false (by omega)
  repeat' (first | refine y1 sg ?_ | (with_reducible first | apply zB | apply zD | apply zC | apply zF | apply zL | apply zS) | refine zA ?_ | refine y24 ?_ | (refine y23 ?_ ?_; all_goals (intro h; try (exfalso; first | ((rw [hd] at h; cases h); done)))) | fail)
  exact zU (vs := [_]) ⟨zZ rfl, trivial⟩ H ⟨xs, pk, a, cap, M, rfl, rfl, hO, by omega, hL.done hP (Nat.le_of_eq hlen) (by omega) hS1 (by omega)⟩
theorem zNk (xs : List Odr) (x : Odr) : (List.range (xs ++ [x]).length).flatMap (odl (xs ++ [x])) = (List.range xs.length).flatMap (odl xs) ++ x.cells := by
 rw [zA8 (fun k hk => congrArg Odr.cells (zBd xs hk))]
 exact congrArg (_ ++ ·) (congrArg Odr.cells (zBe xs))
theorem zL1 {w0 w : World} {G : zI} {br pr : Nat} {s : ByteArray} {p : Rs} {g : FuncId} {caps : List Value} (P : Odr → List Nat → Prop) (hP : ∀ x l, P x l → l ≠ []) (hg : Ent Tryz.prog g) (hgt : Gt w0 G br pr s g caps (fun x : Odr => .agg x.cells.toArray) P)
  (hp : p.pos ≤ s.size) (hs : s.size ≤ 16777216) (H : St w0 (rd pr s p :: sr br pr s p.bad :: G) w) :
  Calls Tryz.prog 130 [ptr br, .func (.func g) #[] caps.toArray].toArray w (zf (LR br pr s G p 76 6 odl P) w0) := by
 have hlen := zP s
 refine enter [.tmp 4] Tryz.func130 rfl Tryz.ntmps130 rfl rfl ?_
 repeat' (first | refine y1 sg ?_ | refine y3 ?_ | refine y7 sg H ?_ | (refine' y33 zAk ?_ ?_; rotate_left 2; exact zAR s.size (by omega) hp (by omega) H; rintro v N w ⟨x, p1, rfl, rfl, ⟨hx0, hx1⟩, hS1⟩ H) | (with_reducible first | apply zB | apply zD | apply zC | apply zE) | refine zA ?_ | fail)
 obtain ⟨n, rfl⟩ : ∃ n : Nat, x = (n : Int) := ⟨x.toNat, by omega⟩
 refine zK [(4, 8), (15, 33)] (fun y : List Odr × Option Addr × Nat × zI × Rs => [(5, .slice y.2.1 y.1.length y.2.2.1), (15, .int .i64 (y.1.length : Int))]) (fun y w => St w0 (rd pr s y.2.2.2.2 :: sr br pr s y.2.2.2.2.bad :: (y.2.2.2.1 ++ G)) w ∧ Own y.2.2.2.1 76 6 y.2.1 y.1.length y.2.2.1 ((List.range y.1.length).flatMap (odl y.1)) ∧ y.1.length ≤ n ∧ ListAt (zN s) P p1 y.2.2.2.2 n y.1) (fun y => n - y.1.length) ([], none, 0, [], p1) ⟨rfl, rfl, trivial⟩ ⟨H, zAG _ _ _, Nat.zero_le _, zd hS1.inv⟩ ?_
 clear H
 rintro ⟨xs, a, cap, M, pk⟩ gh w ⟨H, hO, hk, hL⟩
 simp only at H hO hk hL ⊢
 by_cases hkn : xs.length < n
 ·have hd : decide ((xs.length : Int) < (n : Int)) = true := decide_eq_true (by omega)
  have hpk := hL.inv
  repeat' (first | refine y1 sg ?_ | refine y3 ?_ | refine y7 sg H ?_ | (refine y10 sg H ?_; intro b w H) | (refine y11 sg H ?_; intro w H) | (refine zAL rfl rfl (zAH hg rfl rfl rfl) (hgt (M ++ G) pk _ (List.subset_append_right _ _) (by omega) H) ?_; rintro v N w ⟨x, p', rfl, rfl, -, hS⟩ H) | (refine' y30 zDM ?_ ?_; rotate_left; exact zB9 H.mem (by repeat (first | exact List.Mem.head _ | exact List.mem_append_right _ (List.Mem.head _) | refine List.Mem.tail _ ?_)); intro w hcl; replace H := H.ext hcl; clear hcl) | (refine z14 sg H ?_; intro b w H) | (have hp := H.perm (zAo M G); refine zi sg 6 200 (M := M) hp rfl rfl rfl rfl rfl rfl rfl rfl rfl rfl rfl hO (zk hp.mem (List.mem_append_right _ (List.Mem.head _))) rfl (zAh rfl) (by unfold maxLen; omega) (by omega) ?_; clear hp hO; intro a cap M w hO H; replace H := ((H.perm (zAo M G).symm).sub (List.sublist_cons_self _ _)).sub (List.sublist_cons_self _ _)) | (with_reducible first | apply zB | apply zD | apply zC | apply zE | apply zF | apply zG | apply zO | apply zW) | refine zA ?_ | (refine y23 ?_ ?_; all_goals (intro h; try (exfalso; first | ((rw [hd] at h; cases h); done)))) | fail)
  ·exact zU (vs := [_]) ⟨zZ rfl, trivial⟩ (H.sub ((List.Sublist.cons _ (((List.sublist_append_right M G).cons_cons _).cons_cons _)))) ⟨[], p', none, 0, [], rfl, rfl, zAG _ _ _, Nat.zero_le _, hL.fail hP (Nat.le_of_eq hlen) (by omega) hS1 hkn hS (by simpa using h)⟩
  ·exact zJ (xs ++ [x], a, cap, M, p') rfl ⟨by rw [List.length_append]; rfl, by rw [List.length_append]; exact zT (by omega), trivial⟩ ⟨H, by rw [zNk, List.length_append]; exact hO, by rw [List.length_append]; exact hkn, hL.next hS hkn⟩ (by rw [List.length_append, List.length_singleton]; omega)
 ·have hd : decide ((xs.length : Int) < (n : Int)) = false := decide_eq_false (by omega)
  repeat' (first | refine y1 sg ?_ | (with_reducible first | apply zB | apply zD | apply zC | apply zF | apply zL | apply zS) | refine zA ?_ | refine y24 ?_ | (refine y23 ?_ ?_; all_goals (intro h; try (exfalso; first | ((rw [hd] at h; cases h); done)))) | fail)
  exact zU (vs := [_]) ⟨zZ rfl, trivial⟩ H ⟨xs, pk, a, cap, M, rfl, rfl, hO, by omega, hL.done hP (Nat.le_of_eq hlen) (by omega) hS1 (by omega)⟩
theorem zNl (xs : List Bid) (x : Bid) : (List.range (xs ++ [x]).length).flatMap (bel (xs ++ [x])) = (List.range xs.length).flatMap (bel xs) ++ x.cells := by
 rw [zA8 (fun k hk => congrArg Bid.cells (zBd xs hk))]
 exact congrArg (_ ++ ·) (congrArg Bid.cells (zBe xs))
theorem zL2 {w0 w : World} {G : zI} {br pr : Nat} {s : ByteArray} {p : Rs} {g : FuncId} {caps : List Value} (P : Bid → List Nat → Prop) (hP : ∀ x l, P x l → l ≠ []) (hg : Ent Tryz.prog g) (hgt : Gt w0 G br pr s g caps (fun x : Bid => .agg x.cells.toArray) P)
  (hp : p.pos ≤ s.size) (hs : s.size ≤ 16777216) (H : St w0 (rd pr s p :: sr br pr s p.bad :: G) w) :
  Calls Tryz.prog 135 [ptr br, .func (.func g) #[] caps.toArray].toArray w (zf (LR br pr s G p 78 2 bel P) w0) := by
 have hlen := zP s
 refine enter [.tmp 4] Tryz.func135 rfl Tryz.ntmps135 rfl rfl ?_
 repeat' (first | refine y1 sg ?_ | refine y3 ?_ | refine y7 sg H ?_ | (refine' y33 zAk ?_ ?_; rotate_left 2; exact zAR s.size (by omega) hp (by omega) H; rintro v N w ⟨x, p1, rfl, rfl, ⟨hx0, hx1⟩, hS1⟩ H) | (with_reducible first | apply zB | apply zD | apply zC | apply zE) | refine zA ?_ | fail)
 obtain ⟨n, rfl⟩ : ∃ n : Nat, x = (n : Int) := ⟨x.toNat, by omega⟩
 refine zK [(4, 8), (15, 33)] (fun y : List Bid × Option Addr × Nat × zI × Rs => [(5, .slice y.2.1 y.1.length y.2.2.1), (15, .int .i64 (y.1.length : Int))]) (fun y w => St w0 (rd pr s y.2.2.2.2 :: sr br pr s y.2.2.2.2.bad :: (y.2.2.2.1 ++ G)) w ∧ Own y.2.2.2.1 78 2 y.2.1 y.1.length y.2.2.1 ((List.range y.1.length).flatMap (bel y.1)) ∧ y.1.length ≤ n ∧ ListAt (zN s) P p1 y.2.2.2.2 n y.1) (fun y => n - y.1.length) ([], none, 0, [], p1) ⟨rfl, rfl, trivial⟩ ⟨H, zAG _ _ _, Nat.zero_le _, zd hS1.inv⟩ ?_
 clear H
 rintro ⟨xs, a, cap, M, pk⟩ gh w ⟨H, hO, hk, hL⟩
 simp only at H hO hk hL ⊢
 by_cases hkn : xs.length < n
 ·have hd : decide ((xs.length : Int) < (n : Int)) = true := decide_eq_true (by omega)
  have hpk := hL.inv
  repeat' (first | refine y1 sg ?_ | refine y3 ?_ | refine y7 sg H ?_ | (refine y10 sg H ?_; intro b w H) | (refine y11 sg H ?_; intro w H) | (refine zAL rfl rfl (zAH hg rfl rfl rfl) (hgt (M ++ G) pk _ (List.subset_append_right _ _) (by omega) H) ?_; rintro v N w ⟨x, p', rfl, rfl, -, hS⟩ H) | (refine' y30 zDM ?_ ?_; rotate_left; exact zB9 H.mem (by repeat (first | exact List.Mem.head _ | exact List.mem_append_right _ (List.Mem.head _) | refine List.Mem.tail _ ?_)); intro w hcl; replace H := H.ext hcl; clear hcl) | (refine z14 sg H ?_; intro b w H) | (have hp := H.perm (zAo M G); refine zi sg 2 200 (M := M) hp rfl rfl rfl rfl rfl rfl rfl rfl rfl rfl rfl hO (zk hp.mem (List.mem_append_right _ (List.Mem.head _))) rfl (zAh rfl) (by unfold maxLen; omega) (by omega) ?_; clear hp hO; intro a cap M w hO H; replace H := ((H.perm (zAo M G).symm).sub (List.sublist_cons_self _ _)).sub (List.sublist_cons_self _ _)) | (with_reducible first | apply zB | apply zD | apply zC | apply zE | apply zF | apply zG | apply zO | apply zW) | refine zA ?_ | (refine y23 ?_ ?_; all_goals (intro h; try (exfalso; first | ((rw [hd] at h; cases h); done)))) | fail)
  ·exact zU (vs := [_]) ⟨zZ rfl, trivial⟩ (H.sub ((List.Sublist.cons _ (((List.sublist_append_right M G).cons_cons _).cons_cons _)))) ⟨[], p', none, 0, [], rfl, rfl, zAG _ _ _, Nat.zero_le _, hL.fail hP (Nat.le_of_eq hlen) (by omega) hS1 hkn hS (by simpa using h)⟩
  ·exact zJ (xs ++ [x], a, cap, M, p') rfl ⟨by rw [List.length_append]; rfl, by rw [List.length_append]; exact zT (by omega), trivial⟩ ⟨H, by rw [zNl, List.length_append]; exact hO, by rw [List.length_append]; exact hkn, hL.next hS hkn⟩ (by rw [List.length_append, List.length_singleton]; omega)
 ·have hd : decide ((xs.length : Int) < (n : Int)) = false := decide_eq_false (by omega)
  repeat' (first | refine y1 sg ?_ | (with_reducible first | apply zB | apply zD | apply zC | apply zF | apply zL | apply zS) | refine zA ?_ | refine y24 ?_ | (refine y23 ?_ ?_; all_goals (intro h; try (exfalso; first | ((rw [hd] at h; cases h); done)))) | fail)
  exact zU (vs := [_]) ⟨zZ rfl, trivial⟩ H ⟨xs, pk, a, cap, M, rfl, rfl, hO, by omega, hL.done hP (Nat.le_of_eq hlen) (by omega) hS1 (by omega)⟩
theorem zNm (xs : List Opn) (x : Opn) : (List.range (xs ++ [x]).length).flatMap (opl (xs ++ [x])) = (List.range xs.length).flatMap (opl xs) ++ x.cells := by
 rw [zA8 (fun k hk => congrArg Opn.cells (zBd xs hk))]
 exact congrArg (_ ++ ·) (congrArg Opn.cells (zBe xs))
theorem zL3 {w0 w : World} {G : zI} {br pr : Nat} {s : ByteArray} {p : Rs} {g : FuncId} {caps : List Value} (P : Opn → List Nat → Prop) (hP : ∀ x l, P x l → l ≠ []) (hg : Ent Tryz.prog g) (hgt : Gt w0 G br pr s g caps (fun x : Opn => .agg x.cells.toArray) P)
  (hp : p.pos ≤ s.size) (hs : s.size ≤ 16777216) (H : St w0 (rd pr s p :: sr br pr s p.bad :: G) w) :
  Calls Tryz.prog 137 [ptr br, .func (.func g) #[] caps.toArray].toArray w (zf (LR br pr s G p 83 6 opl P) w0) := by
 have hlen := zP s
 refine enter [.tmp 4] Tryz.func137 rfl Tryz.ntmps137 rfl rfl ?_
 repeat' (first | refine y1 sg ?_ | refine y3 ?_ | refine y7 sg H ?_ | (refine' y33 zAk ?_ ?_; rotate_left 2; exact zAR s.size (by omega) hp (by omega) H; rintro v N w ⟨x, p1, rfl, rfl, ⟨hx0, hx1⟩, hS1⟩ H) | (with_reducible first | apply zB | apply zD | apply zC | apply zE) | refine zA ?_ | fail)
 obtain ⟨n, rfl⟩ : ∃ n : Nat, x = (n : Int) := ⟨x.toNat, by omega⟩
 refine zK [(4, 8), (15, 33)] (fun y : List Opn × Option Addr × Nat × zI × Rs => [(5, .slice y.2.1 y.1.length y.2.2.1), (15, .int .i64 (y.1.length : Int))]) (fun y w => St w0 (rd pr s y.2.2.2.2 :: sr br pr s y.2.2.2.2.bad :: (y.2.2.2.1 ++ G)) w ∧ Own y.2.2.2.1 83 6 y.2.1 y.1.length y.2.2.1 ((List.range y.1.length).flatMap (opl y.1)) ∧ y.1.length ≤ n ∧ ListAt (zN s) P p1 y.2.2.2.2 n y.1) (fun y => n - y.1.length) ([], none, 0, [], p1) ⟨rfl, rfl, trivial⟩ ⟨H, zAG _ _ _, Nat.zero_le _, zd hS1.inv⟩ ?_
 clear H
 rintro ⟨xs, a, cap, M, pk⟩ gh w ⟨H, hO, hk, hL⟩
 simp only at H hO hk hL ⊢
 by_cases hkn : xs.length < n
 ·have hd : decide ((xs.length : Int) < (n : Int)) = true := decide_eq_true (by omega)
  have hpk := hL.inv
  repeat' (first | refine y1 sg ?_ | refine y3 ?_ | refine y7 sg H ?_ | (refine y10 sg H ?_; intro b w H) | (refine y11 sg H ?_; intro w H) | (refine zAL rfl rfl (zAH hg rfl rfl rfl) (hgt (M ++ G) pk _ (List.subset_append_right _ _) (by omega) H) ?_; rintro v N w ⟨x, p', rfl, rfl, -, hS⟩ H) | (refine' y30 zDM ?_ ?_; rotate_left; exact zB9 H.mem (by repeat (first | exact List.Mem.head _ | exact List.mem_append_right _ (List.Mem.head _) | refine List.Mem.tail _ ?_)); intro w hcl; replace H := H.ext hcl; clear hcl) | (refine z14 sg H ?_; intro b w H) | (have hp := H.perm (zAo M G); refine zi sg 6 200 (M := M) hp rfl rfl rfl rfl rfl rfl rfl rfl rfl rfl rfl hO (zk hp.mem (List.mem_append_right _ (List.Mem.head _))) rfl (zAh rfl) (by unfold maxLen; omega) (by omega) ?_; clear hp hO; intro a cap M w hO H; replace H := ((H.perm (zAo M G).symm).sub (List.sublist_cons_self _ _)).sub (List.sublist_cons_self _ _)) | (with_reducible first | apply zB | apply zD | apply zC | apply zE | apply zF | apply zG | apply zO | apply zW) | refine zA ?_ | (refine y23 ?_ ?_; all_goals (intro h; try (exfalso; first | ((rw [hd] at h; cases h); done)))) | fail)
  ·exact zU (vs := [_]) ⟨zZ rfl, trivial⟩ (H.sub ((List.Sublist.cons _ (((List.sublist_append_right M G).cons_cons _).cons_cons _)))) ⟨[], p', none, 0, [], rfl, rfl, zAG _ _ _, Nat.zero_le _, hL.fail hP (Nat.le_of_eq hlen) (by omega) hS1 hkn hS (by simpa using h)⟩
  ·exact zJ (xs ++ [x], a, cap, M, p') rfl ⟨by rw [List.length_append]; rfl, by rw [List.length_append]; exact zT (by omega), trivial⟩ ⟨H, by rw [zNm, List.length_append]; exact hO, by rw [List.length_append]; exact hkn, hL.next hS hkn⟩ (by rw [List.length_append, List.length_singleton]; omega)
 ·have hd : decide ((xs.length : Int) < (n : Int)) = false := decide_eq_false (by omega)
  repeat' (first | refine y1 sg ?_ | (with_reducible first | apply zB | apply zD | apply zC | apply zF | apply zL | apply zS) | refine zA ?_ | refine y24 ?_ | (refine y23 ?_ ?_; all_goals (intro h; try (exfalso; first | ((rw [hd] at h; cases h); done)))) | fail)
  exact zU (vs := [_]) ⟨zZ rfl, trivial⟩ H ⟨xs, pk, a, cap, M, rfl, rfl, hO, by omega, hL.done hP (Nat.le_of_eq hlen) (by omega) hS1 (by omega)⟩
theorem zNn (xs : List Lt) (x : Lt) : (List.range (xs ++ [x]).length).flatMap (ltl (xs ++ [x])) = (List.range xs.length).flatMap (ltl xs) ++ x.cells := by
 rw [zA8 (fun k hk => congrArg Lt.cells (zBd xs hk))]
 exact congrArg (_ ++ ·) (congrArg Lt.cells (zBe xs))
theorem zL4 {w0 w : World} {G : zI} {br pr : Nat} {s : ByteArray} {p : Rs} {g : FuncId} {caps : List Value} (P : Lt → List Nat → Prop) (hP : ∀ x l, P x l → l ≠ []) (hg : Ent Tryz.prog g) (hgt : Gt w0 G br pr s g caps (fun x : Lt => .agg x.cells.toArray) P)
  (hp : p.pos ≤ s.size) (hs : s.size ≤ 16777216) (H : St w0 (rd pr s p :: sr br pr s p.bad :: G) w) :
  Calls Tryz.prog 139 [ptr br, .func (.func g) #[] caps.toArray].toArray w (zf (LR br pr s G p 85 4 ltl P) w0) := by
 have hlen := zP s
 refine enter [.tmp 4] Tryz.func139 rfl Tryz.ntmps139 rfl rfl ?_
 repeat' (first | refine y1 sg ?_ | refine y3 ?_ | refine y7 sg H ?_ | (refine' y33 zAk ?_ ?_; rotate_left 2; exact zAR s.size (by omega) hp (by omega) H; rintro v N w ⟨x, p1, rfl, rfl, ⟨hx0, hx1⟩, hS1⟩ H) | (with_reducible first | apply zB | apply zD | apply zC | apply zE) | refine zA ?_ | fail)
 obtain ⟨n, rfl⟩ : ∃ n : Nat, x = (n : Int) := ⟨x.toNat, by omega⟩
 refine zK [(4, 8), (15, 33)] (fun y : List Lt × Option Addr × Nat × zI × Rs => [(5, .slice y.2.1 y.1.length y.2.2.1), (15, .int .i64 (y.1.length : Int))]) (fun y w => St w0 (rd pr s y.2.2.2.2 :: sr br pr s y.2.2.2.2.bad :: (y.2.2.2.1 ++ G)) w ∧ Own y.2.2.2.1 85 4 y.2.1 y.1.length y.2.2.1 ((List.range y.1.length).flatMap (ltl y.1)) ∧ y.1.length ≤ n ∧ ListAt (zN s) P p1 y.2.2.2.2 n y.1) (fun y => n - y.1.length) ([], none, 0, [], p1) ⟨rfl, rfl, trivial⟩ ⟨H, zAG _ _ _, Nat.zero_le _, zd hS1.inv⟩ ?_
 clear H
 rintro ⟨xs, a, cap, M, pk⟩ gh w ⟨H, hO, hk, hL⟩
 simp only at H hO hk hL ⊢
 by_cases hkn : xs.length < n
 ·have hd : decide ((xs.length : Int) < (n : Int)) = true := decide_eq_true (by omega)
  have hpk := hL.inv
  repeat' (first | refine y1 sg ?_ | refine y3 ?_ | refine y7 sg H ?_ | (refine y10 sg H ?_; intro b w H) | (refine y11 sg H ?_; intro w H) | (refine zAL rfl rfl (zAH hg rfl rfl rfl) (hgt (M ++ G) pk _ (List.subset_append_right _ _) (by omega) H) ?_; rintro v N w ⟨x, p', rfl, rfl, -, hS⟩ H) | (refine' y30 zDM ?_ ?_; rotate_left; exact zB9 H.mem (by repeat (first | exact List.Mem.head _ | exact List.mem_append_right _ (List.Mem.head _) | refine List.Mem.tail _ ?_)); intro w hcl; replace H := H.ext hcl; clear hcl) | (refine z14 sg H ?_; intro b w H) | (have hp := H.perm (zAo M G); refine zi sg 4 200 (M := M) hp rfl rfl rfl rfl rfl rfl rfl rfl rfl rfl rfl hO (zk hp.mem (List.mem_append_right _ (List.Mem.head _))) rfl (zAh rfl) (by unfold maxLen; omega) (by omega) ?_; clear hp hO; intro a cap M w hO H; replace H := ((H.perm (zAo M G).symm).sub (List.sublist_cons_self _ _)).sub (List.sublist_cons_self _ _)) | (with_reducible first | apply zB | apply zD | apply zC | apply zE | apply zF | apply zG | apply zO | apply zW) | refine zA ?_ | (refine y23 ?_ ?_; all_goals (intro h; try (exfalso; first | ((rw [hd] at h; cases h); done)))) | fail)
  ·exact zU (vs := [_]) ⟨zZ rfl, trivial⟩ (H.sub ((List.Sublist.cons _ (((List.sublist_append_right M G).cons_cons _).cons_cons _)))) ⟨[], p', none, 0, [], rfl, rfl, zAG _ _ _, Nat.zero_le _, hL.fail hP (Nat.le_of_eq hlen) (by omega) hS1 hkn hS (by simpa using h)⟩
  ·exact zJ (xs ++ [x], a, cap, M, p') rfl ⟨by rw [List.length_append]; rfl, by rw [List.length_append]; exact zT (by omega), trivial⟩ ⟨H, by rw [zNn, List.length_append]; exact hO, by rw [List.length_append]; exact hkn, hL.next hS hkn⟩ (by rw [List.length_append, List.length_singleton]; omega)
 ·have hd : decide ((xs.length : Int) < (n : Int)) = false := decide_eq_false (by omega)
  repeat' (first | refine y1 sg ?_ | (with_reducible first | apply zB | apply zD | apply zC | apply zF | apply zL | apply zS) | refine zA ?_ | refine y24 ?_ | (refine y23 ?_ ?_; all_goals (intro h; try (exfalso; first | ((rw [hd] at h; cases h); done)))) | fail)
  exact zU (vs := [_]) ⟨zZ rfl, trivial⟩ H ⟨xs, pk, a, cap, M, rfl, rfl, hO, by omega, hL.done hP (Nat.le_of_eq hlen) (by omega) hS1 (by omega)⟩
theorem zNo (xs : List Psn) (x : Psn) : (List.range (xs ++ [x]).length).flatMap (psl (xs ++ [x])) = (List.range xs.length).flatMap (psl xs) ++ x.cells := by
 rw [zA8 (fun k hk => congrArg Psn.cells (zBd xs hk))]
 exact congrArg (_ ++ ·) (congrArg Psn.cells (zBe xs))
theorem zL5 {w0 w : World} {G : zI} {br pr : Nat} {s : ByteArray} {p : Rs} {g : FuncId} {caps : List Value} (P : Psn → List Nat → Prop) (hP : ∀ x l, P x l → l ≠ []) (hg : Ent Tryz.prog g) (hgt : Gt w0 G br pr s g caps (fun x : Psn => .agg x.cells.toArray) P)
  (hp : p.pos ≤ s.size) (hs : s.size ≤ 16777216) (H : St w0 (rd pr s p :: sr br pr s p.bad :: G) w) :
  Calls Tryz.prog 141 [ptr br, .func (.func g) #[] caps.toArray].toArray w (zf (LR br pr s G p 87 6 psl P) w0) := by
 have hlen := zP s
 refine enter [.tmp 4] Tryz.func141 rfl Tryz.ntmps141 rfl rfl ?_
 repeat' (first | refine y1 sg ?_ | refine y3 ?_ | refine y7 sg H ?_ | (refine' y33 zAk ?_ ?_; rotate_left 2; exact zAR s.size (by omega) hp (by omega) H; rintro v N w ⟨x, p1, rfl, rfl, ⟨hx0, hx1⟩, hS1⟩ H) | (with_reducible first | apply zB | apply zD | apply zC | apply zE) | refine zA ?_ | fail)
 obtain ⟨n, rfl⟩ : ∃ n : Nat, x = (n : Int) := ⟨x.toNat, by omega⟩
 refine zK [(4, 8), (15, 33)] (fun y : List Psn × Option Addr × Nat × zI × Rs => [(5, .slice y.2.1 y.1.length y.2.2.1), (15, .int .i64 (y.1.length : Int))]) (fun y w => St w0 (rd pr s y.2.2.2.2 :: sr br pr s y.2.2.2.2.bad :: (y.2.2.2.1 ++ G)) w ∧ Own y.2.2.2.1 87 6 y.2.1 y.1.length y.2.2.1 ((List.range y.1.length).flatMap (psl y.1)) ∧ y.1.length ≤ n ∧ ListAt (zN s) P p1 y.2.2.2.2 n y.1) (fun y => n - y.1.length) ([], none, 0, [], p1) ⟨rfl, rfl, trivial⟩ ⟨H, zAG _ _ _, Nat.zero_le _, zd hS1.inv⟩ ?_
 clear H
 rintro ⟨xs, a, cap, M, pk⟩ gh w ⟨H, hO, hk, hL⟩
 simp only at H hO hk hL ⊢
 by_cases hkn : xs.length < n
 ·have hd : decide ((xs.length : Int) < (n : Int)) = true := decide_eq_true (by omega)
  have hpk := hL.inv
  repeat' (first | refine y1 sg ?_ | refine y3 ?_ | refine y7 sg H ?_ | (refine y10 sg H ?_; intro b w H) | (refine y11 sg H ?_; intro w H) | (refine zAL rfl rfl (zAH hg rfl rfl rfl) (hgt (M ++ G) pk _ (List.subset_append_right _ _) (by omega) H) ?_; rintro v N w ⟨x, p', rfl, rfl, -, hS⟩ H) | (refine' y30 zDM ?_ ?_; rotate_left; exact zB9 H.mem (by repeat (first | exact List.Mem.head _ | exact List.mem_append_right _ (List.Mem.head _) | refine List.Mem.tail _ ?_)); intro w hcl; replace H := H.ext hcl; clear hcl) | (refine z14 sg H ?_; intro b w H) | (have hp := H.perm (zAo M G); refine zi sg 6 200 (M := M) hp rfl rfl rfl rfl rfl rfl rfl rfl rfl rfl rfl hO (zk hp.mem (List.mem_append_right _ (List.Mem.head _))) rfl (zAh rfl) (by unfold maxLen; omega) (by omega) ?_; clear hp hO; intro a cap M w hO H; replace H := ((H.perm (zAo M G).symm).sub (List.sublist_cons_self _ _)).sub (List.sublist_cons_self _ _)) | (with_reducible first | apply zB | apply zD | apply zC | apply zE | apply zF | apply zG | apply zO | apply zW) | refine zA ?_ | (refine y23 ?_ ?_; all_goals (intro h; try (exfalso; first | ((rw [hd] at h; cases h); done)))) | fail)
  ·exact zU (vs := [_]) ⟨zZ rfl, trivial⟩ (H.sub ((List.Sublist.cons _ (((List.sublist_append_right M G).cons_cons _).cons_cons _)))) ⟨[], p', none, 0, [], rfl, rfl, zAG _ _ _, Nat.zero_le _, hL.fail hP (Nat.le_of_eq hlen) (by omega) hS1 hkn hS (by simpa using h)⟩
  ·exact zJ (xs ++ [x], a, cap, M, p') rfl ⟨by rw [List.length_append]; rfl, by rw [List.length_append]; exact zT (by omega), trivial⟩ ⟨H, by rw [zNo, List.length_append]; exact hO, by rw [List.length_append]; exact hkn, hL.next hS hkn⟩ (by rw [List.length_append, List.length_singleton]; omega)
 ·have hd : decide ((xs.length : Int) < (n : Int)) = false := decide_eq_false (by omega)
  repeat' (first | refine y1 sg ?_ | (with_reducible first | apply zB | apply zD | apply zC | apply zF | apply zL | apply zS) | refine zA ?_ | refine y24 ?_ | (refine y23 ?_ ?_; all_goals (intro h; try (exfalso; first | ((rw [hd] at h; cases h); done)))) | fail)
  exact zU (vs := [_]) ⟨zZ rfl, trivial⟩ H ⟨xs, pk, a, cap, M, rfl, rfl, hO, by omega, hL.done hP (Nat.le_of_eq hlen) (by omega) hS1 (by omega)⟩
theorem zNp (xs : List Ln) (x : Ln) : (List.range (xs ++ [x]).length).flatMap (lnl (xs ++ [x])) = (List.range xs.length).flatMap (lnl xs) ++ x.cells := by
 rw [zA8 (fun k hk => congrArg Ln.cells (zBd xs hk))]
 exact congrArg (_ ++ ·) (congrArg Ln.cells (zBe xs))
theorem zL6 {w0 w : World} {G : zI} {br pr : Nat} {s : ByteArray} {p : Rs} {g : FuncId} {caps : List Value} (P : Ln → List Nat → Prop) (hP : ∀ x l, P x l → l ≠ []) (hg : Ent Tryz.prog g) (hgt : Gt w0 G br pr s g caps (fun x : Ln => .agg x.cells.toArray) P)
  (hp : p.pos ≤ s.size) (hs : s.size ≤ 16777216) (H : St w0 (rd pr s p :: sr br pr s p.bad :: G) w) :
  Calls Tryz.prog 143 [ptr br, .func (.func g) #[] caps.toArray].toArray w (zf (LR br pr s G p 52 5 lnl P) w0) := by
 have hlen := zP s
 refine enter [.tmp 4] Tryz.func143 rfl Tryz.ntmps143 rfl rfl ?_
 repeat' (first | refine y1 sg ?_ | refine y3 ?_ | refine y7 sg H ?_ | (refine' y33 zAk ?_ ?_; rotate_left 2; exact zAR s.size (by omega) hp (by omega) H; rintro v N w ⟨x, p1, rfl, rfl, ⟨hx0, hx1⟩, hS1⟩ H) | (with_reducible first | apply zB | apply zD | apply zC | apply zE) | refine zA ?_ | fail)
 obtain ⟨n, rfl⟩ : ∃ n : Nat, x = (n : Int) := ⟨x.toNat, by omega⟩
 refine zK [(4, 8), (15, 33)] (fun y : List Ln × Option Addr × Nat × zI × Rs => [(5, .slice y.2.1 y.1.length y.2.2.1), (15, .int .i64 (y.1.length : Int))]) (fun y w => St w0 (rd pr s y.2.2.2.2 :: sr br pr s y.2.2.2.2.bad :: (y.2.2.2.1 ++ G)) w ∧ Own y.2.2.2.1 52 5 y.2.1 y.1.length y.2.2.1 ((List.range y.1.length).flatMap (lnl y.1)) ∧ y.1.length ≤ n ∧ ListAt (zN s) P p1 y.2.2.2.2 n y.1) (fun y => n - y.1.length) ([], none, 0, [], p1) ⟨rfl, rfl, trivial⟩ ⟨H, zAG _ _ _, Nat.zero_le _, zd hS1.inv⟩ ?_
 clear H
 rintro ⟨xs, a, cap, M, pk⟩ gh w ⟨H, hO, hk, hL⟩
 simp only at H hO hk hL ⊢
 by_cases hkn : xs.length < n
 ·have hd : decide ((xs.length : Int) < (n : Int)) = true := decide_eq_true (by omega)
  have hpk := hL.inv
  repeat' (first | refine y1 sg ?_ | refine y3 ?_ | refine y7 sg H ?_ | (refine y10 sg H ?_; intro b w H) | (refine y11 sg H ?_; intro w H) | (refine zAL rfl rfl (zAH hg rfl rfl rfl) (hgt (M ++ G) pk _ (List.subset_append_right _ _) (by omega) H) ?_; rintro v N w ⟨x, p', rfl, rfl, -, hS⟩ H) | (refine' y30 zDM ?_ ?_; rotate_left; exact zB9 H.mem (by repeat (first | exact List.Mem.head _ | exact List.mem_append_right _ (List.Mem.head _) | refine List.Mem.tail _ ?_)); intro w hcl; replace H := H.ext hcl; clear hcl) | (refine z14 sg H ?_; intro b w H) | (have hp := H.perm (zAo M G); refine zi sg 5 200 (M := M) hp rfl rfl rfl rfl rfl rfl rfl rfl rfl rfl rfl hO (zk hp.mem (List.mem_append_right _ (List.Mem.head _))) rfl (zAh rfl) (by unfold maxLen; omega) (by omega) ?_; clear hp hO; intro a cap M w hO H; replace H := ((H.perm (zAo M G).symm).sub (List.sublist_cons_self _ _)).sub (List.sublist_cons_self _ _)) | (with_reducible first | apply zB | apply zD | apply zC | apply zE | apply zF | apply zG | apply zO | apply zW) | refine zA ?_ | (refine y23 ?_ ?_; all_goals (intro h; try (exfalso; first | ((rw [hd] at h; cases h); done)))) | fail)
  ·exact zU (vs := [_]) ⟨zZ rfl, trivial⟩ (H.sub ((List.Sublist.cons _ (((List.sublist_append_right M G).cons_cons _).cons_cons _)))) ⟨[], p', none, 0, [], rfl, rfl, zAG _ _ _, Nat.zero_le _, hL.fail hP (Nat.le_of_eq hlen) (by omega) hS1 hkn hS (by simpa using h)⟩
  ·exact zJ (xs ++ [x], a, cap, M, p') rfl ⟨by rw [List.length_append]; rfl, by rw [List.length_append]; exact zT (by omega), trivial⟩ ⟨H, by rw [zNp, List.length_append]; exact hO, by rw [List.length_append]; exact hkn, hL.next hS hkn⟩ (by rw [List.length_append, List.length_singleton]; omega)
 ·have hd : decide ((xs.length : Int) < (n : Int)) = false := decide_eq_false (by omega)
  repeat' (first | refine y1 sg ?_ | (with_reducible first | apply zB | apply zD | apply zC | apply zF | apply zL | apply zS) | refine zA ?_ | refine y24 ?_ | (refine y23 ?_ ?_; all_goals (intro h; try (exfalso; first | ((rw [hd] at h; cases h); done)))) | fail)
  exact zU (vs := [_]) ⟨zZ rfl, trivial⟩ H ⟨xs, pk, a, cap, M, rfl, rfl, hO, by omega, hL.done hP (Nat.le_of_eq hlen) (by omega) hS1 (by omega)⟩
end Go.Proofs.YtggolnppckpdlaaGreat
