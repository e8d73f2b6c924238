/- Texts of ours, joined: the steps of the proof, or the claim's theorem. -/
import Derived.Test.YtggolnppckpdlaaGreatT06
import Derived.Test.YtggolnppckpdlaaGreatT13
set_option linter.unusedSimpArgs false
set_option linter.unusedVariables false
namespace Go.Proofs.YtggolnppckpdlaaGreat
open Go Go.Sk Go.RowKit
attribute [local irreducible] Go.Calls
def zBE (d : Int) : Int := if d > 0 then IntKind.i64.wrap (2 * d) else IntKind.i64.wrap (IntKind.i64.wrap (-2 * d) - 1)
theorem nb (xs : List Int) : (zX xs).length ≤ 10 * xs.length := zDz xs
theorem c_fold (d : Int) (w : World) : Calls Tryz.prog 112 [.int .i64 d].toArray w (Ret (.int .i64 (zBE d)) w) := by
 refine enter [.tmp 2] Tryz.func112 rfl Tryz.ntmps112 rfl rfl ?_
 have H := zE w
 repeat' (first | refine y1 sg ?_ | (with_reducible first | apply zB | apply zD | apply zC | apply zG | apply zH | apply zP) | refine zA ?_ | (refine y23 ?_ ?_; all_goals intro h) | fail)
 ·exact zO rfl H.cl (congrArg (Value.int .i64) (by unfold zBE; rw [if_pos (of_decide_eq_true h)]))
 ·exact zO rfl H.cl (congrArg (Value.int .i64) (by unfold zBE; rw [if_neg (of_decide_eq_false h)]))
def zx (r : Row4) : Row4 := if r.acct = 0 then { r with free := IntKind.i64.wrap (0 - r.free) } else r
theorem zKy (r : Row4) (w0 : World) : Calls Tryz.prog 96 [.agg r.cells.toArray].toArray w0 (Ret (.agg (zx r).cells.toArray) w0) := by
 refine enter [.cell 2 74] Tryz.func96 rfl Tryz.ntmps96 rfl rfl ?_
 have H := zE w0
 repeat' (first | refine y1 sg ?_ | refine y3 ?_ | refine y7 sg H ?_ | (refine y9 H ?_; intro b w H) | (refine y10 sg H ?_; intro b w H) | (refine y11 sg H ?_; intro w H) | (with_reducible first | apply zB | apply zD | apply zC | apply zG | apply zH) | refine zA ?_ | (refine y23 ?_ ?_; all_goals intro h) | fail)
 ·exact zCj (vs := [_]) ⟨zAb sg rfl H.mem (List.Mem.head _) rfl rfl, trivial⟩ H.cl (by unfold zx; rw [if_pos (eqI h)]; rfl)
 ·exact zCj (vs := [_]) ⟨zAb sg rfl H.mem (List.Mem.head _) rfl rfl, trivial⟩ H.cl (by unfold zx; rw [if_neg (neI h)]; rfl)
def zDm (x : Ac) : List Nat := (short x.name.size ++ zT x.name) ++ zk x.opn
theorem zPC {w0 : World} {G : zI} {pw bw : Nat} {B : Nat} (hB : B ≤ 17592186044416) (hm : cb bw [ptr pw] 88 ∈ G) (x : Ac) (hx : x.name.size ≤ 1000000) : One w0 G pw 89 [ptr bw] (.agg x.cells.toArray) (zDm x) B := by
 intro M G' l w hG H hM hl
 have := zY (n := (x.name).size) (by omega)
 have := zU (x.name)
 (try simp only [List.length_cons, List.length_nil] at *)
 refine enter [] Tryz.func89 rfl Tryz.ntmps89 rfl rfl ?_
 repeat' (first | refine y1 sg ?_ | refine y3 ?_ | refine y7 sg H ?_ | (refine y9 H ?_; intro b w H) | refine z13 (zJ sg rfl rfl (H.mem.sub (by intro p hp; simp [hp])) (hG hm) rfl rfl) ?_ | (refine' y33 ent90 ?_ ?_; rotate_left 2; exact zKo (x.name) (by omega) (H.perm (zAM M G')) hM (by omega); rintro v N w ⟨rfl, M, rfl, hM⟩ H; replace H := H.perm (zAM M G').symm) | (refine' y33 zMt ?_ ?_; rotate_left 2; exact zJf x.opn (H.perm (zAM M G')) hM (by simp only [List.length_append, zk, List.length_cons, List.length_nil]; omega); rintro v N w ⟨rfl, M, rfl, hM⟩ H; replace H := H.perm (zAM M G').symm) | (with_reducible first | apply zB | apply zD | apply zC) | refine zA ?_ | fail)
 exact zAI (vs := []) trivial (H.sub (List.sublist_cons_self _ _)) ⟨rfl, _, rfl, by simpa only [zDm, List.append_assoc] using hM⟩
def zDZ (x : Ins) : List Nat := (short x.name.size ++ zT x.name) ++ (zX [x.tick] ++ zk x.halted)
theorem zPD {w0 : World} {G : zI} {pw bw : Nat} {B : Nat} (hB : B ≤ 17592186044416) (hm : cb bw [ptr pw] 88 ∈ G) (x : Ins) (hx : x.name.size ≤ 1000000) : One w0 G pw 93 [ptr bw] (.agg x.cells.toArray) (zDZ x) B := by
 intro M G' l w hG H hM hl
 have := zY (n := (x.name).size) (by omega)
 have := zU (x.name)
 have := nb [x.tick]
 (try simp only [List.length_cons, List.length_nil] at *)
 refine enter [] Tryz.func93 rfl Tryz.ntmps93 rfl rfl ?_
 repeat' (first | refine y1 sg ?_ | refine y3 ?_ | refine y7 sg H ?_ | (refine y9 H ?_; intro b w H) | (refine z14 sg H ?_; intro b w H) | refine z13 (zJ sg rfl rfl (H.mem.sub (by intro p hp; simp [hp])) (hG hm) rfl rfl) ?_ | (refine' y33 ent90 ?_ ?_; rotate_left 2; exact zKo (x.name) (by omega) (H.perm (zAM M G')) hM (by omega); rintro v N w ⟨rfl, M, rfl, hM⟩ H; replace H := H.perm (zAM M G').symm) | (refine' y33 zCo ?_ ?_; rotate_left 2; exact zBO [x.tick] (H.perm (zw M G')) hM (zAU _ (List.Mem.head _) (by simp)) (by simp only [List.length_append, zk, List.length_cons, List.length_nil]; omega); rintro v N w ⟨rfl, M, rfl, hM⟩ H; replace H := (H.perm (zw M G').symm).sub (List.sublist_cons_self _ _)) | (refine' y33 zMt ?_ ?_; rotate_left 2; exact zJf x.halted (H.perm (zAM M G')) hM (by simp only [List.length_append, zk, List.length_cons, List.length_nil]; omega); rintro v N w ⟨rfl, M, rfl, hM⟩ H; replace H := H.perm (zAM M G').symm) | (with_reducible first | apply zB | apply zD | apply zC) | refine zA ?_ | fail)
 exact zAI (vs := []) trivial (H.sub (List.sublist_cons_self _ _)) ⟨rfl, _, rfl, by simpa only [zDZ, List.append_assoc] using hM⟩
def zCa (x : Row4) : List Nat := zX [(zx x).acct, (zx x).asset, (zx x).free, (zx x).held]
theorem zPE {w0 : World} {G : zI} {pw bw : Nat} {B : Nat} (hB : B ≤ 17592186044416) (hm : cb bw [ptr pw] 88 ∈ G) (x : Row4) : One w0 G pw 95 [ptr bw] (.agg x.cells.toArray) (zCa x) B := by
 intro M G' l w hG H hM hl
 have := nb [(zx x).acct, (zx x).asset, (zx x).free, (zx x).held]
 (try simp only [List.length_cons, List.length_nil] at *)
 refine enter [] Tryz.func95 rfl Tryz.ntmps95 rfl rfl ?_
 repeat' (first | refine y1 sg ?_ | refine y3 ?_ | refine y7 sg H ?_ | (refine y9 H ?_; intro b w H) | (refine y11 sg H ?_; intro w H) | (refine z14 sg H ?_; intro b w H) | refine z13 (zJ sg rfl rfl (H.mem.sub (by intro p hp; simp [hp])) (hG hm) rfl rfl) ?_ | (refine' y30 ent96 ?_ ?_; rotate_left; exact zKy x _; intro w hcl; replace H := H.ext hcl; clear hcl) | (refine' y33 zCo ?_ ?_; rotate_left 2; exact zBO [(zx x).acct, (zx x).asset, (zx x).free, (zx x).held] (H.perm (zw M G')) hM (zAU _ (List.Mem.head _) (by simp)) (by simp only [List.length_append, zk, List.length_cons, List.length_nil]; omega); rintro v N w ⟨rfl, M, rfl, hM⟩ H; replace H := (H.perm (zw M G').symm).sub (List.sublist_cons_self _ _)) | (with_reducible first | apply zB | apply zD | apply zC) | refine zA ?_ | fail)
 exact zAI (vs := []) trivial (H.sub (List.sublist_cons_self _ _)) ⟨rfl, _, rfl, by simpa only [zCa, List.append_assoc] using hM⟩
def zDa (x : Odr) : List Nat := zX [x.id, x.acct, x.inst] ++ ([x.side.toNat] ++ zX [x.price, x.left])
theorem zPF {w0 : World} {G : zI} {pw bw : Nat} {B : Nat} (hB : B ≤ 17592186044416) (hm : cb bw [ptr pw] 88 ∈ G) (x : Odr) (hx : 0 ≤ x.side ∧ x.side < 256) : One w0 G pw 98 [ptr bw] (.agg x.cells.toArray) (zDa x) B := by
 intro M G' l w hG H hM hl
 have := nb [x.id, x.acct, x.inst]
 have := nb [x.price, x.left]
 (try simp only [List.length_cons, List.length_nil] at *)
 refine enter [] Tryz.func98 rfl Tryz.ntmps98 rfl rfl ?_
 repeat' (first | refine y1 sg ?_ | refine y3 ?_ | refine y7 sg H ?_ | (refine y9 H ?_; intro b w H) | (refine z14 sg H ?_; intro b w H) | refine z13 (zJ sg rfl rfl (H.mem.sub (by intro p hp; simp [hp])) (hG hm) rfl rfl) ?_ | (refine' y33 zCo ?_ ?_; rotate_left 2; exact zBO [x.id, x.acct, x.inst] (H.perm (zw M G')) hM (zAU _ (List.Mem.head _) (by simp)) (by simp only [List.length_append, zk, List.length_cons, List.length_nil]; omega); rintro v N w ⟨rfl, M, rfl, hM⟩ H; replace H := (H.perm (zw M G').symm).sub (List.sublist_cons_self _ _)) | (refine' y33 zGC ?_ ?_; rotate_left 2; exact zJU (x.side).toNat (by omega) (by omega) (H.perm (zAM M G')) hM (by simp only [List.length_append, zk, List.length_cons, List.length_nil]; omega); rintro v N w ⟨rfl, M, rfl, hM⟩ H; replace H := H.perm (zAM M G').symm) | (refine' y33 zCo ?_ ?_; rotate_left 2; exact zBO [x.price, x.left] (H.perm (zw M G')) hM (zAU _ (List.Mem.head _) (by simp)) (by simp only [List.length_append, zk, List.length_cons, List.length_nil]; omega); rintro v N w ⟨rfl, M, rfl, hM⟩ H; replace H := (H.perm (zw M G').symm).sub (List.sublist_cons_self _ _)) | (with_reducible first | apply zB | apply zD | apply zC) | refine zA ?_ | fail)
 exact zAI (vs := []) trivial (H.sub (List.sublist_cons_self _ _)) ⟨rfl, _, rfl, by simpa only [zDa, List.append_assoc] using hM⟩
def zDb (x : Opn) : List Nat := zX [x.acct, x.id, x.inst] ++ ([x.side.toNat] ++ zX [x.price, x.left])
theorem zPG {w0 : World} {G : zI} {pw bw : Nat} {B : Nat} (hB : B ≤ 17592186044416) (hm : cb bw [ptr pw] 88 ∈ G) (x : Opn) (hx : 0 ≤ x.side ∧ x.side < 256) : One w0 G pw 105 [ptr bw] (.agg x.cells.toArray) (zDb x) B := by
 intro M G' l w hG H hM hl
 have := nb [x.acct, x.id, x.inst]
 have := nb [x.price, x.left]
 (try simp only [List.length_cons, List.length_nil] at *)
 refine enter [] Tryz.func105 rfl Tryz.ntmps105 rfl rfl ?_
 repeat' (first | refine y1 sg ?_ | refine y3 ?_ | refine y7 sg H ?_ | (refine y9 H ?_; intro b w H) | (refine z14 sg H ?_; intro b w H) | refine z13 (zJ sg rfl rfl (H.mem.sub (by intro p hp; simp [hp])) (hG hm) rfl rfl) ?_ | (refine' y33 zCo ?_ ?_; rotate_left 2; exact zBO [x.acct, x.id, x.inst] (H.perm (zw M G')) hM (zAU _ (List.Mem.head _) (by simp)) (by simp only [List.length_append, zk, List.length_cons, List.length_nil]; omega); rintro v N w ⟨rfl, M, rfl, hM⟩ H; replace H := (H.perm (zw M G').symm).sub (List.sublist_cons_self _ _)) | (refine' y33 zGC ?_ ?_; rotate_left 2; exact zJU (x.side).toNat (by omega) (by omega) (H.perm (zAM M G')) hM (by simp only [List.length_append, zk, List.length_cons, List.length_nil]; omega); rintro v N w ⟨rfl, M, rfl, hM⟩ H; replace H := H.perm (zAM M G').symm) | (refine' y33 zCo ?_ ?_; rotate_left 2; exact zBO [x.price, x.left] (H.perm (zw M G')) hM (zAU _ (List.Mem.head _) (by simp)) (by simp only [List.length_append, zk, List.length_cons, List.length_nil]; omega); rintro v N w ⟨rfl, M, rfl, hM⟩ H; replace H := (H.perm (zw M G').symm).sub (List.sublist_cons_self _ _)) | (with_reducible first | apply zB | apply zD | apply zC) | refine zA ?_ | fail)
 exact zAI (vs := []) trivial (H.sub (List.sublist_cons_self _ _)) ⟨rfl, _, rfl, by simpa only [zDb, List.append_assoc] using hM⟩
def zDn (x : Lt) : List Nat := zX [x.id, x.seller, x.inst, x.qty]
theorem zPH {w0 : World} {G : zI} {pw bw : Nat} {B : Nat} (hB : B ≤ 17592186044416) (hm : cb bw [ptr pw] 88 ∈ G) (x : Lt) : One w0 G pw 107 [ptr bw] (.agg x.cells.toArray) (zDn x) B := by
 intro M G' l w hG H hM hl
 have := nb [x.id, x.seller, x.inst, x.qty]
 (try simp only [List.length_cons, List.length_nil] at *)
 refine enter [] Tryz.func107 rfl Tryz.ntmps107 rfl rfl ?_
 repeat' (first | refine y1 sg ?_ | refine y3 ?_ | refine y7 sg H ?_ | (refine y9 H ?_; intro b w H) | (refine z14 sg H ?_; intro b w H) | refine z13 (zJ sg rfl rfl (H.mem.sub (by intro p hp; simp [hp])) (hG hm) rfl rfl) ?_ | (refine' y33 zCo ?_ ?_; rotate_left 2; exact zBO [x.id, x.seller, x.inst, x.qty] (H.perm (zw M G')) hM (zAU _ (List.Mem.head _) (by simp)) (by simp only [List.length_append, zk, List.length_cons, List.length_nil]; omega); rintro v N w ⟨rfl, M, rfl, hM⟩ H; replace H := (H.perm (zw M G').symm).sub (List.sublist_cons_self _ _)) | (with_reducible first | apply zB | apply zD | apply zC) | refine zA ?_ | fail)
 exact zAI (vs := []) trivial (H.sub (List.sublist_cons_self _ _)) ⟨rfl, _, rfl, by simpa only [zDn, List.append_assoc] using hM⟩
def zDo (x : Psn) : List Nat := zX [x.acct, x.inst, x.bought, x.sold, x.spent, x.got]
theorem zPI {w0 : World} {G : zI} {pw bw : Nat} {B : Nat} (hB : B ≤ 17592186044416) (hm : cb bw [ptr pw] 88 ∈ G) (x : Psn) : One w0 G pw 109 [ptr bw] (.agg x.cells.toArray) (zDo x) B := by
 intro M G' l w hG H hM hl
 have := nb [x.acct, x.inst, x.bought, x.sold, x.spent, x.got]
 (try simp only [List.length_cons, List.length_nil] at *)
 refine enter [] Tryz.func109 rfl Tryz.ntmps109 rfl rfl ?_
 repeat' (first | refine y1 sg ?_ | refine y3 ?_ | refine y7 sg H ?_ | (refine y9 H ?_; intro b w H) | (refine z14 sg H ?_; intro b w H) | refine z13 (zJ sg rfl rfl (H.mem.sub (by intro p hp; simp [hp])) (hG hm) rfl rfl) ?_ | (refine' y33 zCo ?_ ?_; rotate_left 2; exact zBO [x.acct, x.inst, x.bought, x.sold, x.spent, x.got] (H.perm (zw M G')) hM (zAU _ (List.Mem.head _) (by simp)) (by simp only [List.length_append, zk, List.length_cons, List.length_nil]; omega); rintro v N w ⟨rfl, M, rfl, hM⟩ H; replace H := (H.perm (zw M G').symm).sub (List.sublist_cons_self _ _)) | (with_reducible first | apply zB | apply zD | apply zC) | refine zA ?_ | fail)
 exact zAI (vs := []) trivial (H.sub (List.sublist_cons_self _ _)) ⟨rfl, _, rfl, by simpa only [zDo, List.append_assoc] using hM⟩
def zDc (x : Ln) : List Nat := zX [x.acct, x.seq] ++ ([x.kind.toNat] ++ zX [zBE x.delta, x.bal])
theorem zPJ {w0 : World} {G : zI} {pw bw : Nat} {B : Nat} (hB : B ≤ 17592186044416) (hm : cb bw [ptr pw] 88 ∈ G) (x : Ln) (hx : 0 ≤ x.kind ∧ x.kind < 256) : One w0 G pw 111 [ptr bw] (.agg x.cells.toArray) (zDc x) B := by
 intro M G' l w hG H hM hl
 have := nb [x.acct, x.seq]
 have := nb [zBE x.delta, x.bal]
 (try simp only [List.length_cons, List.length_nil] at *)
 refine enter [] Tryz.func111 rfl Tryz.ntmps111 rfl rfl ?_
 repeat' (first | refine y1 sg ?_ | refine y3 ?_ | refine y7 sg H ?_ | (refine y9 H ?_; intro b w H) | (refine z14 sg H ?_; intro b w H) | refine z13 (zJ sg rfl rfl (H.mem.sub (by intro p hp; simp [hp])) (hG hm) rfl rfl) ?_ | (refine' y33 zCo ?_ ?_; rotate_left 2; exact zBO [x.acct, x.seq] (H.perm (zw M G')) hM (zAU _ (List.Mem.head _) (by simp)) (by simp only [List.length_append, zk, List.length_cons, List.length_nil]; omega); rintro v N w ⟨rfl, M, rfl, hM⟩ H; replace H := (H.perm (zw M G').symm).sub (List.sublist_cons_self _ _)) | (refine' y33 zGC ?_ ?_; rotate_left 2; exact zJU (x.kind).toNat (by omega) (by omega) (H.perm (zAM M G')) hM (by simp only [List.length_append, zk, List.length_cons, List.length_nil]; omega); rintro v N w ⟨rfl, M, rfl, hM⟩ H; replace H := H.perm (zAM M G').symm) | (refine zAE zZ 8 ?_ ?_; exact rfl; intro w hcl; replace H := H.ext hcl; clear hcl) | ((with_reducible apply zBc); decide +kernel) | (refine' z8 1 ?_ ?_; rotate_left; first | exact z9 sg) | (refine' z8 4 ?_ ?_; rotate_left; first | exact z9 sg) | refine z10 0 ?_ | refine z10 2 ?_ | refine z10 3 ?_ | refine z10 5 ?_ | refine z10 6 ?_ | refine z10 7 ?_ | refine z11 0 2 ?_ ?_ | refine z11 0 3 ?_ ?_ | refine z11 0 5 ?_ ?_ | refine z11 2 5 ?_ ?_ | refine z11 3 5 ?_ ?_ | refine z11 0 6 ?_ ?_ | ((with_reducible apply RA.c3 0 2 5); exact rfl; decide +kernel; exact rfl; exact rfl; exact rfl) | ((with_reducible apply RA.c3 0 3 5); exact rfl; decide +kernel; exact rfl; exact rfl; exact rfl) | (refine' y30 ent112 ?_ ?_; rotate_left; exact c_fold x.delta _; intro w hcl; replace H := H.ext hcl; clear hcl) | (refine' y33 zCo ?_ ?_; rotate_left 2; exact zBO [zBE x.delta, x.bal] (H.perm (zw M G')) hM (zAU _ (List.Mem.head _) (by simp)) (by simp only [List.length_append, zk, List.length_cons, List.length_nil]; omega); rintro v N w ⟨rfl, M, rfl, hM⟩ H; replace H := (H.perm (zw M G').symm).sub (List.sublist_cons_self _ _)) | (with_reducible first | apply zB | apply zD | apply zC) | refine zA ?_ | fail)
 all_goals exact zAI (vs := []) trivial (H.sub (List.sublist_cons_self _ _)) ⟨rfl, _, rfl, by simpa only [zDc, List.append_assoc] using hM⟩
def zDd (x : Bid) : List Nat := zX [x.acct, x.amount]
theorem zPK {w0 : World} {G : zI} {pw bw : Nat} {B : Nat} (hB : B ≤ 17592186044416) (hm : cb bw [ptr pw] 88 ∈ G) (x : Bid) : One w0 G pw 103 [ptr bw] (.agg x.cells.toArray) (zDd x) B := by
 intro M G' l w hG H hM hl
 have := nb [x.acct, x.amount]
 (try simp only [List.length_cons, List.length_nil] at *)
 refine enter [] Tryz.func103 rfl Tryz.ntmps103 rfl rfl ?_
 repeat' (first | refine y1 sg ?_ | refine y3 ?_ | refine y7 sg H ?_ | (refine y9 H ?_; intro b w H) | (refine z14 sg H ?_; intro b w H) | refine z13 (zJ sg rfl rfl (H.mem.sub (by intro p hp; simp [hp])) (hG hm) rfl rfl) ?_ | (refine' y33 zCo ?_ ?_; rotate_left 2; exact zBO [x.acct, x.amount] (H.perm (zw M G')) hM (zAU _ (List.Mem.head _) (by simp)) (by simp only [List.length_append, zk, List.length_cons, List.length_nil]; omega); rintro v N w ⟨rfl, M, rfl, hM⟩ H; replace H := (H.perm (zw M G').symm).sub (List.sublist_cons_self _ _)) | (with_reducible first | apply zB | apply zD | apply zC) | refine zA ?_ | fail)
 exact zAI (vs := []) trivial (H.sub (List.sublist_cons_self _ _)) ⟨rfl, _, rfl, by simpa only [zDd, List.append_assoc] using hM⟩
end Go.Proofs.YtggolnppckpdlaaGreat
set_option linter.unusedSimpArgs false
set_option linter.unusedVariables false
namespace Go.Proofs.YtggolnppckpdlaaGreat
open Go Go.Sk Go.RowKit
attribute [local irreducible] Go.Calls
abbrev sr (br pr : Nat) (s : ByteArray) (b : Bool) : Nat × Obj := cb br [ptr pr, .int .i64 (s.size : Int), .bool b] 121
def zAn (most : Nat) (x : Int) (l : List Nat) : Prop := 0 ≤ x ∧ x ≤ most ∧ l = short (zAX x)
def SR {α : Type} (br pr : Nat) (s : ByteArray) (G : zI) (p : Rs) (enc : α → Value) (P : α → List Nat → Prop) (ok : α → Prop) : zI → Value → Prop :=
 fun N v => ∃ (x : α) (p' : Rs), v = enc x ∧ N = rd pr s p' :: sr br pr s p'.bad :: G ∧ ok x ∧ Step (zT s) P p p' x
theorem Step.num {B : List Nat} {p p' : Rs} {x most : Nat} (hm : most < 18446744073709551616) (h : Step B (zNN most) p p' x) : Step B (zAn most) p p' (x : Int) := by
 refine ⟨h.inv, fun hl => ?_, fun hl y l r hy hr => ?_⟩
 ·obtain ⟨h1, l, ⟨h2, rfl⟩, h3⟩ := h.snd hl
  exact ⟨h1, _, ⟨by omega, by omega, by rw [zAx (by omega) (by omega)]; simp⟩, h3⟩
 ·obtain ⟨h1, h2, rfl⟩ := hy
  obtain ⟨e1, e2, e3⟩ := h.cpl hl y.toNat _ r ⟨by omega, rfl⟩ (by rw [hr, zAx h1 (by omega)])
  exact ⟨e1, by omega, e3⟩
theorem zAT {w0 w : World} {G : zI} {br pr : Nat} {s : ByteArray} {p : Rs} (n : Nat) (hn : n ≤ 1073741824) (hp : p.pos ≤ s.size) (hs : s.size ≤ 1073741824) (H : St w0 (rd pr s p :: sr br pr s p.bad :: G) w) :
  Calls Tryz.prog 129 [ptr br, .int .i64 (n : Int)].toArray w (zy (SR br pr s G p (Value.int .i64) (zAn n) (fun x => 0 ≤ x ∧ x ≤ n)) w0) := by
 refine enter [.tmp 4] Tryz.func129 rfl Tryz.ntmps129 rfl rfl ?_
 repeat' (first | refine y1 sg ?_ | refine y3 ?_ | refine y7 sg H ?_ | (refine' y33 zJM ?_ ?_; rotate_left 2; exact zGI n (zCH (by omega)) (by omega) hp hs H; rintro v N w ⟨x, p', rfl, rfl, hx, hb, hS⟩ H) | (with_reducible first | apply zB | apply zD | apply zC | apply zG) | refine zA ?_ | fail)
 rw [← hb] at H
 exact zh (vs := [_]) ⟨zp rfl, trivial⟩ H ⟨(x : Int), p', congrArg (Value.int .i64) (w64 (by omega) (by omega)), rfl, ⟨by omega, by omega⟩, hS.num (by omega)⟩
theorem zCx {w0 w : World} {G : zI} {br pr : Nat} {s : ByteArray} {p : Rs} (hp : p.pos ≤ s.size) (hs : s.size ≤ 1073741824) (H : St w0 (rd pr s p :: sr br pr s p.bad :: G) w) :
  Calls Tryz.prog 120 [ptr br].toArray w (zy (SR br pr s G p (Value.int .i64) (zAn 4611686018427387904) (fun x => 0 ≤ x ∧ x ≤ 4611686018427387904)) w0) := by
 refine enter [.tmp 2] Tryz.func120 rfl Tryz.ntmps120 rfl rfl ?_
 repeat' (first | refine y1 sg ?_ | refine y3 ?_ | refine y7 sg H ?_ | (refine' y33 zJM ?_ ?_; rotate_left 2; exact zGI 4611686018427387904 rfl (by omega) hp hs H; rintro v N w ⟨x, p', rfl, rfl, hx, hb, hS⟩ H) | (with_reducible first | apply zB | apply zD | apply zC | apply zG) | refine zA ?_ | fail)
 rw [← hb] at H
 exact zh (vs := [_]) ⟨zp rfl, trivial⟩ H ⟨(x : Int), p', congrArg (Value.int .i64) (w64 (by omega) (by omega)), rfl, ⟨by omega, by omega⟩, hS.num (by omega)⟩
def zHH (b : Bool) (l : List Nat) : Prop := l = zk b
theorem Step.flag {B : List Nat} {p p' : Rs} {x : Nat} (h : Step B (zGv 1) p p' x) (hb : p'.bad = p.bad) (b : Bool) (hbad : b = (p.bad || decide (1 < x))) : Step B zHH p ⟨p'.pos, p'.e, p'.to, b⟩ (decide (x = 1)) := by
 refine ⟨h.inv, fun hl => ?_, fun hl y l r hy hr => ?_⟩
 ·obtain ⟨h1, h2⟩ := hl
  simp only at h1 h2
  rw [hbad] at h2
  have h3 : p.bad = false ∧ ¬ 1 < x := by simpa using h2
  obtain ⟨h4, l, ⟨h5, rfl⟩, h6⟩ := h.snd ⟨h1, hb.trans h3.1⟩
  refine ⟨h4, _, ?_, h6⟩
  rcases (show x = 0 ∨ x = 1 by omega) with rfl | rfl <;> rfl
 ·obtain ⟨e1, e2, e3⟩ := h.cpl hl (if y then 1 else 0) l r ⟨by split <;> decide, by rw [show l = zk y from hy]; cases y <;> rfl⟩ hr
  subst e2
  refine ⟨⟨e1.1, ?_⟩, by cases y <;> rfl, e3⟩
  simp only
  rw [hbad, hl.2]; cases y <;> rfl
theorem zNg (x : Nat) : ((x : Int) == 1) = decide (x = 1) := by by_cases h : x = 1 <;> simp [h] <;> omega
theorem zNh {w0 w : World} {G : zI} {br pr : Nat} {s : ByteArray} {p : Rs} (hp : p.pos ≤ s.size) (hs : s.size ≤ 1073741824) (H : St w0 (rd pr s p :: sr br pr s p.bad :: G) w) :
  Calls Tryz.prog 124 [ptr br].toArray w (zy (SR br pr s G p Value.bool zHH (fun _ => True)) w0) := by
 refine enter [.tmp 2] Tryz.func124 rfl Tryz.ntmps124 rfl rfl ?_
 repeat' (first | refine y1 sg ?_ | refine y3 ?_ | refine y5 sg ?_ | refine y7 sg H ?_ | (refine y11 sg H ?_; intro w H) | (refine' y33 zHi ?_ ?_; rotate_left 2; exact zKp hp hs H; rintro v N w ⟨x, p', rfl, rfl, hx, hb, hS⟩ H) | refine y13 ?_ | refine y14 ?_ | (refine y17 ?_ ?_; all_goals intro h) | (with_reducible first | apply zB | apply zD | apply zC | apply zG) | refine zA ?_ | fail)
 ·exact zh (vs := [_]) ⟨zp rfl, trivial⟩ H ⟨decide (x = 1), ⟨p'.pos, p'.e, p'.to, true⟩, congrArg Value.bool (zNg x), rfl, trivial, hS.flag hb _ (by rw [h, Bool.true_or])⟩
 ·exact zh (vs := [_]) ⟨zp rfl, trivial⟩ H ⟨decide (x = 1), ⟨p'.pos, p'.e, p'.to, decide ((x : Int) > 1)⟩, congrArg Value.bool (zNg x), rfl, trivial, hS.flag hb _ (by rw [h, Bool.false_or]; exact decide_eq_decide.2 (by omega))⟩
def sqP {α β : Type} (P : α → List Nat → Prop) (Q : β → List Nat → Prop) (z : α × β) (l : List Nat) : Prop := ∃ l1 l2, P z.1 l1 ∧ Q z.2 l2 ∧ l = l1 ++ l2
theorem Step.seq {α β : Type} {B : List Nat} {P : α → List Nat → Prop} {Q : β → List Nat → Prop} {p p1 p2 : Rs} {x : α} {y : β} (h1 : Step B P p p1 x) (h2 : Step B Q p1 p2 y) : Step B (sqP P Q) p p2 (x, y) := by
 refine ⟨h2.inv, fun hl => ?_, fun hl z l r hz hr => ?_⟩
 ·obtain ⟨a1, l2, a2, a3⟩ := h2.snd hl
  obtain ⟨b1, l1, b2, b3⟩ := h1.snd a1
  exact ⟨b1, l1 ++ l2, ⟨l1, l2, b2, a2, rfl⟩, by rw [b3, a3, List.append_assoc]⟩
 ·obtain ⟨l1, l2, a1, a2, rfl⟩ := hz
  rw [List.append_assoc] at hr
  obtain ⟨b1, b2, b3⟩ := h1.cpl hl _ _ _ a1 hr
  obtain ⟨c1, c2, c3⟩ := h2.cpl b1 _ _ _ a2 b3
  exact ⟨c1, by rw [b2, c2], c3⟩
theorem Step.map {α β : Type} {B : List Nat} {P : α → List Nat → Prop} {Q : β → List Nat → Prop} {p p' : Rs} {x : α} (f : α → β) (g : β → α) (h : Step B P p p' x) (hPQ : ∀ l, P x l → Q (f x) l) (hQP : ∀ z l, Q z l → f (g z) = z ∧ P (g z) l) : Step B Q p p' (f x) := by
 refine ⟨h.inv, fun hl => ?_, fun hl z l r hz hr => ?_⟩
 ·obtain ⟨a1, l, a2, a3⟩ := h.snd hl
  exact ⟨a1, l, hPQ l a2, a3⟩
 ·obtain ⟨e1, e2⟩ := hQP z l hz
  obtain ⟨c1, c2, c3⟩ := h.cpl hl _ _ _ e2 hr
  exact ⟨c1, by rw [c2, e1], c3⟩
def zC7 {α : Type} (P : α → List Nat → Prop) : List α → List Nat → Prop
 | [], l => l = []
 | x :: xs, l => ∃ l1 l2, P x l1 ∧ zC7 P xs l2 ∧ l = l1 ++ l2
theorem zGO {α : Type} {P : α → List Nat → Prop} {x : α} {l1 : List Nat} : ∀ {xs : List α} {l : List Nat}, zC7 P xs l → P x l1 → zC7 P (xs ++ [x]) (l ++ l1)
 | [], _, rfl, h1 => ⟨l1, [], h1, rfl, by simp⟩
 | y :: ys, _, ⟨a, b, h2, h3, rfl⟩, h1 => ⟨a, b ++ l1, h2, zGO h3 h1, by rw [List.append_assoc]⟩
theorem zD0 {α : Type} {P : α → List Nat → Prop} (hP : ∀ x l, P x l → l ≠ []) : ∀ {xs : List α} {l : List Nat}, zC7 P xs l → xs.length ≤ l.length
 | [], _, _ => Nat.zero_le _
 | y :: ys, _, ⟨a, b, h2, h3, rfl⟩ => by
   have := zD0 hP h3
   have : 0 < a.length := List.length_pos_iff.2 (hP y a h2)
   rw [List.length_append, List.length_cons]; omega
def zA0 {α : Type} (P : α → List Nat → Prop) (xs : List α) (l : List Nat) : Prop := ∃ l2, zC7 P xs l2 ∧ l = short xs.length ++ l2
structure ListAt {α : Type} (B : List Nat) (P : α → List Nat → Prop) (p1 pk : Rs) (n : Nat) (xs : List α) : Prop where
 inv : pk.pos ≤ B.length
 snd : pk.live → p1.live ∧ ∃ l, zC7 P xs l ∧ B.drop p1.pos = l ++ B.drop pk.pos
 cpl : p1.live → ∀ ys l r, zC7 P ys l → ys.length = n → B.drop p1.pos = l ++ r → pk.live ∧ ∃ zs l', ys = xs ++ zs ∧ zC7 P zs l' ∧ B.drop pk.pos = l' ++ r
theorem zAg {α : Type} {B : List Nat} {P : α → List Nat → Prop} {p : Rs} {n : Nat} (h : p.pos ≤ B.length) : ListAt B P p p n ([] : List α) :=
 ⟨h, fun hl => ⟨hl, [], rfl, rfl⟩, fun hl ys l r h1 _ h2 => ⟨hl, ys, l, rfl, h1, h2⟩⟩
theorem ListAt.next {α : Type} {B : List Nat} {P : α → List Nat → Prop} {p1 pk p' : Rs} {n : Nat} {xs : List α} {x : α} (h : ListAt B P p1 pk n xs) (hs : Step B P pk p' x) (hk : xs.length < n) : ListAt B P p1 p' n (xs ++ [x]) := by
 refine ⟨hs.inv, fun hl => ?_, fun hl ys l r h1 h2 h3 => ?_⟩
 ·obtain ⟨a1, l1, a2, a3⟩ := hs.snd hl
  obtain ⟨b1, l, b2, b3⟩ := h.snd a1
  exact ⟨b1, l ++ l1, zGO b2 a2, by rw [b3, a3, List.append_assoc]⟩
 ·obtain ⟨a1, zs, l', rfl, a3, a4⟩ := h.cpl hl ys l r h1 h2 h3
  cases zs with
  | nil => simp at h2; omega
  | cons z zs =>
    obtain ⟨la, lb, b1, b2, rfl⟩ := a3
    rw [List.append_assoc] at a4
    obtain ⟨c1, rfl, c3⟩ := hs.cpl a1 _ _ _ b1 a4
    exact ⟨c1, zs, lb, by simp, b2, c3⟩
theorem ListAt.done {α : Type} {B : List Nat} {P : α → List Nat → Prop} {p p1 pk : Rs} {n most : Nat} {xs : List α} (hP : ∀ x l, P x l → l ≠ []) (hm : B.length ≤ most) (hm2 : most < 1152921504606846976) (h1 : Step B (zAn most) p p1 (n : Int)) (h : ListAt B P p1 pk n xs) (hn : xs.length = n) : Step B (zA0 P) p pk xs := by
 subst hn
 refine ⟨h.inv, fun hl => ?_, fun hl ys l r hy hr => ?_⟩
 ·obtain ⟨a1, l2, a2, a3⟩ := h.snd hl
  obtain ⟨b1, l1, ⟨c1, c2, rfl⟩, b3⟩ := h1.snd a1
  exact ⟨b1, _, ⟨l2, a2, rfl⟩, by rw [b3, a3, zAx (by omega) (by omega), Int.toNat_natCast, List.append_assoc]⟩
 ·obtain ⟨l2, a1, rfl⟩ := hy
  have := zD0 hP a1
  have hle := congrArg List.length hr
  rw [List.length_drop, List.length_append, List.length_append] at hle
  rw [List.append_assoc] at hr
  obtain ⟨b1, b2, b3⟩ := h1.cpl hl (ys.length : Int) _ _ ⟨by omega, by omega, by rw [zAx (by omega) (by omega), Int.toNat_natCast]⟩ hr
  obtain ⟨c1, zs, l', rfl, c3, c4⟩ := h.cpl b1 ys l2 r a1 (by omega) b3
  rw [List.length_append] at b2
  have : zs = [] := List.length_eq_zero_iff.1 (by omega)
  subst this
  cases c3
  exact ⟨c1, by simp, c4⟩
theorem ListAt.fail {α : Type} {B : List Nat} {P : α → List Nat → Prop} {p p1 pk p' : Rs} {n most : Nat} {xs : List α} {x : α} (hP : ∀ x l, P x l → l ≠ []) (hm : B.length ≤ most) (hm2 : most < 1152921504606846976) (h1 : Step B (zAn most) p p1 (n : Int)) (h : ListAt B P p1 pk n xs) (hn : xs.length < n) (hs : Step B P pk p' x) (he : p'.e ≠ 0) : Step B (zA0 P) p p' ([] : List α) := by
 have h' := h.next hs hn
 refine ⟨h'.inv, fun hl => absurd hl.1 he, fun hl ys l r hy hr => ?_⟩
 obtain ⟨l2, a1, rfl⟩ := hy
 have := zD0 hP a1
 have hle := congrArg List.length hr
 rw [List.length_drop, List.length_append, List.length_append] at hle
 rw [List.append_assoc] at hr
 obtain ⟨b1, b2, b3⟩ := h1.cpl hl (ys.length : Int) _ _ ⟨by omega, by omega, by rw [zAx (by omega) (by omega), Int.toNat_natCast]⟩ hr
 exact absurd (h'.cpl b1 ys l2 r a1 (by omega) b3).1.1 he
end Go.Proofs.YtggolnppckpdlaaGreat
set_option linter.unusedSimpArgs false
set_option linter.unusedVariables false
namespace Go.Proofs.YtggolnppckpdlaaGreat
open Go Go.Sk Go.RowKit
attribute [local irreducible] Go.Calls
theorem zNi {x y z : Nat × Obj} (M G : zI) : (x :: y :: z :: (M ++ G)).Perm (M ++ (x :: y :: z :: G)) := by
 have := List.perm_append_comm_assoc [x, y, z] M G
 simpa using this
def zHI (l : List Bid) : List Nat := zAV l.length fun k => zDd (l.getD k default)
def zCy (x : Auc) : List Nat := zX [x.id, x.seller, x.inst] ++ (zk x.sealed ++ (zX [x.qty, x.reserve, x.step, x.fin] ++ zHI x.bids))
theorem zLo {l : List Bid} (h : l.length ≤ 10000) : (zHI l).length ≤ 10 + l.length * 20 := by
 unfold zHI zAV
 have h1 := zi (n := l.length) (ob := fun k => zDd (l.getD k default)) (C := 20) fun k hk => nb [(l.getD k default).acct, (l.getD k default).amount]
 have h2 := zY (n := l.length) (by omega)
 rw [List.length_append]; omega
theorem zGP {x : Auc} (h : x.bids.length ≤ 10000) : (zCy x).length ≤ 200100 := by
 have h1 := zLo h
 have h2 := nb [x.id, x.seller, x.inst]
 have h3 := nb [x.qty, x.reserve, x.step, x.fin]
 simp only [List.length_cons, List.length_nil] at h2 h3
 unfold zCy zk
 simp only [List.length_append, List.length_cons, List.length_nil]
 omega
theorem zPL {w0 : World} {G F : zI} {pw bw B : Nat} (hB : B ≤ 8796093022208) (hF : Mem w0 F) (hm : cb bw [ptr pw] 88 ∈ G) (x : Auc) (a : Option Addr) (cap : Nat) (hs : Bids F a cap x.bids) (hb : x.bids.length ≤ 10000) : One w0 G pw 101 [ptr bw] (.agg (x.cells a cap).toArray) (zCy x) B := by
 intro M G' l w hG H hM hl
 have h1 := nb [x.id, x.seller, x.inst]
 have h2 := nb [x.qty, x.reserve, x.step, x.fin]
 simp only [List.length_cons, List.length_nil] at h1 h2
 refine enter [] Tryz.func101 rfl Tryz.ntmps101 rfl rfl ?_
 repeat' (first | refine y1 sg ?_ | refine y3 ?_ | refine y7 sg H ?_ | (refine y9 H ?_; intro b w H) | (refine z14 sg H ?_; intro b w H) | refine z13 (zJ sg rfl rfl (H.mem.sub (by intro p hp; simp [hp])) (hG hm) rfl rfl) ?_ | (refine' y33 zCo ?_ ?_; rotate_left 2; exact zBO [x.id, x.seller, x.inst] (H.perm (zw M G')) hM (zAU _ (List.Mem.head _) (by simp)) (by simp only [List.length_append, zk, List.length_cons, List.length_nil]; omega); rintro v N w ⟨rfl, M, rfl, hM⟩ H; replace H := (H.perm (zw M G').symm).sub (List.sublist_cons_self _ _)) | (refine' y33 zCo ?_ ?_; rotate_left 2; exact zBO [x.qty, x.reserve, x.step, x.fin] (H.perm (zw M G')) hM (zAU _ (List.Mem.head _) (by simp)) (by simp only [List.length_append, zk, List.length_cons, List.length_nil]; omega); rintro v N w ⟨rfl, M, rfl, hM⟩ H; replace H := (H.perm (zw M G').symm).sub (List.sublist_cons_self _ _)) | (refine' y33 zMt ?_ ?_; rotate_left 2; exact zJf x.sealed (H.perm (zAM M G')) hM (by simp only [List.length_append, zk, List.length_cons, List.length_nil]; omega); rintro v N w ⟨rfl, M, rfl, hM⟩ H; replace H := H.perm (zAM M G').symm) | (refine' y33 ent102 ?_ ?_; rotate_left 2; exact zLj x.bids (fun k => zDd (x.bids.getD k default)) 20 (Nat.le_refl _) hF hs ent103 (fun k hk => zPK (Nat.le_refl _) (List.Mem.tail _ (hG hm)) _) (fun k hk => nb [(x.bids.getD k default).acct, (x.bids.getD k default).amount]) (H.perm (zAM M G')) hM (by simp only [List.length_append, zk, List.length_cons, List.length_nil]; omega); rintro v N w ⟨rfl, M, rfl, hM⟩ H; replace H := H.perm (zAM M G').symm) | (with_reducible first | apply zB | apply zD | apply zC) | refine zA ?_ | fail)
 exact zAI (vs := []) trivial (H.sub (List.sublist_cons_self _ _)) ⟨rfl, _, rfl, by simpa only [zCy, zHI, List.append_assoc] using hM⟩
structure StaB (s : Sta) : Prop where
 ac : s.accts.length ≤ 10000
 acN : ∀ k, k < s.accts.length → (ac_ s.accts k).name.size ≤ 1000
 ins : s.insts.length ≤ 10000
 insN : ∀ k, k < s.insts.length → (in_ s.insts k).name.size ≤ 1000
 rw : s.rows.length ≤ 10000
 od : s.orders.length ≤ 10000
 odS : ∀ k, k < s.orders.length → 0 ≤ (od_ s.orders k).side ∧ (od_ s.orders k).side < 256
 au : s.aucs.length ≤ 10000
 bd : ∀ k, k < s.aucs.length → (s.aucs.getD k default).bids.length ≤ 10000
structure VwB (v : Vws) : Prop where
 op : v.opn.length ≤ 10000
 opS : ∀ k, k < v.opn.length → 0 ≤ (op_ v.opn k).side ∧ (op_ v.opn k).side < 256
 lt : v.lots.length ≤ 10000
 ps : v.poss.length ≤ 10000
 ln : v.lins.length ≤ 10000
 lnK : ∀ k, k < v.lins.length → 0 ≤ (ln_ v.lins k).kind ∧ (ln_ v.lins k).kind < 256
def zAz (s : Sta) : List Nat := zX [s.clock, s.fee, s.nextO, s.nextA] ++ (zAV s.accts.length (fun k => zDm (ac_ s.accts k)) ++ (zAV s.insts.length (fun k => zDZ (in_ s.insts k)) ++ (zAV s.rows.length (fun k => zCa (rw_ s.rows k)) ++ (zAV s.orders.length (fun k => zDa (od_ s.orders k)) ++ zAV s.aucs.length (fun k => zCy (s.aucs.getD k default))))))
def zBA (v : Vws) : List Nat := zAV v.opn.length (fun k => zDb (op_ v.opn k)) ++ (zAV v.lots.length (fun k => zDn (lt_ v.lots k)) ++ (zAV v.poss.length (fun k => zDo (ps_ v.poss k)) ++ zAV v.lins.length (fun k => zDc (ln_ v.lins k))))
theorem zAa {n C : Nat} {ob : Nat → List Nat} (hn : n ≤ 10000) (h : ∀ k, k < n → (ob k).length ≤ C) : (zAV n ob).length ≤ 10 + n * C := by
 unfold zAV
 have h1 := zi h
 have h2 := zY (n := n) (by omega)
 rw [List.length_append]; omega
theorem zEs {x : Ac} (h : x.name.size ≤ 1000) : (zDm x).length ≤ 1011 := by
 have h1 := zY (n := x.name.size) (by omega)
 have h2 := zU x.name
 unfold zDm zk
 simp only [List.length_append, List.length_cons, List.length_nil]; omega
theorem zEt {x : Ins} (h : x.name.size ≤ 1000) : (zDZ x).length ≤ 1021 := by
 have h1 := zY (n := x.name.size) (by omega)
 have h2 := zU x.name
 have h3 := nb [x.tick]
 simp only [List.length_cons, List.length_nil] at h3
 unfold zDZ zk
 simp only [List.length_append, List.length_cons, List.length_nil]; omega
theorem zDp (x : Row4) : (zCa x).length ≤ 40 := nb [_, _, _, _]
theorem zEu (x : Odr) : (zDa x).length ≤ 51 := by
 have h1 := nb [x.id, x.acct, x.inst]
 have h2 := nb [x.price, x.left]
 simp only [List.length_cons, List.length_nil] at h1 h2
 unfold zDa
 simp only [List.length_append, List.length_cons, List.length_nil]; omega
theorem zEv (x : Opn) : (zDb x).length ≤ 51 := by
 have h1 := nb [x.acct, x.id, x.inst]
 have h2 := nb [x.price, x.left]
 simp only [List.length_cons, List.length_nil] at h1 h2
 unfold zDb
 simp only [List.length_append, List.length_cons, List.length_nil]; omega
theorem zEw (x : Lt) : (zDn x).length ≤ 40 := nb [_, _, _, _]
theorem zEx (x : Psn) : (zDo x).length ≤ 60 := nb [_, _, _, _, _, _]
theorem zGQ (x : Ln) : (zDc x).length ≤ 41 := by
 have h1 := nb [x.acct, x.seq]
 have h2 := nb [zBE x.delta, x.bal]
 simp only [List.length_cons, List.length_nil] at h1 h2
 unfold zDc
 simp only [List.length_append, List.length_cons, List.length_nil]; omega
set_option maxHeartbeats 2000000 in
theorem c_put {w0 w : World} {M G F : zI} {pw : Nat} {l : List Nat} (s : Sta) (p : SPt) (hF : Mem w0 F) (hs : StaM F s p) (hb : StaB s) (H : St w0 (M ++ G) w) (hM : Wr M pw l) (hl : l.length ≤ 4398046511104) :
  Calls Tryz.prog 35 [ptr pw, .agg (s.cells p).toArray].toArray w (zy (WrR G pw (l ++ zAz s)) w0) := by
 obtain ⟨b1, b1n, b2, b2n, b3, b4, b4n, b5, b5n⟩ := hb
 have n0 := nb [s.clock, s.fee, s.nextO, s.nextA]
 simp only [List.length_cons, List.length_nil] at n0
 have n1 := zAa b1 fun k hk => zEs (b1n k hk)
 have n2 := zAa b2 fun k hk => zEt (b2n k hk)
 have n3 := zAa b3 fun k _ => zDp (rw_ s.rows k)
 have n4 := zAa b4 fun k _ => zEu (od_ s.orders k)
 refine enter [] Tryz.func35 rfl Tryz.ntmps35 rfl rfl ?_
 repeat' (first | refine y1 sg ?_ | refine y3 ?_ | refine y7 sg H ?_ | (refine y9 H ?_; intro b w H) | (refine z14 sg H ?_; intro b w H) | (refine' y33 zCo ?_ ?_; rotate_left 2; exact zBO [s.clock, s.fee, s.nextO, s.nextA] (H.perm (zNi M G)) hM (zAU _ (List.Mem.head _) (by simp)) (by simp only [List.length_append, List.length_cons, List.length_nil]; omega); rintro v N w ⟨rfl, M, rfl, hM⟩ H; replace H := (H.perm (zNi M G).symm).sub (List.sublist_cons_self _ _)) | (refine' y33 ent88 ?_ ?_; rotate_left 2; exact zLe s.accts (B := 8796093022208) (fun k => zDm (ac_ s.accts k)) 1011 (by decide) hF hs.ac ent89 (fun k hk => zPC (by decide) (List.Mem.tail _ (List.Mem.head _)) _ (by have := b1n k hk; omega)) (fun k hk => zEs (b1n k hk)) (H.perm (zw M G)) hM (by simp only [List.length_append]; omega); rintro v N w ⟨rfl, M, rfl, hM⟩ H; replace H := H.perm (zw M G).symm) | (refine' y33 ent92 ?_ ?_; rotate_left 2; exact zLf s.insts (B := 8796093022208) (fun k => zDZ (in_ s.insts k)) 1021 (by decide) hF hs.ins ent93 (fun k hk => zPD (by decide) (List.Mem.tail _ (List.Mem.head _)) _ (by have := b2n k hk; omega)) (fun k hk => zEt (b2n k hk)) (H.perm (zw M G)) hM (by simp only [List.length_append]; omega); rintro v N w ⟨rfl, M, rfl, hM⟩ H; replace H := H.perm (zw M G).symm) | (refine' y33 ent94 ?_ ?_; rotate_left 2; exact zLg s.rows (B := 8796093022208) (fun k => zCa (rw_ s.rows k)) 40 (by decide) hF hs.rw ent95 (fun k hk => zPE (by decide) (List.Mem.tail _ (List.Mem.head _)) _) (fun k hk => zDp _) (H.perm (zw M G)) hM (by simp only [List.length_append]; omega); rintro v N w ⟨rfl, M, rfl, hM⟩ H; replace H := H.perm (zw M G).symm) | (refine' y33 ent97 ?_ ?_; rotate_left 2; exact zLh s.orders (B := 8796093022208) (fun k => zDa (od_ s.orders k)) 51 (by decide) hF hs.od ent98 (fun k hk => zPF (by decide) (List.Mem.tail _ (List.Mem.head _)) _ (b4n k hk)) (fun k hk => zEu _) (H.perm (zw M G)) hM (by simp only [List.length_append]; omega); rintro v N w ⟨rfl, M, rfl, hM⟩ H; replace H := H.perm (zw M G).symm) | (refine' y33 ent100 ?_ ?_; rotate_left 2; exact zLi s.aucs p.ad (B := 8796093022208) (fun k => zCy (s.aucs.getD k default)) 200100 (by decide) hF hs.au.1 ent101 (fun k hk => zPL (by decide) hF (List.Mem.tail _ (List.Mem.head _)) _ _ _ (hs.au.2 k hk) (b5n k hk)) (fun k hk => zGP (b5n k hk)) (H.perm (zw M G)) hM (by simp only [List.length_append]; omega); rintro v N w ⟨rfl, M, rfl, hM⟩ H; replace H := H.perm (zw M G).symm) | (with_reducible first | apply zB | apply zD | apply zC) | refine zA ?_ | fail)
 exact zAI (vs := []) trivial ((H.sub (List.sublist_cons_self _ _)).sub (List.sublist_cons_self _ _)) ⟨rfl, _, rfl, by simpa only [zAz, List.append_assoc] using hM⟩
set_option maxHeartbeats 2000000 in
theorem zHJ {w0 w : World} {M G F : zI} {pw : Nat} {l : List Nat} (v : Vws) (p : VPt) (hF : Mem w0 F) (hs : VwM F v p) (hb : VwB v) (H : St w0 (M ++ G) w) (hM : Wr M pw l) (hl : l.length ≤ 8792000000000) :
  Calls Tryz.prog 36 [ptr pw, .agg (v.cells p).toArray].toArray w (zy (WrR G pw (l ++ zBA v)) w0) := by
 obtain ⟨b1, b1n, b2, b3, b4, b4n⟩ := hb
 have n1 := zAa b1 fun k _ => zEv (op_ v.opn k)
 have n2 := zAa b2 fun k _ => zEw (lt_ v.lots k)
 have n3 := zAa b3 fun k _ => zEx (ps_ v.poss k)
 refine enter [] Tryz.func36 rfl Tryz.ntmps36 rfl rfl ?_
 repeat' (first | refine y1 sg ?_ | refine y3 ?_ | refine y7 sg H ?_ | (refine y9 H ?_; intro b w H) | (refine' y33 ent104 ?_ ?_; rotate_left 2; exact zLk v.opn (B := 8796093022208) (fun k => zDb (op_ v.opn k)) 51 (by decide) hF hs.op ent105 (fun k hk => zPG (by decide) (List.Mem.tail _ (List.Mem.head _)) _ (b1n k hk)) (fun k hk => zEv _) (H.perm (zw M G)) hM (by omega); rintro v N w ⟨rfl, M, rfl, hM⟩ H; replace H := H.perm (zw M G).symm) | (refine' y33 ent106 ?_ ?_; rotate_left 2; exact zLl v.lots (B := 8796093022208) (fun k => zDn (lt_ v.lots k)) 40 (by decide) hF hs.lt ent107 (fun k hk => zPH (by decide) (List.Mem.tail _ (List.Mem.head _)) _) (fun k hk => zEw _) (H.perm (zw M G)) hM (by simp only [List.length_append]; omega); rintro v N w ⟨rfl, M, rfl, hM⟩ H; replace H := H.perm (zw M G).symm) | (refine' y33 ent108 ?_ ?_; rotate_left 2; exact zLm v.poss (B := 8796093022208) (fun k => zDo (ps_ v.poss k)) 60 (by decide) hF hs.ps ent109 (fun k hk => zPI (by decide) (List.Mem.tail _ (List.Mem.head _)) _) (fun k hk => zEx _) (H.perm (zw M G)) hM (by simp only [List.length_append]; omega); rintro v N w ⟨rfl, M, rfl, hM⟩ H; replace H := H.perm (zw M G).symm) | (refine' y33 ent110 ?_ ?_; rotate_left 2; exact zLn v.lins (B := 8796093022208) (fun k => zDc (ln_ v.lins k)) 41 (by decide) hF hs.ln ent111 (fun k hk => zPJ (by decide) (List.Mem.tail _ (List.Mem.head _)) _ (b4n k hk)) (fun k hk => zGQ _) (H.perm (zw M G)) hM (by simp only [List.length_append]; omega); rintro v N w ⟨rfl, M, rfl, hM⟩ H; replace H := H.perm (zw M G).symm) | (with_reducible first | apply zB | apply zD | apply zC) | refine zA ?_ | fail)
 exact zAI (vs := []) trivial ((H.sub (List.sublist_cons_self _ _)).sub (List.sublist_cons_self _ _)) ⟨rfl, _, rfl, by simpa only [zBA, List.append_assoc] using hM⟩
end Go.Proofs.YtggolnppckpdlaaGreat
