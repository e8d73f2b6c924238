/- Texts of ours, joined: the steps of the proof, or the claim's theorem. -/
import Derived.Test.YtggolnppckpdlaaGreatQ19
set_option linter.unusedSimpArgs false
set_option linter.unusedVariables false
namespace Go.Proofs.YtggolnppckpdlaaGreat
open Go Go.Sk Go.RowKit
attribute [local irreducible] Go.Calls
def foldI (d : Int) : Int := if d > 0 then IntKind.i64.wrap (2 * d) else IntKind.i64.wrap (IntKind.i64.wrap (-2 * d) - 1)
theorem nb (xs : List Int) : (numsB xs).length ≤ 10 * xs.length := numsB_len xs
theorem c_fold (d : Int) (w : World) : Calls Tryz.prog 112 [.int .i64 d].toArray w (Ret (.int .i64 (foldI d)) w) := by
  refine enter [.tmp 2] Tryz.func112 rfl Tryz.ntmps112 rfl rfl ?_
  have H := St.start w
  repeat' (first | refine y1 sg ?_ | with_reducible apply OW.nil | with_reducible apply thn_n | with_reducible apply CW.seq | refine CW.region ?_ | with_reducible apply CW.ret | with_reducible apply CW.skip | with_reducible apply thn_r | (refine y23 ?_ ?_; all_goals intro h) | fail)
  · exact ret1 rfl H.cl (congrArg (Value.int .i64) (by unfold foldI; rw [if_pos (of_decide_eq_true h)]))
  · exact ret1 rfl H.cl (congrArg (Value.int .i64) (by unfold foldI; rw [if_neg (of_decide_eq_false h)]))
def belowR (r : Row4) : Row4 := if r.acct = 0 then { r with free := IntKind.i64.wrap (0 - r.free) } else r
theorem c_below (r : Row4) (w0 : World) : Calls Tryz.prog 96 [.agg r.cells.toArray].toArray w0 (Ret (.agg (belowR r).cells.toArray) w0) := by
  refine enter [.cell 2 74] Tryz.func96 rfl Tryz.ntmps96 rfl rfl ?_
  have H := St.start w0
  repeat' (first | refine y1 sg ?_ | refine y3 ?_ | refine y7 sg H ?_ | (refine y9 H ?_; intro b w H) | (refine y10 sg H ?_; intro b w H) | (refine y11 sg H ?_; intro w H) | with_reducible apply OW.nil | with_reducible apply thn_n | with_reducible apply CW.seq | refine CW.region ?_ | with_reducible apply CW.ret | with_reducible apply CW.skip | (refine y23 ?_ ?_; all_goals intro h) | fail)
  · exact retV (vs := [_]) ⟨rdvC sg rfl H.mem (List.Mem.head _) rfl rfl, trivial⟩ H.cl (by unfold belowR; rw [if_pos (eqI h)]; rfl)
  · exact retV (vs := [_]) ⟨rdvC sg rfl H.mem (List.Mem.head _) rfl rfl, trivial⟩ H.cl (by unfold belowR; rw [if_neg (neI h)]; rfl)
def accB (x : Ac) : List Nat := (short x.name.size ++ strL x.name) ++ flagB x.opn
theorem one_Acc {w0 : World} {G : Frag} {pw bw : Nat} {B : Nat} (hB : B ≤ 17592186044416) (hm : cb bw [ptr pw] 88 ∈ G) (x : Ac) (hx : x.name.size ≤ 1000000) : One w0 G pw 89 [ptr bw] (.agg x.cells.toArray) (accB x) B := by
  intro M G' l w hG H hM hl
  have := short_len10 (n := (x.name).size) (by omega)
  have := strL_len (x.name)
  (try simp only [List.length_cons, List.length_nil] at *)
  refine enter [] Tryz.func89 rfl Tryz.ntmps89 rfl rfl ?_
  repeat' (first | refine y1 sg ?_ | refine y3 ?_ | refine y7 sg H ?_ | (refine y9 H ?_; intro b w H) | ((with_reducible apply OX.val); exact rfl; exact rfl; exact Yq.loadS sg rfl rfl (H.mem.sub (by intro p hp; simp [hp])) (hG hm) rfl rfl) | (refine' y33 ent90 ?_ ?_; rotate_left 2; exact c_WText (x.name) (by omega) (H.perm (perm1 M G')) hM (by omega); rintro v N w ⟨rfl, M, rfl, hM⟩ H; replace H := H.perm (perm1 M G').symm) | (refine' y33 ent91 ?_ ?_; rotate_left 2; exact c_flag x.opn (H.perm (perm1 M G')) hM (by simp only [List.length_append, flagB, List.length_cons, List.length_nil]; omega); rintro v N w ⟨rfl, M, rfl, hM⟩ H; replace H := H.perm (perm1 M G').symm) | with_reducible apply OW.nil | with_reducible apply thn_n | with_reducible apply CW.seq | refine CW.region ?_ | fail)
  exact retVFn (vs := []) trivial (H.sub (List.sublist_cons_self _ _)) ⟨rfl, _, rfl, by simpa only [accB, List.append_assoc] using hM⟩
def insB (x : Ins) : List Nat := (short x.name.size ++ strL x.name) ++ (numsB [x.tick] ++ flagB x.halted)
theorem one_Ins {w0 : World} {G : Frag} {pw bw : Nat} {B : Nat} (hB : B ≤ 17592186044416) (hm : cb bw [ptr pw] 88 ∈ G) (x : Ins) (hx : x.name.size ≤ 1000000) : One w0 G pw 93 [ptr bw] (.agg x.cells.toArray) (insB x) B := by
  intro M G' l w hG H hM hl
  have := short_len10 (n := (x.name).size) (by omega)
  have := strL_len (x.name)
  have := nb [x.tick]
  (try simp only [List.length_cons, List.length_nil] at *)
  refine enter [] Tryz.func93 rfl Tryz.ntmps93 rfl rfl ?_
  repeat' (first | refine y1 sg ?_ | refine y3 ?_ | refine y7 sg H ?_ | (refine y9 H ?_; intro b w H) | ((with_reducible apply OX.buildS sg H); exact rfl; exact rfl; exact rfl; exact rfl; exact rfl; exact rfl; exact rfl; exact rfl; exact rfl; exact rfl; intro b w H _) | ((with_reducible apply OX.val); exact rfl; exact rfl; exact Yq.loadS sg rfl rfl (H.mem.sub (by intro p hp; simp [hp])) (hG hm) rfl rfl) | (refine' y33 ent90 ?_ ?_; rotate_left 2; exact c_WText (x.name) (by omega) (H.perm (perm1 M G')) hM (by omega); rintro v N w ⟨rfl, M, rfl, hM⟩ H; replace H := H.perm (perm1 M G').symm) | (refine' y33 ent87 ?_ ?_; rotate_left 2; exact c_snums [x.tick] (H.perm (perm2 M G')) hM (sl_i64 _ (List.Mem.head _) (by simp)) (by simp only [List.length_append, flagB, List.length_cons, List.length_nil]; omega); rintro v N w ⟨rfl, M, rfl, hM⟩ H; replace H := (H.perm (perm2 M G').symm).sub (List.sublist_cons_self _ _)) | (refine' y33 ent91 ?_ ?_; rotate_left 2; exact c_flag x.halted (H.perm (perm1 M G')) hM (by simp only [List.length_append, flagB, List.length_cons, List.length_nil]; omega); rintro v N w ⟨rfl, M, rfl, hM⟩ H; replace H := H.perm (perm1 M G').symm) | with_reducible apply OW.nil | with_reducible apply thn_n | with_reducible apply CW.seq | refine CW.region ?_ | fail)
  exact retVFn (vs := []) trivial (H.sub (List.sublist_cons_self _ _)) ⟨rfl, _, rfl, by simpa only [insB, List.append_assoc] using hM⟩
def rowB (x : Row4) : List Nat := numsB [(belowR x).acct, (belowR x).asset, (belowR x).free, (belowR x).held]
theorem one_Row {w0 : World} {G : Frag} {pw bw : Nat} {B : Nat} (hB : B ≤ 17592186044416) (hm : cb bw [ptr pw] 88 ∈ G) (x : Row4) : One w0 G pw 95 [ptr bw] (.agg x.cells.toArray) (rowB x) B := by
  intro M G' l w hG H hM hl
  have := nb [(belowR x).acct, (belowR x).asset, (belowR x).free, (belowR x).held]
  (try simp only [List.length_cons, List.length_nil] at *)
  refine enter [] Tryz.func95 rfl Tryz.ntmps95 rfl rfl ?_
  repeat' (first | refine y1 sg ?_ | refine y3 ?_ | refine y7 sg H ?_ | (refine y9 H ?_; intro b w H) | (refine y11 sg H ?_; intro w H) | ((with_reducible apply OX.buildS sg H); exact rfl; exact rfl; exact rfl; exact rfl; exact rfl; exact rfl; exact rfl; exact rfl; exact rfl; exact rfl; intro b w H _) | ((with_reducible apply OX.val); exact rfl; exact rfl; exact Yq.loadS sg rfl rfl (H.mem.sub (by intro p hp; simp [hp])) (hG hm) rfl rfl) | (refine' y30 ent96 ?_ ?_; rotate_left; exact c_below x _; intro w hcl; replace H := H.ext hcl; clear hcl) | (refine' y33 ent87 ?_ ?_; rotate_left 2; exact c_snums [(belowR x).acct, (belowR x).asset, (belowR x).free, (belowR x).held] (H.perm (perm2 M G')) hM (sl_i64 _ (List.Mem.head _) (by simp)) (by simp only [List.length_append, flagB, List.length_cons, List.length_nil]; omega); rintro v N w ⟨rfl, M, rfl, hM⟩ H; replace H := (H.perm (perm2 M G').symm).sub (List.sublist_cons_self _ _)) | with_reducible apply OW.nil | with_reducible apply thn_n | with_reducible apply CW.seq | refine CW.region ?_ | fail)
  exact retVFn (vs := []) trivial (H.sub (List.sublist_cons_self _ _)) ⟨rfl, _, rfl, by simpa only [rowB, List.append_assoc] using hM⟩
def ordB (x : Odr) : List Nat := numsB [x.id, x.acct, x.inst] ++ ([x.side.toNat] ++ numsB [x.price, x.left])
theorem one_Ord {w0 : World} {G : Frag} {pw bw : Nat} {B : Nat} (hB : B ≤ 17592186044416) (hm : cb bw [ptr pw] 88 ∈ G) (x : Odr) (hx : 0 ≤ x.side ∧ x.side < 256) : One w0 G pw 98 [ptr bw] (.agg x.cells.toArray) (ordB x) B := by
  intro M G' l w hG H hM hl
  have := nb [x.id, x.acct, x.inst]
  have := nb [x.price, x.left]
  (try simp only [List.length_cons, List.length_nil] at *)
  refine enter [] Tryz.func98 rfl Tryz.ntmps98 rfl rfl ?_
  repeat' (first | refine y1 sg ?_ | refine y3 ?_ | refine y7 sg H ?_ | (refine y9 H ?_; intro b w H) | ((with_reducible apply OX.buildS sg H); exact rfl; exact rfl; exact rfl; exact rfl; exact rfl; exact rfl; exact rfl; exact rfl; exact rfl; exact rfl; intro b w H _) | ((with_reducible apply OX.val); exact rfl; exact rfl; exact Yq.loadS sg rfl rfl (H.mem.sub (by intro p hp; simp [hp])) (hG hm) rfl rfl) | (refine' y33 ent87 ?_ ?_; rotate_left 2; exact c_snums [x.id, x.acct, x.inst] (H.perm (perm2 M G')) hM (sl_i64 _ (List.Mem.head _) (by simp)) (by simp only [List.length_append, flagB, List.length_cons, List.length_nil]; omega); rintro v N w ⟨rfl, M, rfl, hM⟩ H; replace H := (H.perm (perm2 M G').symm).sub (List.sublist_cons_self _ _)) | (refine' y33 ent99 ?_ ?_; rotate_left 2; exact c_U8 (x.side).toNat (by omega) (by omega) (H.perm (perm1 M G')) hM (by simp only [List.length_append, flagB, List.length_cons, List.length_nil]; omega); rintro v N w ⟨rfl, M, rfl, hM⟩ H; replace H := H.perm (perm1 M G').symm) | (refine' y33 ent87 ?_ ?_; rotate_left 2; exact c_snums [x.price, x.left] (H.perm (perm2 M G')) hM (sl_i64 _ (List.Mem.head _) (by simp)) (by simp only [List.length_append, flagB, List.length_cons, List.length_nil]; omega); rintro v N w ⟨rfl, M, rfl, hM⟩ H; replace H := (H.perm (perm2 M G').symm).sub (List.sublist_cons_self _ _)) | with_reducible apply OW.nil | with_reducible apply thn_n | with_reducible apply CW.seq | refine CW.region ?_ | fail)
  exact retVFn (vs := []) trivial (H.sub (List.sublist_cons_self _ _)) ⟨rfl, _, rfl, by simpa only [ordB, List.append_assoc] using hM⟩
def opnB (x : Opn) : List Nat := numsB [x.acct, x.id, x.inst] ++ ([x.side.toNat] ++ numsB [x.price, x.left])
theorem one_Opn {w0 : World} {G : Frag} {pw bw : Nat} {B : Nat} (hB : B ≤ 17592186044416) (hm : cb bw [ptr pw] 88 ∈ G) (x : Opn) (hx : 0 ≤ x.side ∧ x.side < 256) : One w0 G pw 105 [ptr bw] (.agg x.cells.toArray) (opnB x) B := by
  intro M G' l w hG H hM hl
  have := nb [x.acct, x.id, x.inst]
  have := nb [x.price, x.left]
  (try simp only [List.length_cons, List.length_nil] at *)
  refine enter [] Tryz.func105 rfl Tryz.ntmps105 rfl rfl ?_
  repeat' (first | refine y1 sg ?_ | refine y3 ?_ | refine y7 sg H ?_ | (refine y9 H ?_; intro b w H) | ((with_reducible apply OX.buildS sg H); exact rfl; exact rfl; exact rfl; exact rfl; exact rfl; exact rfl; exact rfl; exact rfl; exact rfl; exact rfl; intro b w H _) | ((with_reducible apply OX.val); exact rfl; exact rfl; exact Yq.loadS sg rfl rfl (H.mem.sub (by intro p hp; simp [hp])) (hG hm) rfl rfl) | (refine' y33 ent87 ?_ ?_; rotate_left 2; exact c_snums [x.acct, x.id, x.inst] (H.perm (perm2 M G')) hM (sl_i64 _ (List.Mem.head _) (by simp)) (by simp only [List.length_append, flagB, List.length_cons, List.length_nil]; omega); rintro v N w ⟨rfl, M, rfl, hM⟩ H; replace H := (H.perm (perm2 M G').symm).sub (List.sublist_cons_self _ _)) | (refine' y33 ent99 ?_ ?_; rotate_left 2; exact c_U8 (x.side).toNat (by omega) (by omega) (H.perm (perm1 M G')) hM (by simp only [List.length_append, flagB, List.length_cons, List.length_nil]; omega); rintro v N w ⟨rfl, M, rfl, hM⟩ H; replace H := H.perm (perm1 M G').symm) | (refine' y33 ent87 ?_ ?_; rotate_left 2; exact c_snums [x.price, x.left] (H.perm (perm2 M G')) hM (sl_i64 _ (List.Mem.head _) (by simp)) (by simp only [List.length_append, flagB, List.length_cons, List.length_nil]; omega); rintro v N w ⟨rfl, M, rfl, hM⟩ H; replace H := (H.perm (perm2 M G').symm).sub (List.sublist_cons_self _ _)) | with_reducible apply OW.nil | with_reducible apply thn_n | with_reducible apply CW.seq | refine CW.region ?_ | fail)
  exact retVFn (vs := []) trivial (H.sub (List.sublist_cons_self _ _)) ⟨rfl, _, rfl, by simpa only [opnB, List.append_assoc] using hM⟩
def lotB (x : Lt) : List Nat := numsB [x.id, x.seller, x.inst, x.qty]
theorem one_Lot {w0 : World} {G : Frag} {pw bw : Nat} {B : Nat} (hB : B ≤ 17592186044416) (hm : cb bw [ptr pw] 88 ∈ G) (x : Lt) : One w0 G pw 107 [ptr bw] (.agg x.cells.toArray) (lotB x) B := by
  intro M G' l w hG H hM hl
  have := nb [x.id, x.seller, x.inst, x.qty]
  (try simp only [List.length_cons, List.length_nil] at *)
  refine enter [] Tryz.func107 rfl Tryz.ntmps107 rfl rfl ?_
  repeat' (first | refine y1 sg ?_ | refine y3 ?_ | refine y7 sg H ?_ | (refine y9 H ?_; intro b w H) | ((with_reducible apply OX.buildS sg H); exact rfl; exact rfl; exact rfl; exact rfl; exact rfl; exact rfl; exact rfl; exact rfl; exact rfl; exact rfl; intro b w H _) | ((with_reducible apply OX.val); exact rfl; exact rfl; exact Yq.loadS sg rfl rfl (H.mem.sub (by intro p hp; simp [hp])) (hG hm) rfl rfl) | (refine' y33 ent87 ?_ ?_; rotate_left 2; exact c_snums [x.id, x.seller, x.inst, x.qty] (H.perm (perm2 M G')) hM (sl_i64 _ (List.Mem.head _) (by simp)) (by simp only [List.length_append, flagB, List.length_cons, List.length_nil]; omega); rintro v N w ⟨rfl, M, rfl, hM⟩ H; replace H := (H.perm (perm2 M G').symm).sub (List.sublist_cons_self _ _)) | with_reducible apply OW.nil | with_reducible apply thn_n | with_reducible apply CW.seq | refine CW.region ?_ | fail)
  exact retVFn (vs := []) trivial (H.sub (List.sublist_cons_self _ _)) ⟨rfl, _, rfl, by simpa only [lotB, List.append_assoc] using hM⟩
def posB (x : Psn) : List Nat := numsB [x.acct, x.inst, x.bought, x.sold, x.spent, x.got]
theorem one_Pos {w0 : World} {G : Frag} {pw bw : Nat} {B : Nat} (hB : B ≤ 17592186044416) (hm : cb bw [ptr pw] 88 ∈ G) (x : Psn) : One w0 G pw 109 [ptr bw] (.agg x.cells.toArray) (posB x) B := by
  intro M G' l w hG H hM hl
  have := nb [x.acct, x.inst, x.bought, x.sold, x.spent, x.got]
  (try simp only [List.length_cons, List.length_nil] at *)
  refine enter [] Tryz.func109 rfl Tryz.ntmps109 rfl rfl ?_
  repeat' (first | refine y1 sg ?_ | refine y3 ?_ | refine y7 sg H ?_ | (refine y9 H ?_; intro b w H) | ((with_reducible apply OX.buildS sg H); exact rfl; exact rfl; exact rfl; exact rfl; exact rfl; exact rfl; exact rfl; exact rfl; exact rfl; exact rfl; intro b w H _) | ((with_reducible apply OX.val); exact rfl; exact rfl; exact Yq.loadS sg rfl rfl (H.mem.sub (by intro p hp; simp [hp])) (hG hm) rfl rfl) | (refine' y33 ent87 ?_ ?_; rotate_left 2; exact c_snums [x.acct, x.inst, x.bought, x.sold, x.spent, x.got] (H.perm (perm2 M G')) hM (sl_i64 _ (List.Mem.head _) (by simp)) (by simp only [List.length_append, flagB, List.length_cons, List.length_nil]; omega); rintro v N w ⟨rfl, M, rfl, hM⟩ H; replace H := (H.perm (perm2 M G').symm).sub (List.sublist_cons_self _ _)) | with_reducible apply OW.nil | with_reducible apply thn_n | with_reducible apply CW.seq | refine CW.region ?_ | fail)
  exact retVFn (vs := []) trivial (H.sub (List.sublist_cons_self _ _)) ⟨rfl, _, rfl, by simpa only [posB, List.append_assoc] using hM⟩
def linB (x : Ln) : List Nat := numsB [x.acct, x.seq] ++ ([x.kind.toNat] ++ numsB [foldI x.delta, x.bal])
theorem one_Lin {w0 : World} {G : Frag} {pw bw : Nat} {B : Nat} (hB : B ≤ 17592186044416) (hm : cb bw [ptr pw] 88 ∈ G) (x : Ln) (hx : 0 ≤ x.kind ∧ x.kind < 256) : One w0 G pw 111 [ptr bw] (.agg x.cells.toArray) (linB x) B := by
  intro M G' l w hG H hM hl
  have := nb [x.acct, x.seq]
  have := nb [foldI x.delta, x.bal]
  (try simp only [List.length_cons, List.length_nil] at *)
  refine enter [] Tryz.func111 rfl Tryz.ntmps111 rfl rfl ?_
  repeat' (first | refine y1 sg ?_ | refine y3 ?_ | refine y7 sg H ?_ | (refine y9 H ?_; intro b w H) | ((with_reducible apply OX.buildS sg H); exact rfl; exact rfl; exact rfl; exact rfl; exact rfl; exact rfl; exact rfl; exact rfl; exact rfl; exact rfl; intro b w H _) | ((with_reducible apply OX.val); exact rfl; exact rfl; exact Yq.loadS sg rfl rfl (H.mem.sub (by intro p hp; simp [hp])) (hG hm) rfl rfl) | (refine' y33 ent87 ?_ ?_; rotate_left 2; exact c_snums [x.acct, x.seq] (H.perm (perm2 M G')) hM (sl_i64 _ (List.Mem.head _) (by simp)) (by simp only [List.length_append, flagB, List.length_cons, List.length_nil]; omega); rintro v N w ⟨rfl, M, rfl, hM⟩ H; replace H := (H.perm (perm2 M G').symm).sub (List.sublist_cons_self _ _)) | (refine' y33 ent99 ?_ ?_; rotate_left 2; exact c_U8 (x.kind).toNat (by omega) (by omega) (H.perm (perm1 M G')) hM (by simp only [List.length_append, flagB, List.length_cons, List.length_nil]; omega); rintro v N w ⟨rfl, M, rfl, hM⟩ H; replace H := H.perm (perm1 M G').symm) | (refine CW.regionA mixed 8 ?_ ?_; exact rfl; intro w hcl; replace H := H.ext hcl; clear hcl) | ((with_reducible apply RA.nil); decide +kernel) | ((with_reducible apply RA.take 1); decide +kernel; exact rfl; exact rfl; exact rfl; exact rfl; (first | exact (fun w => pvn_ok sg rfl w)); exact rfl) | ((with_reducible apply RA.take 4); decide +kernel; exact rfl; exact rfl; exact rfl; exact rfl; (first | exact (fun w => pvn_ok sg rfl w)); exact rfl) | ((with_reducible apply RA.c1 0); exact rfl; decide +kernel; exact rfl) | ((with_reducible apply RA.c1 2); exact rfl; decide +kernel; exact rfl) | ((with_reducible apply RA.c1 3); exact rfl; decide +kernel; exact rfl) | ((with_reducible apply RA.c1 5); exact rfl; decide +kernel; exact rfl) | ((with_reducible apply RA.c1 6); exact rfl; decide +kernel; exact rfl) | ((with_reducible apply RA.c1 7); exact rfl; decide +kernel; exact rfl) | ((with_reducible apply RA.c2 0 2); exact rfl; decide +kernel; exact rfl; exact rfl) | ((with_reducible apply RA.c2 0 3); exact rfl; decide +kernel; exact rfl; exact rfl) | ((with_reducible apply RA.c2 0 5); exact rfl; decide +kernel; exact rfl; exact rfl) | ((with_reducible apply RA.c2 2 5); exact rfl; decide +kernel; exact rfl; exact rfl) | ((with_reducible apply RA.c2 3 5); exact rfl; decide +kernel; exact rfl; exact rfl) | ((with_reducible apply RA.c2 0 6); exact rfl; decide +kernel; exact rfl; exact rfl) | ((with_reducible apply RA.c3 0 2 5); exact rfl; decide +kernel; exact rfl; exact rfl; exact rfl) | ((with_reducible apply RA.c3 0 3 5); exact rfl; decide +kernel; exact rfl; exact rfl; exact rfl) | (refine' y30 ent112 ?_ ?_; rotate_left; exact c_fold x.delta _; intro w hcl; replace H := H.ext hcl; clear hcl) | (refine' y33 ent87 ?_ ?_; rotate_left 2; exact c_snums [foldI x.delta, x.bal] (H.perm (perm2 M G')) hM (sl_i64 _ (List.Mem.head _) (by simp)) (by simp only [List.length_append, flagB, List.length_cons, List.length_nil]; omega); rintro v N w ⟨rfl, M, rfl, hM⟩ H; replace H := (H.perm (perm2 M G').symm).sub (List.sublist_cons_self _ _)) | with_reducible apply OW.nil | with_reducible apply thn_n | with_reducible apply CW.seq | refine CW.region ?_ | fail)
  all_goals exact retVFn (vs := []) trivial (H.sub (List.sublist_cons_self _ _)) ⟨rfl, _, rfl, by simpa only [linB, List.append_assoc] using hM⟩
def bidB (x : Bid) : List Nat := numsB [x.acct, x.amount]
theorem one_Bid {w0 : World} {G : Frag} {pw bw : Nat} {B : Nat} (hB : B ≤ 17592186044416) (hm : cb bw [ptr pw] 88 ∈ G) (x : Bid) : One w0 G pw 103 [ptr bw] (.agg x.cells.toArray) (bidB x) B := by
  intro M G' l w hG H hM hl
  have := nb [x.acct, x.amount]
  (try simp only [List.length_cons, List.length_nil] at *)
  refine enter [] Tryz.func103 rfl Tryz.ntmps103 rfl rfl ?_
  repeat' (first | refine y1 sg ?_ | refine y3 ?_ | refine y7 sg H ?_ | (refine y9 H ?_; intro b w H) | ((with_reducible apply OX.buildS sg H); exact rfl; exact rfl; exact rfl; exact rfl; exact rfl; exact rfl; exact rfl; exact rfl; exact rfl; exact rfl; intro b w H _) | ((with_reducible apply OX.val); exact rfl; exact rfl; exact Yq.loadS sg rfl rfl (H.mem.sub (by intro p hp; simp [hp])) (hG hm) rfl rfl) | (refine' y33 ent87 ?_ ?_; rotate_left 2; exact c_snums [x.acct, x.amount] (H.perm (perm2 M G')) hM (sl_i64 _ (List.Mem.head _) (by simp)) (by simp only [List.length_append, flagB, List.length_cons, List.length_nil]; omega); rintro v N w ⟨rfl, M, rfl, hM⟩ H; replace H := (H.perm (perm2 M G').symm).sub (List.sublist_cons_self _ _)) | with_reducible apply OW.nil | with_reducible apply thn_n | with_reducible apply CW.seq | refine CW.region ?_ | fail)
  exact retVFn (vs := []) trivial (H.sub (List.sublist_cons_self _ _)) ⟨rfl, _, rfl, by simpa only [bidB, List.append_assoc] using hM⟩
end Go.Proofs.YtggolnppckpdlaaGreat
