/- The laws' helpers, walked: english, sealed, won, awake. -/
import Derived.Test.YtkcoemikglbomaaS4
set_option linter.unusedSimpArgs false
set_option linter.unusedVariables false
namespace Go.Proofs.Ytkcoemikglbomaa
open Go Go.Sk Go.RowKit
attribute [local irreducible] Go.Calls
theorem Bids.none (F : Frag) : Bids F none 0 [] := ⟨Nat.le_refl _, by decide, 0, 0, [], 0, (0, 0), fun h => absurd h (by decide)⟩
theorem Bids.blk {F : Frag} {b cap : Nat} {T : TypeId} (l : List Bid) (hm : cb b ((List.range l.length).flatMap (bel l)) T ∈ F) (hc : l.length ≤ cap) (hn : l.length ≤ 140737488355328) : Bids F (some ⟨b, 0, Option.none⟩) cap l := by
  refine ⟨hc, hn, b, 0, _, T, (0, 0), fun _ => ⟨rfl, hm, fun j hj => ?_⟩⟩
  have hl := flat_len (el := bel l) (size := 2) l.length (fun j _ => bel_len l j)
  refine ⟨by rw [hl]; omega, ?_⟩
  rw [Nat.zero_add]
  exact flat_at l.length (fun j _ => bel_len l j) j hj
def eng (r s : Int) (l : List Bid) : Auc := ⟨1, 1, 1, false, 5, r, s, 9, l⟩
def sea (r : Int) (l : List Bid) : Auc := ⟨1, 1, 1, true, 5, r, 0, 9, l⟩
theorem c_english (r s : Int) (l : List Bid) (a : Option Addr) (cap : Nat) (w : World) : Calls Try.prog 34 [.int .i64 r, .int .i64 s, .slice a l.length cap].toArray w (Ret (.agg ((eng r s l).cells a cap).toArray) w) := by
  refine enter [.cell 6 24] Try.func34 rfl Try.ntmps34 rfl rfl ?_
  have H := St.start w
  repeat' (first
      | ((with_reducible apply OW.p sg); exact rfl; exact rfl; exact rfl; exact rfl)
      | ((with_reducible apply QW.p sg); exact rfl; exact rfl; exact rfl; exact rfl)
      | ((with_reducible apply OW.go); exact rfl)
      | ((with_reducible apply QW.go); exact rfl)
      | ((with_reducible apply OX.pure sg); exact rfl; exact rfl; exact rfl)
      | ((with_reducible apply QX.pure sg); exact rfl; exact rfl; exact rfl)
      | ((with_reducible apply OX.val); exact rfl; exact rfl; exact Yq.loadS sg rfl rfl H.mem (by first | exact List.Mem.head _ | exact List.Mem.tail _ (List.Mem.head _) | exact List.Mem.tail _ (List.Mem.tail _ (List.Mem.head _)) | exact List.Mem.tail _ (List.Mem.tail _ (List.Mem.tail _ (List.Mem.head _))) | exact List.Mem.tail _ (List.Mem.tail _ (List.Mem.tail _ (List.Mem.tail _ (List.Mem.head _)))) | (repeat (first | exact List.Mem.head _ | refine List.Mem.tail _ ?_))) rfl rfl)
      | ((with_reducible apply QX.val); exact rfl; exact rfl; exact Yq.loadS sg rfl rfl H.mem (by first | exact List.Mem.head _ | exact List.Mem.tail _ (List.Mem.head _) | exact List.Mem.tail _ (List.Mem.tail _ (List.Mem.head _)) | exact List.Mem.tail _ (List.Mem.tail _ (List.Mem.tail _ (List.Mem.head _))) | exact List.Mem.tail _ (List.Mem.tail _ (List.Mem.tail _ (List.Mem.tail _ (List.Mem.head _)))) | (repeat (first | exact List.Mem.head _ | refine List.Mem.tail _ ?_))) rfl rfl)
      | (refine OX.box H rfl rfl rfl rfl rfl ?_; intro b w H _)
      | (refine OX.alloc sg H rfl rfl rfl rfl rfl ?_; intro b w H _)
      | ((with_reducible apply OX.store sg H); exact rfl; exact rfl; exact rfl; exact rfl; exact rfl; exact rfl; (repeat (first | exact Up.here | apply Up.there)); exact rfl; exact rfl; exact rfl; exact rfl; intro w H)
      | ((with_reducible apply RW.nil); exact rfl)
      | ((with_reducible apply OW.gY); exact rfl; exact rfl; exact rfl)
      | ((with_reducible apply OW.gN); exact rfl; exact rfl; exact rfl; exact rfl; exact rfl)
      | ((with_reducible apply QW.gY); exact rfl; exact rfl; exact rfl)
      | ((with_reducible apply QW.gN); exact rfl; exact rfl; exact rfl; exact rfl; exact rfl)
      | ((with_reducible apply OW.gS); exact rfl; exact rfl; exact rfl; all_goals intro h)
      | ((with_reducible apply QW.gS); exact rfl; exact rfl; exact rfl; all_goals intro h)
      | with_reducible apply OW.app
      | with_reducible apply OW.app0
      | with_reducible apply QW.app
      | with_reducible apply QW.app0
      | with_reducible apply OW.nil
      | ((with_reducible apply QW.nil); intro w hcl; replace H := H.ext hcl; clear hcl)
      | ((with_reducible apply RW.one); exact rfl; decide +kernel)
      | with_reducible apply thn_n
      | with_reducible apply CW.seq
      | with_reducible apply CW.region
      | ((with_reducible apply CW.regionD mixed); decide +kernel)
      | with_reducible apply CW.block
      | with_reducible apply CW.ret
      | with_reducible apply CW.exit
      | with_reducible apply CW.skip
      | with_reducible apply thn_r
      | with_reducible apply thn_e
      | with_reducible apply blk_n
      | with_reducible apply blk_r
      | ((with_reducible apply blk_e1); exact rfl)
      | ((with_reducible apply blk_e0); exact rfl)
      | ((with_reducible apply CW.condT); exact rfl)
      | ((with_reducible apply CW.condF); exact rfl)
      | ((with_reducible apply CW.cond); exact rfl; all_goals intro h))
  exact retV (vs := [_]) ⟨rdvC sg rfl H.mem (List.Mem.head _) rfl rfl, trivial⟩ H.cl rfl
theorem c_sealed (r : Int) (l : List Bid) (a : Option Addr) (cap : Nat) (w : World) : Calls Try.prog 36 [.int .i64 r, .slice a l.length cap].toArray w (Ret (.agg ((sea r l).cells a cap).toArray) w) := by
  refine enter [.cell 4 24] Try.func36 rfl Try.ntmps36 rfl rfl ?_
  have H := St.start w
  repeat' (first
      | ((with_reducible apply OW.p sg); exact rfl; exact rfl; exact rfl; exact rfl)
      | ((with_reducible apply QW.p sg); exact rfl; exact rfl; exact rfl; exact rfl)
      | ((with_reducible apply OW.go); exact rfl)
      | ((with_reducible apply QW.go); exact rfl)
      | ((with_reducible apply OX.pure sg); exact rfl; exact rfl; exact rfl)
      | ((with_reducible apply QX.pure sg); exact rfl; exact rfl; exact rfl)
      | ((with_reducible apply OX.val); exact rfl; exact rfl; exact Yq.loadS sg rfl rfl H.mem (by first | exact List.Mem.head _ | exact List.Mem.tail _ (List.Mem.head _) | exact List.Mem.tail _ (List.Mem.tail _ (List.Mem.head _)) | exact List.Mem.tail _ (List.Mem.tail _ (List.Mem.tail _ (List.Mem.head _))) | exact List.Mem.tail _ (List.Mem.tail _ (List.Mem.tail _ (List.Mem.tail _ (List.Mem.head _)))) | (repeat (first | exact List.Mem.head _ | refine List.Mem.tail _ ?_))) rfl rfl)
      | ((with_reducible apply QX.val); exact rfl; exact rfl; exact Yq.loadS sg rfl rfl H.mem (by first | exact List.Mem.head _ | exact List.Mem.tail _ (List.Mem.head _) | exact List.Mem.tail _ (List.Mem.tail _ (List.Mem.head _)) | exact List.Mem.tail _ (List.Mem.tail _ (List.Mem.tail _ (List.Mem.head _))) | exact List.Mem.tail _ (List.Mem.tail _ (List.Mem.tail _ (List.Mem.tail _ (List.Mem.head _)))) | (repeat (first | exact List.Mem.head _ | refine List.Mem.tail _ ?_))) rfl rfl)
      | (refine OX.box H rfl rfl rfl rfl rfl ?_; intro b w H _)
      | (refine OX.alloc sg H rfl rfl rfl rfl rfl ?_; intro b w H _)
      | ((with_reducible apply OX.store sg H); exact rfl; exact rfl; exact rfl; exact rfl; exact rfl; exact rfl; (repeat (first | exact Up.here | apply Up.there)); exact rfl; exact rfl; exact rfl; exact rfl; intro w H)
      | ((with_reducible apply RW.nil); exact rfl)
      | ((with_reducible apply OW.gY); exact rfl; exact rfl; exact rfl)
      | ((with_reducible apply OW.gN); exact rfl; exact rfl; exact rfl; exact rfl; exact rfl)
      | ((with_reducible apply QW.gY); exact rfl; exact rfl; exact rfl)
      | ((with_reducible apply QW.gN); exact rfl; exact rfl; exact rfl; exact rfl; exact rfl)
      | ((with_reducible apply OW.gS); exact rfl; exact rfl; exact rfl; all_goals intro h)
      | ((with_reducible apply QW.gS); exact rfl; exact rfl; exact rfl; all_goals intro h)
      | with_reducible apply OW.app
      | with_reducible apply OW.app0
      | with_reducible apply QW.app
      | with_reducible apply QW.app0
      | with_reducible apply OW.nil
      | ((with_reducible apply QW.nil); intro w hcl; replace H := H.ext hcl; clear hcl)
      | ((with_reducible apply RW.one); exact rfl; decide +kernel)
      | with_reducible apply thn_n
      | with_reducible apply CW.seq
      | with_reducible apply CW.region
      | ((with_reducible apply CW.regionD mixed); decide +kernel)
      | with_reducible apply CW.block
      | with_reducible apply CW.ret
      | with_reducible apply CW.exit
      | with_reducible apply CW.skip
      | with_reducible apply thn_r
      | with_reducible apply thn_e
      | with_reducible apply blk_n
      | with_reducible apply blk_r
      | ((with_reducible apply blk_e1); exact rfl)
      | ((with_reducible apply blk_e0); exact rfl)
      | ((with_reducible apply CW.condT); exact rfl)
      | ((with_reducible apply CW.condF); exact rfl)
      | ((with_reducible apply CW.cond); exact rfl; all_goals intro h))
  exact retV (vs := [_]) ⟨rdvC sg rfl H.mem (List.Mem.head _) rfl rfl, trivial⟩ H.cl rfl
def wonF (x : Auc) (acct price : Int) : Bool := (winF x).2 && (winF x).1.acct == acct && (winF x).1.amount == price
theorem c_won {a : Option Addr} {cap : Nat} (x : Auc) (acct price : Int) {F : Frag} (w0 : World) (hF : Mem w0 F) (hs : Bids F a cap x.bids) :
    Calls Try.prog 42 [.agg (x.cells a cap).toArray, .int .i64 acct, .int .i64 price].toArray w0 (Ret (.bool (wonF x acct price)) w0) := by
  refine enter [.tmp 6] Try.func42 rfl Try.ntmps42 rfl rfl ?_
  have H := St.start w0
  repeat' (first
      | ((with_reducible apply OW.p sg); exact rfl; exact rfl; exact rfl; exact rfl)
      | ((with_reducible apply QW.p sg); exact rfl; exact rfl; exact rfl; exact rfl)
      | ((with_reducible apply OW.go); exact rfl)
      | ((with_reducible apply QW.go); exact rfl)
      | ((with_reducible apply OX.pure sg); exact rfl; exact rfl; exact rfl)
      | ((with_reducible apply QX.pure sg); exact rfl; exact rfl; exact rfl)
      | ((with_reducible apply OX.val); exact rfl; exact rfl; exact Yq.loadS sg rfl rfl H.mem (by first | exact List.Mem.head _ | exact List.Mem.tail _ (List.Mem.head _) | exact List.Mem.tail _ (List.Mem.tail _ (List.Mem.head _)) | exact List.Mem.tail _ (List.Mem.tail _ (List.Mem.tail _ (List.Mem.head _))) | exact List.Mem.tail _ (List.Mem.tail _ (List.Mem.tail _ (List.Mem.tail _ (List.Mem.head _)))) | (repeat (first | exact List.Mem.head _ | refine List.Mem.tail _ ?_))) rfl rfl)
      | ((with_reducible apply QX.val); exact rfl; exact rfl; exact Yq.loadS sg rfl rfl H.mem (by first | exact List.Mem.head _ | exact List.Mem.tail _ (List.Mem.head _) | exact List.Mem.tail _ (List.Mem.tail _ (List.Mem.head _)) | exact List.Mem.tail _ (List.Mem.tail _ (List.Mem.tail _ (List.Mem.head _))) | exact List.Mem.tail _ (List.Mem.tail _ (List.Mem.tail _ (List.Mem.tail _ (List.Mem.head _)))) | (repeat (first | exact List.Mem.head _ | refine List.Mem.tail _ ?_))) rfl rfl)
      | (refine OX.box H rfl rfl rfl rfl rfl ?_; intro b w H _)
      | (refine OX.alloc sg H rfl rfl rfl rfl rfl ?_; intro b w H _)
      | ((with_reducible apply OX.store sg H); exact rfl; exact rfl; exact rfl; exact rfl; exact rfl; exact rfl; (repeat (first | exact Up.here | apply Up.there)); exact rfl; exact rfl; exact rfl; exact rfl; intro w H)
      | ((with_reducible apply RW.nil); exact rfl)
      | ((with_reducible apply OX.call); exact rfl; exact rfl; exact En.fn ent18 rfl rfl; exact c_Winner x _ (H.memF hF) hs; intro w hcl; replace H := H.ext hcl; clear hcl)
      | ((with_reducible apply QX.call); exact rfl; exact rfl; exact En.fn ent18 rfl rfl; exact (fun _ hcl => c_Winner x _ ((H.ext hcl).memF hF) hs))
      | ((with_reducible apply OW.gY); exact rfl; exact rfl; exact rfl)
      | ((with_reducible apply OW.gN); exact rfl; exact rfl; exact rfl; exact rfl; exact rfl)
      | ((with_reducible apply QW.gY); exact rfl; exact rfl; exact rfl)
      | ((with_reducible apply QW.gN); exact rfl; exact rfl; exact rfl; exact rfl; exact rfl)
      | ((with_reducible apply OW.gS); exact rfl; exact rfl; exact rfl; all_goals intro h)
      | ((with_reducible apply QW.gS); exact rfl; exact rfl; exact rfl; all_goals intro h)
      | with_reducible apply OW.app
      | with_reducible apply OW.app0
      | with_reducible apply QW.app
      | with_reducible apply QW.app0
      | with_reducible apply OW.nil
      | ((with_reducible apply QW.nil); intro w hcl; replace H := H.ext hcl; clear hcl)
      | ((with_reducible apply RW.one); exact rfl; decide +kernel)
      | with_reducible apply thn_n
      | with_reducible apply CW.seq
      | with_reducible apply CW.region
      | ((with_reducible apply CW.regionD mixed); decide +kernel)
      | with_reducible apply CW.block
      | with_reducible apply CW.ret
      | with_reducible apply CW.exit
      | with_reducible apply CW.skip
      | with_reducible apply thn_r
      | with_reducible apply thn_e
      | with_reducible apply blk_n
      | with_reducible apply blk_r
      | ((with_reducible apply blk_e1); exact rfl)
      | ((with_reducible apply blk_e0); exact rfl)
      | ((with_reducible apply CW.condT); exact rfl)
      | ((with_reducible apply CW.condF); exact rfl)
      | ((with_reducible apply CW.cond); exact rfl; all_goals intro h))
  all_goals exact ret1 rfl H.cl (by simp only [wonF, *]; simp)
theorem Aucs.blk {F : Frag} {b cap : Nat} {T : TypeId} (l : List Auc) (ad : Nat → Option Addr × Nat) (hm : cb b ((List.range l.length).flatMap (ael l ad)) T ∈ F) (hc : l.length ≤ cap) (hn : l.length ≤ 140737488355328) (hb : ∀ j, j < l.length → Bids F (ad j).1 (ad j).2 (l.getD j default).bids) : Aucs F (some ⟨b, 0, Option.none⟩) cap l ad := by
  refine ⟨⟨hc, hn, b, 0, _, T, (0, 0), fun _ => ⟨rfl, hm, fun j hj => ?_⟩⟩, hb⟩
  have hl := flat_len (el := ael l ad) (size := 9) l.length (fun j _ => rfl)
  refine ⟨by rw [hl]; omega, ?_⟩
  rw [Nat.zero_add]
  exact flat_at (el := ael l ad) (size := 9) l.length (fun j _ => rfl) j hj
theorem Bids.b1 {F : Frag} {b : Nat} {T : TypeId} {x y : Int} (hm : cb b [.int .i64 x, .int .i64 y] T ∈ F) : Bids F (some ⟨b, 0, Option.none⟩) 1 [⟨x, y⟩] := Bids.blk (cap := 1) [⟨x, y⟩] hm (Nat.le_refl _) (Nat.le_trans (Nat.le_refl 1) (by decide))
theorem mem_none (w : World) : Mem w [] := fun _ h => (List.not_mem_nil h).elim
def aw3 : List Auc := [⟨3, 1, 1, true, 5, 1, 0, 5, []⟩, ⟨7, 1, 1, true, 5, 1, 0, 4, []⟩, ⟨9, 1, 1, true, 5, 1, 0, 5, []⟩]
def no3 : Nat → Option Addr × Nat := fun _ => (none, 0)
theorem no3_bids {F : Frag} : ∀ j, j < aw3.length → Bids F (no3 j).1 (no3 j).2 (aw3.getD j default).bids := by
  intro j hj
  have : (aw3.getD j default).bids = [] := by
    match j, hj with
    | 0, _ => rfl
    | 1, _ => rfl
    | 2, _ => rfl
    | n + 3, h => exact absurd h (by simp [aw3])
  rw [this]; exact Bids.none F
theorem row3 {F : Frag} {b : Nat} {w0 : World} (hF : Mem w0 F) (hm : cb b [.int .i64 3, .int .i64 1, .int .i64 1, .bool true, .int .i64 5, .int .i64 1, .int .i64 0, .int .i64 5, .slice none 0 0, .int .i64 7, .int .i64 1, .int .i64 1, .bool true, .int .i64 5, .int .i64 1, .int .i64 0, .int .i64 4, .slice none 0 0, .int .i64 9, .int .i64 1, .int .i64 1, .bool true, .int .i64 5, .int .i64 1, .int .i64 0, .int .i64 5, .slice none 0 0] 24 ∈ F) :
    Calls Try.prog 29 [.slice (some ⟨b, 0, none⟩) 3 3, .int .i64 5].toArray w0 (RetF (fun M v => ∃ a' cap', v = .slice a' 3 cap' ∧ Own M 2 1 a' 3 cap' ((List.range 3).flatMap fun j => [Value.int .i64 ([7, 3, 9].getD j 0)])) w0) := by
  have h := c_Row aw3 no3 5 w0 hF (Aucs.blk (cap := 3) aw3 no3 hm (by decide) (by decide) no3_bids) (by decide +kernel) (by decide) (by decide)
  have er : rowI aw3 no3 5 = [7, 3, 9] := by decide +kernel
  rw [er] at h
  exact h
theorem win29 {F : Frag} {b : Nat} {T : TypeId} {w0 : World} (hF : Mem w0 F) (hm : cb b [.int .i64 2, .int .i64 9] T ∈ F) :
    Calls Try.prog 18 [.agg ((sea 10 [⟨2, 9⟩]).cells (some ⟨b, 0, none⟩) 1).toArray].toArray w0 (Ret (.tuple #[.agg Bid.zero.cells.toArray, .bool false]) w0) := by
  have h := c_Winner (sea 10 [⟨2, 9⟩]) w0 hF (Bids.b1 hm)
  have ew : winF (sea 10 [⟨2, 9⟩]) = (Bid.zero, false) := by decide +kernel
  rw [ew] at h
  exact h
theorem take12 (w0 : World) : Calls Try.prog 15 [.agg ((eng 10 3 []).cells none 0).toArray, .agg #[.int .i64 2, .int .i64 12]].toArray w0 (RetF (fun M v => ∃ a cap, v = .tuple #[.agg ((eng 10 3 [⟨2, 12⟩]).cells a cap).toArray, .int .i64 0] ∧ OwnB M a cap [⟨2, 12⟩]) w0) := by
  have h := c_Take (eng 10 3 []) ⟨2, 12⟩ w0 (mem_none w0) (Bids.none [])
  have et : takeF (eng 10 3 []) ⟨2, 12⟩ = (eng 10 3 [⟨2, 12⟩], 0) := by decide +kernel
  rw [et] at h
  refine h.mono fun e w' => ?_
  rintro ⟨v, M, rfl, ⟨u, ⟨a, cap, rfl, hO⟩, rfl⟩, hS⟩
  exact ⟨_, M, rfl, ⟨a, cap, rfl, hO⟩, hS⟩
theorem least_at {a : Option Addr} {cap : Nat} (x : Auc) (v : Int) (hv : leastF x = v) {F : Frag} {w0 : World} (hF : Mem w0 F) (hs : Bids F a cap x.bids) :
    Calls Try.prog 24 [.agg (x.cells a cap).toArray].toArray w0 (Ret (.int .i64 v) w0) := hv ▸ c_Least x w0 hF hs
theorem won_at {a : Option Addr} {cap : Nat} (x : Auc) (acct price : Int) (v : Bool) (hv : wonF x acct price = v) {F : Frag} {w0 : World} (hF : Mem w0 F) (hs : Bids F a cap x.bids) :
    Calls Try.prog 42 [.agg (x.cells a cap).toArray, .int .i64 acct, .int .i64 price].toArray w0 (Ret (.bool v) w0) := hv ▸ c_won x acct price w0 hF hs
theorem Bids.b2 {F : Frag} {b : Nat} {T : TypeId} {x y x' y' : Int} (hm : cb b [.int .i64 x, .int .i64 y, .int .i64 x', .int .i64 y'] T ∈ F) : Bids F (some ⟨b, 0, Option.none⟩) 2 [⟨x, y⟩, ⟨x', y'⟩] := Bids.blk (cap := 2) [⟨x, y⟩, ⟨x', y'⟩] hm (Nat.le_refl _) (Nat.le_trans (Nat.le_refl 2) (by decide))
theorem Bids.b3 {F : Frag} {b : Nat} {T : TypeId} {x y x' y' x'' y'' : Int} (hm : cb b [.int .i64 x, .int .i64 y, .int .i64 x', .int .i64 y', .int .i64 x'', .int .i64 y''] T ∈ F) : Bids F (some ⟨b, 0, Option.none⟩) 3 [⟨x, y⟩, ⟨x', y'⟩, ⟨x'', y''⟩] := Bids.blk (cap := 3) [⟨x, y⟩, ⟨x', y'⟩, ⟨x'', y''⟩] hm (Nat.le_refl _) (Nat.le_trans (Nat.le_refl 3) (by decide))
set_option maxHeartbeats 1000000 in
theorem c_awake (w : World) : Calls Try.prog 12 [].toArray w (Ret (.bool true) w) := by
  refine enter [.tmp 0] Try.func12 rfl Try.ntmps12 rfl rfl ?_
  have H := St.start w
  repeat' (first
      | ((with_reducible apply OW.p sg); exact rfl; exact rfl; exact rfl; exact rfl)
      | ((with_reducible apply QW.p sg); exact rfl; exact rfl; exact rfl; exact rfl)
      | ((with_reducible apply OW.go); exact rfl)
      | ((with_reducible apply QW.go); exact rfl)
      | ((with_reducible apply OX.pure sg); exact rfl; exact rfl; exact rfl)
      | ((with_reducible apply QX.pure sg); exact rfl; exact rfl; exact rfl)
      | ((with_reducible apply OX.val); exact rfl; exact rfl; exact Yq.loadS sg rfl rfl H.mem (by first | exact List.Mem.head _ | exact List.Mem.tail _ (List.Mem.head _) | exact List.Mem.tail _ (List.Mem.tail _ (List.Mem.head _)) | exact List.Mem.tail _ (List.Mem.tail _ (List.Mem.tail _ (List.Mem.head _))) | exact List.Mem.tail _ (List.Mem.tail _ (List.Mem.tail _ (List.Mem.tail _ (List.Mem.head _)))) | (repeat (first | exact List.Mem.head _ | refine List.Mem.tail _ ?_))) rfl rfl)
      | ((with_reducible apply QX.val); exact rfl; exact rfl; exact Yq.loadS sg rfl rfl H.mem (by first | exact List.Mem.head _ | exact List.Mem.tail _ (List.Mem.head _) | exact List.Mem.tail _ (List.Mem.tail _ (List.Mem.head _)) | exact List.Mem.tail _ (List.Mem.tail _ (List.Mem.tail _ (List.Mem.head _))) | exact List.Mem.tail _ (List.Mem.tail _ (List.Mem.tail _ (List.Mem.tail _ (List.Mem.head _)))) | (repeat (first | exact List.Mem.head _ | refine List.Mem.tail _ ?_))) rfl rfl)
      | (refine OX.box H rfl rfl rfl rfl rfl ?_; intro b w H _)
      | (refine OX.alloc sg H rfl rfl rfl rfl rfl ?_; intro b w H _)
      | ((with_reducible apply OX.store sg H); exact rfl; exact rfl; exact rfl; exact rfl; exact rfl; exact rfl; (repeat (first | exact Up.here | apply Up.there)); exact rfl; exact rfl; exact rfl; exact rfl; intro w H)
      | ((with_reducible apply RW.nil); exact rfl)
      | ((with_reducible apply OX.call); exact rfl; exact rfl; exact En.fn ent34 rfl rfl; exact c_english 10 3 [] _ _ _; intro w hcl; replace H := H.ext hcl; clear hcl)
      | ((with_reducible apply QX.call); exact rfl; exact rfl; exact En.fn ent34 rfl rfl; exact (fun _ hcl => c_english 10 3 [] _ _ _))
      | ((with_reducible apply OX.call); exact rfl; exact rfl; exact En.fn ent36 rfl rfl; exact c_sealed _ [] _ _ _; intro w hcl; replace H := H.ext hcl; clear hcl)
      | ((with_reducible apply QX.call); exact rfl; exact rfl; exact En.fn ent36 rfl rfl; exact (fun _ hcl => c_sealed _ [] _ _ _))
      | ((with_reducible apply OX.call); exact rfl; exact rfl; exact En.fn ent36 rfl rfl; exact c_sealed _ [⟨2, 9⟩] _ _ _; intro w hcl; replace H := H.ext hcl; clear hcl)
      | ((with_reducible apply QX.call); exact rfl; exact rfl; exact En.fn ent36 rfl rfl; exact (fun _ hcl => c_sealed _ [⟨2, 9⟩] _ _ _))
      | ((with_reducible apply OX.buildS sg H); exact rfl; exact rfl; exact rfl; exact rfl; exact rfl; exact rfl; exact rfl; exact rfl; exact rfl; exact rfl; intro b w H _)
      | ((with_reducible apply OX.callF); exact rfl; exact rfl; exact En.fn ent15 rfl rfl; exact take12 _; intro v M w hR hS; replace H := H.addR hS; clear hS; try simp only [List.cons_append, List.nil_append] at H; obtain ⟨a', cap', rfl, hO⟩ := hR)
      | ((with_reducible apply OW.gY); exact rfl; exact rfl; exact rfl)
      | ((with_reducible apply OW.gN); exact rfl; exact rfl; exact rfl; exact rfl; exact rfl)
      | ((with_reducible apply QW.gY); exact rfl; exact rfl; exact rfl)
      | ((with_reducible apply QW.gN); exact rfl; exact rfl; exact rfl; exact rfl; exact rfl)
      | ((with_reducible apply OW.gS); exact rfl; exact rfl; exact rfl; all_goals intro h)
      | ((with_reducible apply QW.gS); exact rfl; exact rfl; exact rfl; all_goals intro h)
      | with_reducible apply OW.app
      | with_reducible apply OW.app0
      | with_reducible apply QW.app
      | with_reducible apply QW.app0
      | with_reducible apply OW.nil
      | ((with_reducible apply QW.nil); intro w hcl; replace H := H.ext hcl; clear hcl)
      | ((with_reducible apply RW.one); exact rfl; decide +kernel)
      | with_reducible apply thn_n
      | with_reducible apply CW.seq
      | with_reducible apply CW.region
      | ((with_reducible apply CW.regionD mixed); decide +kernel)
      | with_reducible apply CW.block
      | with_reducible apply CW.ret
      | with_reducible apply CW.exit
      | with_reducible apply CW.skip
      | with_reducible apply thn_r
      | with_reducible apply thn_e
      | with_reducible apply blk_n
      | with_reducible apply blk_r
      | ((with_reducible apply blk_e1); exact rfl)
      | ((with_reducible apply blk_e0); exact rfl)
      | ((with_reducible apply CW.condT); exact rfl)
      | ((with_reducible apply CW.condF); exact rfl))
  repeat' (first
      | ((with_reducible apply OW.p sg); exact rfl; exact rfl; exact rfl; exact rfl)
      | ((with_reducible apply QW.p sg); exact rfl; exact rfl; exact rfl; exact rfl)
      | ((with_reducible apply OW.go); exact rfl)
      | ((with_reducible apply QW.go); exact rfl)
      | ((with_reducible apply OX.pure sg); exact rfl; exact rfl; exact rfl)
      | ((with_reducible apply QX.pure sg); exact rfl; exact rfl; exact rfl)
      | ((with_reducible apply OX.val); exact rfl; exact rfl; exact Yq.loadS sg rfl rfl H.mem (by first | exact List.Mem.head _ | exact List.Mem.tail _ (List.Mem.head _) | exact List.Mem.tail _ (List.Mem.tail _ (List.Mem.head _)) | exact List.Mem.tail _ (List.Mem.tail _ (List.Mem.tail _ (List.Mem.head _))) | exact List.Mem.tail _ (List.Mem.tail _ (List.Mem.tail _ (List.Mem.tail _ (List.Mem.head _)))) | (repeat (first | exact List.Mem.head _ | refine List.Mem.tail _ ?_))) rfl rfl)
      | ((with_reducible apply QX.val); exact rfl; exact rfl; exact Yq.loadS sg rfl rfl H.mem (by first | exact List.Mem.head _ | exact List.Mem.tail _ (List.Mem.head _) | exact List.Mem.tail _ (List.Mem.tail _ (List.Mem.head _)) | exact List.Mem.tail _ (List.Mem.tail _ (List.Mem.tail _ (List.Mem.head _))) | exact List.Mem.tail _ (List.Mem.tail _ (List.Mem.tail _ (List.Mem.tail _ (List.Mem.head _)))) | (repeat (first | exact List.Mem.head _ | refine List.Mem.tail _ ?_))) rfl rfl)
      | (refine OX.box H rfl rfl rfl rfl rfl ?_; intro b w H _)
      | (refine OX.alloc sg H rfl rfl rfl rfl rfl ?_; intro b w H _)
      | ((with_reducible apply OX.store sg H); exact rfl; exact rfl; exact rfl; exact rfl; exact rfl; exact rfl; (repeat (first | exact Up.here | apply Up.there)); exact rfl; exact rfl; exact rfl; exact rfl; intro w H)
      | ((with_reducible apply RW.nil); exact rfl)
      | ((with_reducible apply OX.call); exact rfl; exact rfl; exact En.fn ent18 rfl rfl; exact win29 H.mem (List.Mem.head _); intro w hcl; replace H := H.ext hcl; clear hcl)
      | ((with_reducible apply QX.call); exact rfl; exact rfl; exact En.fn ent18 rfl rfl; exact (fun _ hcl => win29 (H.ext hcl).mem (List.Mem.head _)))
      | ((with_reducible apply OX.call); exact rfl; exact rfl; exact En.fn ent36 rfl rfl; exact c_sealed _ [] _ _ _; intro w hcl; replace H := H.ext hcl; clear hcl)
      | ((with_reducible apply QX.call); exact rfl; exact rfl; exact En.fn ent36 rfl rfl; exact (fun _ hcl => c_sealed _ [] _ _ _))
      | ((with_reducible apply OW.gY); exact rfl; exact rfl; exact rfl)
      | ((with_reducible apply OW.gN); exact rfl; exact rfl; exact rfl; exact rfl; exact rfl)
      | ((with_reducible apply QW.gY); exact rfl; exact rfl; exact rfl)
      | ((with_reducible apply QW.gN); exact rfl; exact rfl; exact rfl; exact rfl; exact rfl)
      | ((with_reducible apply OW.gS); exact rfl; exact rfl; exact rfl; all_goals intro h)
      | ((with_reducible apply QW.gS); exact rfl; exact rfl; exact rfl; all_goals intro h)
      | with_reducible apply OW.app
      | with_reducible apply OW.app0
      | with_reducible apply QW.app
      | with_reducible apply QW.app0
      | with_reducible apply OW.nil
      | ((with_reducible apply QW.nil); intro w hcl; replace H := H.ext hcl; clear hcl)
      | ((with_reducible apply RW.one); exact rfl; decide +kernel)
      | with_reducible apply thn_n
      | with_reducible apply CW.seq
      | with_reducible apply CW.region
      | ((with_reducible apply CW.regionD mixed); decide +kernel)
      | with_reducible apply CW.block
      | with_reducible apply CW.ret
      | with_reducible apply CW.exit
      | with_reducible apply CW.skip
      | with_reducible apply thn_r
      | with_reducible apply thn_e
      | with_reducible apply blk_n
      | with_reducible apply blk_r
      | ((with_reducible apply blk_e1); exact rfl)
      | ((with_reducible apply blk_e0); exact rfl)
      | ((with_reducible apply CW.condT); exact rfl)
      | ((with_reducible apply CW.condF); exact rfl))
  repeat' (first
      | ((with_reducible apply OW.p sg); exact rfl; exact rfl; exact rfl; exact rfl)
      | ((with_reducible apply QW.p sg); exact rfl; exact rfl; exact rfl; exact rfl)
      | ((with_reducible apply OW.go); exact rfl)
      | ((with_reducible apply QW.go); exact rfl)
      | ((with_reducible apply OX.pure sg); exact rfl; exact rfl; exact rfl)
      | ((with_reducible apply QX.pure sg); exact rfl; exact rfl; exact rfl)
      | ((with_reducible apply OX.val); exact rfl; exact rfl; exact Yq.loadS sg rfl rfl H.mem (by first | exact List.Mem.head _ | exact List.Mem.tail _ (List.Mem.head _) | exact List.Mem.tail _ (List.Mem.tail _ (List.Mem.head _)) | exact List.Mem.tail _ (List.Mem.tail _ (List.Mem.tail _ (List.Mem.head _))) | exact List.Mem.tail _ (List.Mem.tail _ (List.Mem.tail _ (List.Mem.tail _ (List.Mem.head _)))) | (repeat (first | exact List.Mem.head _ | refine List.Mem.tail _ ?_))) rfl rfl)
      | ((with_reducible apply QX.val); exact rfl; exact rfl; exact Yq.loadS sg rfl rfl H.mem (by first | exact List.Mem.head _ | exact List.Mem.tail _ (List.Mem.head _) | exact List.Mem.tail _ (List.Mem.tail _ (List.Mem.head _)) | exact List.Mem.tail _ (List.Mem.tail _ (List.Mem.tail _ (List.Mem.head _))) | exact List.Mem.tail _ (List.Mem.tail _ (List.Mem.tail _ (List.Mem.tail _ (List.Mem.head _)))) | (repeat (first | exact List.Mem.head _ | refine List.Mem.tail _ ?_))) rfl rfl)
      | (refine OX.box H rfl rfl rfl rfl rfl ?_; intro b w H _)
      | (refine OX.alloc sg H rfl rfl rfl rfl rfl ?_; intro b w H _)
      | ((with_reducible apply OX.store sg H); exact rfl; exact rfl; exact rfl; exact rfl; exact rfl; exact rfl; (repeat (first | exact Up.here | apply Up.there)); exact rfl; exact rfl; exact rfl; exact rfl; intro w H)
      | ((with_reducible apply RW.nil); exact rfl)
      | ((with_reducible apply OX.buildA sg H); exact rfl; exact rfl; exact rfl; exact rfl; exact rfl; exact rfl; exact rfl; exact rfl; exact rfl; exact rfl; exact rfl; exact rfl; intro b w H _)
      | ((with_reducible apply OX.callF); exact rfl; exact rfl; exact En.fn ent29 rfl rfl; exact row3 H.mem (List.Mem.head _); intro v M2 w hR hS; replace H := H.addR hS; clear hS; try simp only [List.cons_append, List.nil_append] at H; obtain ⟨a2, cap2, rfl, hO2⟩ := hR)
      | ((with_reducible apply OW.gY); exact rfl; exact rfl; exact rfl)
      | ((with_reducible apply OW.gN); exact rfl; exact rfl; exact rfl; exact rfl; exact rfl)
      | ((with_reducible apply QW.gY); exact rfl; exact rfl; exact rfl)
      | ((with_reducible apply QW.gN); exact rfl; exact rfl; exact rfl; exact rfl; exact rfl)
      | ((with_reducible apply OW.gS); exact rfl; exact rfl; exact rfl; all_goals intro h)
      | ((with_reducible apply QW.gS); exact rfl; exact rfl; exact rfl; all_goals intro h)
      | with_reducible apply OW.app
      | with_reducible apply OW.app0
      | with_reducible apply QW.app
      | with_reducible apply QW.app0
      | with_reducible apply OW.nil
      | ((with_reducible apply QW.nil); intro w hcl; replace H := H.ext hcl; clear hcl)
      | ((with_reducible apply RW.one); exact rfl; decide +kernel)
      | with_reducible apply thn_n
      | with_reducible apply CW.seq
      | with_reducible apply CW.region
      | ((with_reducible apply CW.regionD mixed); decide +kernel)
      | with_reducible apply CW.block
      | with_reducible apply CW.ret
      | with_reducible apply CW.exit
      | with_reducible apply CW.skip
      | with_reducible apply thn_r
      | with_reducible apply thn_e
      | with_reducible apply blk_n
      | with_reducible apply blk_r
      | ((with_reducible apply blk_e1); exact rfl)
      | ((with_reducible apply blk_e0); exact rfl)
      | ((with_reducible apply CW.condT); exact rfl)
      | ((with_reducible apply CW.condF); exact rfl))
  obtain ⟨g, cs, rfl, rfl, hcap, he⟩ := hO2.els (by decide) (fun j _ => rfl)
  have hs3 := fun (F : Frag) (hm : cb g cs 2 ∈ F) => he.slb (F := F) hm
  repeat' (first
      | ((with_reducible apply OW.p sg); exact rfl; exact rfl; exact rfl; exact rfl)
      | ((with_reducible apply QW.p sg); exact rfl; exact rfl; exact rfl; exact rfl)
      | ((with_reducible apply OW.go); exact rfl)
      | ((with_reducible apply QW.go); exact rfl)
      | ((with_reducible apply OX.pure sg); exact rfl; exact rfl; exact rfl)
      | ((with_reducible apply QX.pure sg); exact rfl; exact rfl; exact rfl)
      | ((with_reducible apply OX.val); exact rfl; exact rfl; exact Yq.loadS sg rfl rfl H.mem (by first | exact List.Mem.head _ | exact List.Mem.tail _ (List.Mem.head _) | exact List.Mem.tail _ (List.Mem.tail _ (List.Mem.head _)) | exact List.Mem.tail _ (List.Mem.tail _ (List.Mem.tail _ (List.Mem.head _))) | exact List.Mem.tail _ (List.Mem.tail _ (List.Mem.tail _ (List.Mem.tail _ (List.Mem.head _)))) | (repeat (first | exact List.Mem.head _ | refine List.Mem.tail _ ?_))) rfl rfl)
      | ((with_reducible apply QX.val); exact rfl; exact rfl; exact Yq.loadS sg rfl rfl H.mem (by first | exact List.Mem.head _ | exact List.Mem.tail _ (List.Mem.head _) | exact List.Mem.tail _ (List.Mem.tail _ (List.Mem.head _)) | exact List.Mem.tail _ (List.Mem.tail _ (List.Mem.tail _ (List.Mem.head _))) | exact List.Mem.tail _ (List.Mem.tail _ (List.Mem.tail _ (List.Mem.tail _ (List.Mem.head _)))) | (repeat (first | exact List.Mem.head _ | refine List.Mem.tail _ ?_))) rfl rfl)
      | (refine OX.box H rfl rfl rfl rfl rfl ?_; intro b w H _)
      | (refine OX.alloc sg H rfl rfl rfl rfl rfl ?_; intro b w H _)
      | ((with_reducible apply OX.store sg H); exact rfl; exact rfl; exact rfl; exact rfl; exact rfl; exact rfl; (repeat (first | exact Up.here | apply Up.there)); exact rfl; exact rfl; exact rfl; exact rfl; intro w H)
      | ((with_reducible apply RW.nil); exact rfl)
      | ((with_reducible apply OX.call); exact rfl; exact rfl; exact En.fn ent34 rfl rfl; exact c_english 10 3 [] _ _ _; intro w hcl; replace H := H.ext hcl; clear hcl)
      | ((with_reducible apply QX.call); exact rfl; exact rfl; exact En.fn ent34 rfl rfl; exact (fun _ hcl => c_english 10 3 [] _ _ _))
      | ((with_reducible apply OX.buildS sg H); exact rfl; exact rfl; exact rfl; exact rfl; exact rfl; exact rfl; exact rfl; exact rfl; exact rfl; exact rfl; intro b w H _)
      | ((with_reducible apply OX.buildA sg H); exact rfl; exact rfl; exact rfl; exact rfl; exact rfl; exact rfl; exact rfl; exact rfl; exact rfl; exact rfl; exact rfl; exact rfl; intro b w H _)
      | ((with_reducible apply OX.call); exact rfl; exact rfl; exact En.fn ent36 rfl rfl; exact c_sealed 10 [⟨2, 12⟩] _ _ _; intro w hcl; replace H := H.ext hcl; clear hcl)
      | ((with_reducible apply QX.call); exact rfl; exact rfl; exact En.fn ent36 rfl rfl; exact (fun _ hcl => c_sealed 10 [⟨2, 12⟩] _ _ _))
      | ((with_reducible apply OX.call); exact rfl; exact rfl; exact En.fn ent36 rfl rfl; exact c_sealed 10 [⟨2, 9⟩, ⟨3, 11⟩] _ _ _; intro w hcl; replace H := H.ext hcl; clear hcl)
      | ((with_reducible apply QX.call); exact rfl; exact rfl; exact En.fn ent36 rfl rfl; exact (fun _ hcl => c_sealed 10 [⟨2, 9⟩, ⟨3, 11⟩] _ _ _))
      | ((with_reducible apply OX.call); exact rfl; exact rfl; exact En.fn ent36 rfl rfl; exact c_sealed 10 [⟨2, 12⟩, ⟨3, 15⟩, ⟨4, 15⟩] _ _ _; intro w hcl; replace H := H.ext hcl; clear hcl)
      | ((with_reducible apply QX.call); exact rfl; exact rfl; exact En.fn ent36 rfl rfl; exact (fun _ hcl => c_sealed 10 [⟨2, 12⟩, ⟨3, 15⟩, ⟨4, 15⟩] _ _ _))
      | ((with_reducible apply OX.call); exact rfl; exact rfl; exact En.fn ent24 rfl rfl; exact least_at (eng 10 3 []) 10 (by decide +kernel) H.mem (Bids.none _); intro w hcl; replace H := H.ext hcl; clear hcl)
      | ((with_reducible apply QX.call); exact rfl; exact rfl; exact En.fn ent24 rfl rfl; exact (fun _ hcl => least_at (eng 10 3 []) 10 (by decide +kernel) (H.ext hcl).mem (Bids.none _)))
      | ((with_reducible apply OX.call); exact rfl; exact rfl; exact En.fn ent24 rfl rfl; exact least_at (eng 10 3 [⟨2, 12⟩]) 15 (by decide +kernel) H.mem (hO.bids (by intro p hp; repeat (first | exact hp | exact List.mem_append_left _ hp | apply List.mem_cons_of_mem)) (by decide)); intro w hcl; replace H := H.ext hcl; clear hcl)
      | ((with_reducible apply QX.call); exact rfl; exact rfl; exact En.fn ent24 rfl rfl; exact (fun _ hcl => least_at (eng 10 3 [⟨2, 12⟩]) 15 (by decide +kernel) (H.ext hcl).mem (hO.bids (by intro p hp; repeat (first | exact hp | exact List.mem_append_left _ hp | apply List.mem_cons_of_mem)) (by decide))))
      | ((with_reducible apply OX.call); exact rfl; exact rfl; exact En.fn ent42 rfl rfl; exact won_at (eng 10 3 [⟨2, 12⟩]) 2 12 true (by decide +kernel) H.mem (hO.bids (by intro p hp; repeat (first | exact hp | exact List.mem_append_left _ hp | apply List.mem_cons_of_mem)) (by decide)); intro w hcl; replace H := H.ext hcl; clear hcl)
      | ((with_reducible apply QX.call); exact rfl; exact rfl; exact En.fn ent42 rfl rfl; exact (fun _ hcl => won_at (eng 10 3 [⟨2, 12⟩]) 2 12 true (by decide +kernel) (H.ext hcl).mem (hO.bids (by intro p hp; repeat (first | exact hp | exact List.mem_append_left _ hp | apply List.mem_cons_of_mem)) (by decide))))
      | ((with_reducible apply OX.call); exact rfl; exact rfl; exact En.fn ent42 rfl rfl; exact won_at (sea 10 [⟨2, 12⟩, ⟨3, 15⟩, ⟨4, 15⟩]) 3 15 true (by decide +kernel) H.mem (Bids.b3 (List.Mem.head _)); intro w hcl; replace H := H.ext hcl; clear hcl)
      | ((with_reducible apply QX.call); exact rfl; exact rfl; exact En.fn ent42 rfl rfl; exact (fun _ hcl => won_at (sea 10 [⟨2, 12⟩, ⟨3, 15⟩, ⟨4, 15⟩]) 3 15 true (by decide +kernel) (H.ext hcl).mem (Bids.b3 (List.Mem.head _))))
      | ((with_reducible apply OX.call); exact rfl; exact rfl; exact En.fn ent42 rfl rfl; exact won_at (sea 10 [⟨2, 12⟩]) 2 10 true (by decide +kernel) H.mem (Bids.b1 (List.Mem.head _)); intro w hcl; replace H := H.ext hcl; clear hcl)
      | ((with_reducible apply QX.call); exact rfl; exact rfl; exact En.fn ent42 rfl rfl; exact (fun _ hcl => won_at (sea 10 [⟨2, 12⟩]) 2 10 true (by decide +kernel) (H.ext hcl).mem (Bids.b1 (List.Mem.head _))))
      | ((with_reducible apply OX.call); exact rfl; exact rfl; exact En.fn ent42 rfl rfl; exact won_at (sea 10 [⟨2, 9⟩, ⟨3, 11⟩]) 3 10 true (by decide +kernel) H.mem (Bids.b2 (List.Mem.head _)); intro w hcl; replace H := H.ext hcl; clear hcl)
      | ((with_reducible apply QX.call); exact rfl; exact rfl; exact En.fn ent42 rfl rfl; exact (fun _ hcl => won_at (sea 10 [⟨2, 9⟩, ⟨3, 11⟩]) 3 10 true (by decide +kernel) (H.ext hcl).mem (Bids.b2 (List.Mem.head _))))
      | ((with_reducible apply OX.val); exact rfl; exact rfl; exact Yq.ixB sg (hs3 [cb g cs 2] (List.Mem.head _)) rfl rfl rfl rfl rfl rfl rfl (by first | with_reducible exact Int.toNat_natCast _ | exact toNat_pred (by omega) (by omega) | with_reducible exact toNat_0 | exact toNat_self _) (by decide) (by decide))
      | ((with_reducible apply QX.val); exact rfl; exact rfl; exact Yq.ixB sg (hs3 [cb g cs 2] (List.Mem.head _)) rfl rfl rfl rfl rfl rfl rfl (by first | with_reducible exact Int.toNat_natCast _ | exact toNat_pred (by omega) (by omega) | with_reducible exact toNat_0 | exact toNat_self _) (by decide) (by decide))
      | ((with_reducible apply OX.val); exact rfl; exact rfl; exact Yq.loadB1 sg (hs3 _ (by repeat (first | exact List.Mem.head _ | exact List.mem_append_right _ (List.Mem.head _) | refine List.Mem.tail _ ?_))) H.mem rfl rfl rfl rfl (by decide) rfl)
      | ((with_reducible apply QX.val); exact rfl; exact rfl; exact Yq.loadB1 sg (hs3 _ (by repeat (first | exact List.Mem.head _ | exact List.mem_append_right _ (List.Mem.head _) | refine List.Mem.tail _ ?_))) H.mem rfl rfl rfl rfl (by decide) rfl)
      | ((with_reducible apply OW.gY); exact rfl; exact rfl; exact rfl)
      | ((with_reducible apply OW.gN); exact rfl; exact rfl; exact rfl; exact rfl; exact rfl)
      | ((with_reducible apply QW.gY); exact rfl; exact rfl; exact rfl)
      | ((with_reducible apply QW.gN); exact rfl; exact rfl; exact rfl; exact rfl; exact rfl)
      | ((with_reducible apply OW.gS); exact rfl; exact rfl; exact rfl; all_goals intro h)
      | ((with_reducible apply QW.gS); exact rfl; exact rfl; exact rfl; all_goals intro h)
      | with_reducible apply OW.app
      | with_reducible apply OW.app0
      | with_reducible apply QW.app
      | with_reducible apply QW.app0
      | with_reducible apply OW.nil
      | ((with_reducible apply QW.nil); intro w hcl; replace H := H.ext hcl; clear hcl)
      | ((with_reducible apply RW.one); exact rfl; decide +kernel)
      | with_reducible apply thn_n
      | with_reducible apply CW.seq
      | with_reducible apply CW.region
      | ((with_reducible apply CW.regionD mixed); decide +kernel)
      | with_reducible apply CW.block
      | with_reducible apply CW.ret
      | with_reducible apply CW.exit
      | with_reducible apply CW.skip
      | with_reducible apply thn_r
      | with_reducible apply thn_e
      | with_reducible apply blk_n
      | with_reducible apply blk_r
      | ((with_reducible apply blk_e1); exact rfl)
      | ((with_reducible apply blk_e0); exact rfl)
      | ((with_reducible apply CW.condT); exact rfl)
      | ((with_reducible apply CW.condF); exact rfl))
  all_goals first | exact ret1 rfl H.cl rfl
end Go.Proofs.Ytkcoemikglbomaa
