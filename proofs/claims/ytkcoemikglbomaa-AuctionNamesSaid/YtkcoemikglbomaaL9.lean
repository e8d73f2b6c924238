/- The law AuctionNames, walked: the first part, each of seventeen auctions that may not be. -/
import Derived.Test.YtkcoemikglbomaaL8
set_option linter.unusedSimpArgs false
set_option linter.unusedVariables false
namespace Go.Proofs.Ytkcoemikglbomaa
open Go Go.Sk Go.RowKit
attribute [local irreducible] Go.Calls
theorem st_name9 {w0 w : World} {G : Frag} (H : St w0 G w) : ∃ G', G' = G ∧ St w0 G' w := ⟨G, rfl, H⟩
structure Nz where
  z : Auc
  a : Option Addr
  cap : Nat
  m : Frag
def fullL (i : Nat) : List Bid := (List.range i).map fun (j : Nat) => (⟨(j : Int) + 2, 5⟩ : Bid)
theorem fullL_len (i : Nat) : (fullL i).length = i := by simp [fullL]
theorem fullL_succ (i : Nat) : fullL (i + 1) = fullL i ++ [⟨(i : Int) + 2, 5⟩] := by simp [fullL, List.range_succ]
structure Fw where
  i : Nat
  a : Option Addr
  cap : Nat
  m : Frag
theorem sea_cells (r : Int) (l : List Bid) (a : Option Addr) (cap : Nat) : (sea r l).cells a cap = [.int .i64 1, .int .i64 1, .int .i64 1, .bool true, .int .i64 5, .int .i64 r, .int .i64 0, .int .i64 9, .slice a l.length cap] := rfl
theorem take_no {x : Auc} {y : Bid} {e : Int} {a : Option Addr} {cap : Nat} {F : Frag} {w : World} (h : takeF x y = (Auc.zero, e)) (hF : Mem w F) (hs : Bids F a cap x.bids) :
    Calls Try.prog 15 [.agg (x.cells a cap).toArray, .agg y.cells.toArray].toArray w (RetF (fun M v => ∃ a c, v = .tuple #[.agg (Auc.zero.cells a c).toArray, .int .i64 e]) w) := by
  have := c_Take x y _ hF hs
  rw [h] at this
  refine this.mono fun e w' => ?_
  rintro ⟨v, M, rfl, ⟨u, ⟨a, c, rfl, hO⟩, rfl⟩, hS⟩
  exact ⟨_, M, rfl, ⟨a, c, rfl⟩, hS⟩
theorem take_13 {g0 : Nat} {F : Frag} {w : World} (hF : Mem w F) (hm : cb g0 [.int .i64 2, .int .i64 10] 26 ∈ F) :
    Calls Try.prog 15 [.agg ((eng 10 3 [⟨2, 10⟩]).cells (some ⟨g0, 0, none⟩) 1).toArray, .agg #[.int .i64 2, .int .i64 13]].toArray w (RetF (fun M v => ∃ a c, v = .tuple #[.agg ((eng 10 3 [⟨2, 13⟩]).cells a c).toArray, .int .i64 0]) w) := by
  have := c_Take (eng 10 3 [⟨2, 10⟩]) ⟨2, 13⟩ _ hF (Bids.b1 hm)
  rw [show takeF (eng 10 3 [⟨2, 10⟩]) ⟨2, 13⟩ = (eng 10 3 [⟨2, 13⟩], 0) by decide +kernel] at this
  refine this.mono fun e w' => ?_
  rintro ⟨v, M, rfl, ⟨u, ⟨a, c, rfl, hO⟩, rfl⟩, hS⟩
  exact ⟨_, M, rfl, ⟨a, c, rfl⟩, hS⟩
theorem take_g {g0 : Nat} {F : Frag} {w : World} {p q e : Int} (h : takeF (eng 10 3 [⟨2, 10⟩]) ⟨p, q⟩ = (Auc.zero, e)) (hF : Mem w F) (hm : cb g0 [.int .i64 2, .int .i64 10] 26 ∈ F) :
    Calls Try.prog 15 [.agg ((eng 10 3 [⟨2, 10⟩]).cells (some ⟨g0, 0, none⟩) 1).toArray, .agg #[.int .i64 p, .int .i64 q]].toArray w (RetF (fun M v => ∃ a c, v = .tuple #[.agg (Auc.zero.cells a c).toArray, .int .i64 e]) w) := take_no h hF (Bids.b1 hm)
theorem take_f {a : Option Addr} {cap : Nat} {m F : Frag} {w : World} {p q e : Int} (h : takeF (sea 10 (fullL 16)) ⟨p, q⟩ = (Auc.zero, e)) (hF : Mem w F) (hO : OwnB m a cap (fullL 16)) (hm : m ⊆ F) :
    Calls Try.prog 15 [.agg ((sea 10 (fullL 16)).cells a cap).toArray, .agg #[.int .i64 p, .int .i64 q]].toArray w (RetF (fun M v => ∃ a c, v = .tuple #[.agg (Auc.zero.cells a c).toArray, .int .i64 e]) w) :=
  take_no (y := ⟨p, q⟩) h hF (hO.bids hm (by rw [fullL_len]; decide))
theorem own_f {a : Option Addr} {cap : Nat} {m F : Frag} {w : World} (hF : Mem w F) (hO : OwnB m a cap (fullL 16)) (hm : m ⊆ F) :
    Calls Try.prog 13 [.agg ((sea 10 (fullL 16)).cells a cap).toArray].toArray w (RetF (OwnA (sea 10 (fullL 16))) w) :=
  c_Own _ _ hF (hO.bids hm (by rw [fullL_len]; decide)) (by show (fullL 16).length ≤ 8796093022208; rw [fullL_len]; decide)
theorem tf1 : takeF (sea 10 (fullL 16)) ⟨18, 5⟩ = (Auc.zero, 40) := by decide +kernel
theorem tf2 : takeF (sea 10 (fullL 16)) ⟨17, 5⟩ = (Auc.zero, 6) := by decide +kernel
theorem tf3 : takeF (sea 10 (fullL 16)) ⟨1, 5⟩ = (Auc.zero, 49) := by decide +kernel
theorem tf4 : takeF (sea 10 (fullL 16)) ⟨1, 0⟩ = (Auc.zero, 1) := by decide +kernel
theorem tg1 : takeF (eng 10 3 [⟨2, 10⟩]) ⟨65, 1⟩ = (Auc.zero, 1) := by decide +kernel
theorem tg2 : takeF (eng 10 3 [⟨2, 10⟩]) ⟨3, 12⟩ = (Auc.zero, 51) := by decide +kernel
def auL : List Auc := (List.range 33).map fun (j : Nat) => (⟨(j : Int) + 1, 1, 1, true, 5, 10, 0, 9, []⟩ : Auc)
theorem auL_len : auL.length = 33 := by simp [auL]
theorem auL_at {i : Nat} (hi : i < 33) : auL.getD i default = ⟨(i : Int) + 1, 1, 1, true, 5, 10, 0, 9, []⟩ := by simp [auL, List.getD, hi]
theorem au_all {n cap : Nat} {a : Option Addr} {m F : Frag} {w : World} (hn : n ≤ 33) (hO : Own m 24 9 a 33 cap ((List.range 33).flatMap (ael auL no3))) (hF : Mem w F) (hm : m ⊆ F) :
    Calls Try.prog 32 [.slice a n cap].toArray w (Ret (.bool (mayAllF (auL.take n))) w) := by
  have hl : (auL.take n).length = n := by rw [List.length_take, auL_len]; omega
  obtain ⟨h1, h2, b, off, cs, T, fr, h3⟩ := Own.sl hO hm (fun j _ => rfl) (by decide)
  have hat : ∀ j, j < n → (auL.take n).getD j default = auL.getD j default := fun j hj => by simp [List.getD, List.getElem?_take, hj]
  have := c_MayAll (a := a) (cap := cap) (auL.take n) no3 w hF ⟨by
    rw [hl]
    refine ⟨by omega, by omega, b, off, cs, T, fr, fun h0 => ⟨(h3 (by decide)).1, (h3 (by decide)).2.1, fun j hj => ⟨((h3 (by decide)).2.2 j (by omega)).1, ?_⟩⟩⟩
    refine ((h3 (by decide)).2.2 j (by omega)).2.trans ?_
    unfold ael
    rw [hat j hj], fun j hj => by
    rw [hl] at hj
    rw [hat j hj, auL_at (by omega)]
    exact Bids.none F⟩
  rw [hl] at this
  exact this
theorem au_two {b : Nat} {F : Frag} {w : World} (hF : Mem w F) (hm : cb b [.int .i64 1, .int .i64 1, .int .i64 1, .bool true, .int .i64 5, .int .i64 10, .int .i64 0, .int .i64 9, .slice none 0 0, .int .i64 1, .int .i64 1, .int .i64 1, .bool true, .int .i64 5, .int .i64 10, .int .i64 0, .int .i64 9, .slice none 0 0] 24 ∈ F) :
    Calls Try.prog 32 [.slice (some ⟨b, 0, none⟩) 2 2].toArray w (Ret (.bool false) w) := by
  have h := c_MayAll (a := some ⟨b, 0, none⟩) (cap := 2) [⟨1, 1, 1, true, 5, 10, 0, 9, []⟩, ⟨1, 1, 1, true, 5, 10, 0, 9, []⟩] no3 w hF (Aucs.blk (cap := 2) _ no3 hm (Nat.le_refl _) (Nat.le_trans (Nat.le_refl 2) (by decide)) (fun j hj => by
    match j, hj with
    | 0, _ => exact Bids.none F
    | 1, _ => exact Bids.none F))
  rw [show mayAllF [⟨1, 1, 1, true, 5, 10, 0, 9, []⟩, ⟨1, 1, 1, true, 5, 10, 0, 9, []⟩] = false by decide +kernel] at h
  exact h
theorem au_nil (w : World) : Calls Try.prog 32 [.slice none 0 0].toArray w (Ret (.bool true) w) := by
  have h := c_MayAll (a := none) (cap := 0) [] no3 w (mem_none w) ⟨⟨Nat.le_refl _, Nat.zero_le _, 0, 0, [], 0, (0, 0), fun h => absurd h (Nat.lt_irrefl _)⟩, fun j hj => absurd hj (Nat.not_lt_zero _)⟩
  rw [show mayAllF [] = true by decide +kernel] at h
  exact h
theorem may_more {a : Option Addr} {cap : Nat} {m F : Frag} {w : World} (hO : Own m 26 2 a ((fullL 16).length + 1) cap ((List.range (fullL 16).length).flatMap (bel (fullL 16)) ++ [.int .i64 18, .int .i64 5])) (hF : Mem w F) (hm : m ⊆ F) :
    Calls Try.prog 17 [.agg #[.int .i64 1, .int .i64 1, .int .i64 1, .bool true, .int .i64 5, .int .i64 10, .int .i64 0, .int .i64 9, .slice a ((fullL 16).length + 1) cap]].toArray w (Ret (.bool false) w) := by
  have hO2 : OwnB m a cap (fullL 17) := by
    rw [fullL_succ]
    show Own m _ 2 a (fullL 16 ++ [_]).length cap ((List.range (fullL 16 ++ [(⟨((16 : Nat) : Int) + 2, 5⟩ : Bid)]).length).flatMap (bel (fullL 16 ++ [⟨((16 : Nat) : Int) + 2, 5⟩])))
    rw [← flat_snoc, List.length_append]
    exact hO
  have h := c_May (sea 10 (fullL 17)) w hF (hO2.bids hm (by rw [fullL_len]; decide))
  rw [show mayF (sea 10 (fullL 17)) = false by decide +kernel, sea_cells, show (fullL 17).length = (fullL 16).length + 1 by rw [fullL_len, fullL_len]] at h
  exact h
theorem may_full {a : Option Addr} {cap : Nat} {m F : Frag} {w : World} (hF : Mem w F) (hO : OwnB m a cap (fullL 16)) (hm : m ⊆ F) :
    Calls Try.prog 17 [.agg ((sea 10 (fullL 16)).cells a cap).toArray].toArray w (Ret (.bool true) w) := by
  have h := c_May (sea 10 (fullL 16)) w hF (hO.bids hm (by rw [fullL_len]; decide))
  rw [show mayF (sea 10 (fullL 16)) = true by decide +kernel] at h
  exact h
theorem may_good {g0 : Nat} {F : Frag} {w : World} (hF : Mem w F) (hm : cb g0 [.int .i64 2, .int .i64 10] 26 ∈ F) :
    Calls Try.prog 17 [.agg ((eng 10 3 [⟨2, 10⟩]).cells (some ⟨g0, 0, none⟩) 1).toArray].toArray w (Ret (.bool true) w) := by
  have h := c_May (eng 10 3 [⟨2, 10⟩]) w hF (Bids.b1 hm)
  rw [show mayF (eng 10 3 [⟨2, 10⟩]) = true by decide +kernel] at h
  exact h
theorem m32 : mayAllF (auL.take 32) = true := by decide +kernel
theorem m33 : mayAllF (auL.take 33) = false := by decide +kernel
theorem own9 {F : Frag} {g0 : Nat} {w : World} (hF : Mem w F) (hm : cb g0 [.int .i64 2, .int .i64 10] 26 ∈ F) :
    Calls Try.prog 13 [.agg ((eng 10 3 [⟨2, 10⟩]).cells (some ⟨g0, 0, none⟩) 1).toArray].toArray w (RetF (OwnA (eng 10 3 [⟨2, 10⟩])) w) :=
  c_Own _ _ hF (Bids.b1 hm) (show 1 ≤ 8796093022208 by decide)
set_option maxRecDepth 20000 in
set_option maxHeartbeats 4000000 in
theorem c_Names (w0 : World) : Calls Try.prog 9 [].toArray w0 (Ret (.bool true) w0) := by
  refine enter [.tmp 0] Try.func9 rfl Try.ntmps9 rfl rfl ?_
  have H := St.start w0
  repeat' (first
      | ((with_reducible apply OW.p sg); exact rfl; exact rfl; exact rfl; exact rfl)
      | ((with_reducible apply QW.p sg); exact rfl; exact rfl; exact rfl; exact rfl)
      | ((with_reducible apply OW.go); exact rfl)
      | ((with_reducible apply QW.go); exact rfl)
      | ((with_reducible apply OX.pure sg); exact rfl; exact rfl; exact rfl)
      | ((with_reducible apply QX.pure sg); exact rfl; exact rfl; exact rfl)
      | ((with_reducible apply OX.val); exact rfl; exact rfl; exact Yq.loadS sg rfl rfl H.mem (by first | exact List.Mem.head _ | exact List.Mem.tail _ (List.Mem.head _) | exact List.Mem.tail _ (List.Mem.tail _ (List.Mem.head _)) | exact List.Mem.tail _ (List.Mem.tail _ (List.Mem.tail _ (List.Mem.head _))) | exact List.Mem.tail _ (List.Mem.tail _ (List.Mem.tail _ (List.Mem.tail _ (List.Mem.head _)))) | (repeat (first | exact List.Mem.head _ | refine List.Mem.tail _ ?_))) rfl rfl)
      | ((with_reducible apply QX.val); exact rfl; exact rfl; exact Yq.loadS sg rfl rfl H.mem (by first | exact List.Mem.head _ | exact List.Mem.tail _ (List.Mem.head _) | exact List.Mem.tail _ (List.Mem.tail _ (List.Mem.head _)) | exact List.Mem.tail _ (List.Mem.tail _ (List.Mem.tail _ (List.Mem.head _))) | exact List.Mem.tail _ (List.Mem.tail _ (List.Mem.tail _ (List.Mem.tail _ (List.Mem.head _)))) | (repeat (first | exact List.Mem.head _ | refine List.Mem.tail _ ?_))) rfl rfl)
      | (refine OX.box H rfl rfl rfl rfl rfl ?_; intro b w H _)
      | (refine OX.alloc sg H rfl rfl rfl rfl rfl ?_; intro b w H _)
      | ((with_reducible apply OX.store sg H); exact rfl; exact rfl; exact rfl; exact rfl; exact rfl; exact rfl; (repeat (first | exact Up.here | apply Up.there)); exact rfl; exact rfl; exact rfl; exact rfl; intro w H)
      | ((with_reducible apply RW.nil); exact rfl)
      | ((with_reducible apply OX.call); exact rfl; exact rfl; exact En.fn ent12 rfl rfl; exact c_awake _; intro w hcl; replace H := H.ext hcl; clear hcl)
      | ((with_reducible apply QX.call); exact rfl; exact rfl; exact En.fn ent12 rfl rfl; exact (fun _ hcl => c_awake _))
      | ((with_reducible apply OX.buildS sg H); exact rfl; exact rfl; exact rfl; exact rfl; exact rfl; exact rfl; exact rfl; exact rfl; exact rfl; exact rfl; intro b w H _)
      | ((with_reducible apply OX.call); exact rfl; exact rfl; exact En.fn ent34 rfl rfl; exact c_english 10 3 [⟨2, 10⟩] _ _ _; intro w hcl; replace H := H.ext hcl; clear hcl)
      | ((with_reducible apply QX.call); exact rfl; exact rfl; exact En.fn ent34 rfl rfl; exact (fun _ hcl => c_english 10 3 [⟨2, 10⟩] _ _ _))
      | ((with_reducible apply OW.gY); exact rfl; exact rfl; exact rfl)
      | ((with_reducible apply OW.gN); exact rfl; exact rfl; exact rfl; exact rfl; exact rfl)
      | ((with_reducible apply QW.gY); exact rfl; exact rfl; exact rfl)
      | ((with_reducible apply QW.gN); exact rfl; exact rfl; exact rfl; exact rfl; exact rfl)
      | ((with_reducible apply OW.gS); exact rfl; exact rfl; exact rfl; all_goals intro h)
      | ((with_reducible apply QW.gS); exact rfl; exact rfl; exact rfl; all_goals intro h)
      | with_reducible apply OW.app
      | with_reducible apply OW.app0
      | with_reducible apply QW.app
      | with_reducible apply QW.app0
      | with_reducible apply OW.nil
      | ((with_reducible apply QW.nil); intro w hcl; replace H := H.ext hcl; clear hcl)
      | ((with_reducible apply RW.one); exact rfl; decide +kernel)
      | with_reducible apply thn_n
      | with_reducible apply CW.seq
      | with_reducible apply CW.region
      | ((with_reducible apply CW.regionD mixed); decide +kernel)
      | with_reducible apply CW.block
      | with_reducible apply CW.ret
      | with_reducible apply CW.exit
      | with_reducible apply CW.skip
      | with_reducible apply thn_r
      | with_reducible apply thn_e
      | with_reducible apply blk_n
      | with_reducible apply blk_r
      | ((with_reducible apply blk_e1); exact rfl)
      | ((with_reducible apply blk_e0); exact rfl)
      | ((with_reducible apply CW.condT); exact rfl)
      | ((with_reducible apply CW.condF); exact rfl))
  obtain ⟨G, hG, H⟩ := st_name9 H
  refine CW.loopI [(0, 0), (2, 11), (37, 171)] (fun k : Nat => [(2, .int .i64 (k : Int))]) (fun k w => k ≤ 17 ∧ St w0 G w) (fun k => 17 - k) 0 ⟨rfl, trivial⟩ ⟨Nat.zero_le _, H⟩ ?_
  clear H
  rintro k g w ⟨hk, H⟩
  rw [hG] at H
  repeat' (first
      | ((with_reducible apply OW.p sg); exact rfl; exact rfl; exact rfl; exact rfl)
      | ((with_reducible apply QW.p sg); exact rfl; exact rfl; exact rfl; exact rfl)
      | ((with_reducible apply OW.go); exact rfl)
      | ((with_reducible apply QW.go); exact rfl)
      | ((with_reducible apply OX.pure sg); exact rfl; exact rfl; exact rfl)
      | ((with_reducible apply QX.pure sg); exact rfl; exact rfl; exact rfl)
      | ((with_reducible apply OX.val); exact rfl; exact rfl; exact Yq.loadS sg rfl rfl H.mem (by first | exact List.Mem.head _ | exact List.Mem.tail _ (List.Mem.head _) | exact List.Mem.tail _ (List.Mem.tail _ (List.Mem.head _)) | exact List.Mem.tail _ (List.Mem.tail _ (List.Mem.tail _ (List.Mem.head _))) | exact List.Mem.tail _ (List.Mem.tail _ (List.Mem.tail _ (List.Mem.tail _ (List.Mem.head _)))) | (repeat (first | exact List.Mem.head _ | refine List.Mem.tail _ ?_))) rfl rfl)
      | ((with_reducible apply QX.val); exact rfl; exact rfl; exact Yq.loadS sg rfl rfl H.mem (by first | exact List.Mem.head _ | exact List.Mem.tail _ (List.Mem.head _) | exact List.Mem.tail _ (List.Mem.tail _ (List.Mem.head _)) | exact List.Mem.tail _ (List.Mem.tail _ (List.Mem.tail _ (List.Mem.head _))) | exact List.Mem.tail _ (List.Mem.tail _ (List.Mem.tail _ (List.Mem.tail _ (List.Mem.head _)))) | (repeat (first | exact List.Mem.head _ | refine List.Mem.tail _ ?_))) rfl rfl)
      | (refine OX.box H rfl rfl rfl rfl rfl ?_; intro b w H _)
      | (refine OX.alloc sg H rfl rfl rfl rfl rfl ?_; intro b w H _)
      | ((with_reducible apply OX.store sg H); exact rfl; exact rfl; exact rfl; exact rfl; exact rfl; exact rfl; (repeat (first | exact Up.here | apply Up.there)); exact rfl; exact rfl; exact rfl; exact rfl; intro w H)
      | ((with_reducible apply RW.nil); exact rfl)
      | ((with_reducible apply OW.gY); exact rfl; exact rfl; exact rfl)
      | ((with_reducible apply OW.gN); exact rfl; exact rfl; exact rfl; exact rfl; exact rfl)
      | ((with_reducible apply QW.gY); exact rfl; exact rfl; exact rfl)
      | ((with_reducible apply QW.gN); exact rfl; exact rfl; exact rfl; exact rfl; exact rfl)
      | ((with_reducible apply OW.gS); exact rfl; exact rfl; exact rfl; all_goals intro h)
      | ((with_reducible apply QW.gS); exact rfl; exact rfl; exact rfl; all_goals intro h)
      | with_reducible apply OW.app
      | with_reducible apply OW.app0
      | with_reducible apply QW.app
      | with_reducible apply QW.app0
      | with_reducible apply OW.nil
      | ((with_reducible apply QW.nil); intro w hcl; replace H := H.ext hcl; clear hcl)
      | ((with_reducible apply RW.one); exact rfl; decide +kernel)
      | with_reducible apply thn_n
      | with_reducible apply CW.seq
      | with_reducible apply CW.region
      | ((with_reducible apply CW.regionD mixed); decide +kernel)
      | with_reducible apply CW.block
      | with_reducible apply CW.ret
      | with_reducible apply CW.exit
      | with_reducible apply CW.skip
      | with_reducible apply thn_r
      | with_reducible apply thn_e
      | with_reducible apply blk_n
      | with_reducible apply blk_r
      | ((with_reducible apply blk_e1); exact rfl)
      | ((with_reducible apply blk_e0); exact rfl)
      | ((with_reducible apply CW.condT); exact rfl)
      | ((with_reducible apply CW.condF); exact rfl))
  refine CW.cond rfl (fun h2 => ?_) (fun h2 => ?_)
  · have hlt : k < 17 := by have := of_decide_eq_true h2; omega
    repeat' (first
        | ((with_reducible apply OW.p sg); exact rfl; exact rfl; exact rfl; exact rfl)
        | ((with_reducible apply QW.p sg); exact rfl; exact rfl; exact rfl; exact rfl)
        | ((with_reducible apply OW.go); exact rfl)
        | ((with_reducible apply QW.go); exact rfl)
        | ((with_reducible apply OX.pure sg); exact rfl; exact rfl; exact rfl)
        | ((with_reducible apply QX.pure sg); exact rfl; exact rfl; exact rfl)
        | ((with_reducible apply OX.val); exact rfl; exact rfl; exact Yq.loadS sg rfl rfl H.mem (by first | exact List.Mem.head _ | exact List.Mem.tail _ (List.Mem.head _) | exact List.Mem.tail _ (List.Mem.tail _ (List.Mem.head _)) | exact List.Mem.tail _ (List.Mem.tail _ (List.Mem.tail _ (List.Mem.head _))) | exact List.Mem.tail _ (List.Mem.tail _ (List.Mem.tail _ (List.Mem.tail _ (List.Mem.head _)))) | (repeat (first | exact List.Mem.head _ | refine List.Mem.tail _ ?_))) rfl rfl)
        | ((with_reducible apply QX.val); exact rfl; exact rfl; exact Yq.loadS sg rfl rfl H.mem (by first | exact List.Mem.head _ | exact List.Mem.tail _ (List.Mem.head _) | exact List.Mem.tail _ (List.Mem.tail _ (List.Mem.head _)) | exact List.Mem.tail _ (List.Mem.tail _ (List.Mem.tail _ (List.Mem.head _))) | exact List.Mem.tail _ (List.Mem.tail _ (List.Mem.tail _ (List.Mem.tail _ (List.Mem.head _)))) | (repeat (first | exact List.Mem.head _ | refine List.Mem.tail _ ?_))) rfl rfl)
        | (refine OX.box H rfl rfl rfl rfl rfl ?_; intro b w H _)
        | (refine OX.alloc sg H rfl rfl rfl rfl rfl ?_; intro b w H _)
        | ((with_reducible apply OX.store sg H); exact rfl; exact rfl; exact rfl; exact rfl; exact rfl; exact rfl; (repeat (first | exact Up.here | apply Up.there)); exact rfl; exact rfl; exact rfl; exact rfl; intro w H)
        | ((with_reducible apply RW.nil); exact rfl)
        | ((with_reducible apply OW.gY); exact rfl; exact rfl; exact rfl)
        | ((with_reducible apply OW.gN); exact rfl; exact rfl; exact rfl; exact rfl; exact rfl)
        | ((with_reducible apply QW.gY); exact rfl; exact rfl; exact rfl)
        | ((with_reducible apply QW.gN); exact rfl; exact rfl; exact rfl; exact rfl; exact rfl)
        | ((with_reducible apply OW.gS); exact rfl; exact rfl; exact rfl; all_goals intro h)
        | ((with_reducible apply QW.gS); exact rfl; exact rfl; exact rfl; all_goals intro h)
        | with_reducible apply OW.app
        | with_reducible apply OW.app0
        | with_reducible apply QW.app
        | with_reducible apply QW.app0
        | with_reducible apply OW.nil
        | ((with_reducible apply QW.nil); intro w hcl; replace H := H.ext hcl; clear hcl)
        | ((with_reducible apply RW.one); exact rfl; decide +kernel)
        | with_reducible apply thn_n
        | with_reducible apply CW.seq
        | with_reducible apply CW.region
        | ((with_reducible apply CW.regionD mixed); decide +kernel)
        | with_reducible apply CW.ret
        | with_reducible apply CW.exit
        | with_reducible apply CW.skip
        | with_reducible apply thn_r
        | with_reducible apply thn_e
        | with_reducible apply blk_n
        | with_reducible apply blk_r
        | ((with_reducible apply blk_e1); exact rfl)
        | ((with_reducible apply blk_e0); exact rfl)
        | ((with_reducible apply CW.condT); exact rfl)
        | ((with_reducible apply CW.condF); exact rfl))
    with_reducible apply CW.block
    repeat' (first
        | ((with_reducible apply OW.p sg); exact rfl; exact rfl; exact rfl; exact rfl)
        | ((with_reducible apply QW.p sg); exact rfl; exact rfl; exact rfl; exact rfl)
        | ((with_reducible apply OW.go); exact rfl)
        | ((with_reducible apply QW.go); exact rfl)
        | ((with_reducible apply OX.pure sg); exact rfl; exact rfl; exact rfl)
        | ((with_reducible apply QX.pure sg); exact rfl; exact rfl; exact rfl)
        | ((with_reducible apply OX.val); exact rfl; exact rfl; exact Yq.loadS sg rfl rfl H.mem (by first | exact List.Mem.head _ | exact List.Mem.tail _ (List.Mem.head _) | exact List.Mem.tail _ (List.Mem.tail _ (List.Mem.head _)) | exact List.Mem.tail _ (List.Mem.tail _ (List.Mem.tail _ (List.Mem.head _))) | exact List.Mem.tail _ (List.Mem.tail _ (List.Mem.tail _ (List.Mem.tail _ (List.Mem.head _)))) | (repeat (first | exact List.Mem.head _ | refine List.Mem.tail _ ?_))) rfl rfl)
        | ((with_reducible apply QX.val); exact rfl; exact rfl; exact Yq.loadS sg rfl rfl H.mem (by first | exact List.Mem.head _ | exact List.Mem.tail _ (List.Mem.head _) | exact List.Mem.tail _ (List.Mem.tail _ (List.Mem.head _)) | exact List.Mem.tail _ (List.Mem.tail _ (List.Mem.tail _ (List.Mem.head _))) | exact List.Mem.tail _ (List.Mem.tail _ (List.Mem.tail _ (List.Mem.tail _ (List.Mem.head _)))) | (repeat (first | exact List.Mem.head _ | refine List.Mem.tail _ ?_))) rfl rfl)
        | (refine OX.box H rfl rfl rfl rfl rfl ?_; intro b w H _)
        | (refine OX.alloc sg H rfl rfl rfl rfl rfl ?_; intro b w H _)
        | ((with_reducible apply OX.store sg H); exact rfl; exact rfl; exact rfl; exact rfl; exact rfl; exact rfl; (repeat (first | exact Up.here | apply Up.there)); exact rfl; exact rfl; exact rfl; exact rfl; intro w H)
        | ((with_reducible apply RW.nil); exact rfl)
        | ((with_reducible apply OX.callF); exact rfl; exact rfl; exact En.fn ent13 rfl rfl; exact own9 H.mem (by repeat (first | exact List.Mem.head _ | exact List.mem_append_right _ (List.Mem.head _) | refine List.Mem.tail _ ?_)); intro v M w hR hS; replace H := H.addR hS; clear hS; (try simp only [List.cons_append, List.nil_append] at H); obtain ⟨a, cap, rfl, hO⟩ := hR)
        | ((with_reducible apply OW.gY); exact rfl; exact rfl; exact rfl)
        | ((with_reducible apply OW.gN); exact rfl; exact rfl; exact rfl; exact rfl; exact rfl)
        | ((with_reducible apply QW.gY); exact rfl; exact rfl; exact rfl)
        | ((with_reducible apply QW.gN); exact rfl; exact rfl; exact rfl; exact rfl; exact rfl)
        | ((with_reducible apply OW.gS); exact rfl; exact rfl; exact rfl; all_goals intro h)
        | ((with_reducible apply QW.gS); exact rfl; exact rfl; exact rfl; all_goals intro h)
        | with_reducible apply OW.app
        | with_reducible apply OW.app0
        | with_reducible apply QW.app
        | with_reducible apply QW.app0
        | with_reducible apply OW.nil
        | ((with_reducible apply QW.nil); intro w hcl; replace H := H.ext hcl; clear hcl)
        | ((with_reducible apply RW.one); exact rfl; decide +kernel)
        | with_reducible apply thn_n
        | with_reducible apply CW.seq
        | with_reducible apply CW.region
        | ((with_reducible apply CW.regionD mixed); decide +kernel)
        | with_reducible apply CW.ret
        | with_reducible apply CW.exit
        | with_reducible apply CW.skip
        | with_reducible apply thn_r
        | with_reducible apply thn_e
        | with_reducible apply blk_n
        | with_reducible apply blk_r
        | ((with_reducible apply blk_e1); exact rfl)
        | ((with_reducible apply blk_e0); exact rfl)
        | ((with_reducible apply CW.condT); exact rfl)
        | ((with_reducible apply CW.condF); exact rfl))
    obtain ⟨b3, rfl⟩ : ∃ q, q = b := ⟨_, rfl⟩
    refine CW.mid [(44, 106)] (fun _ : Nz => []) (fun y w => Bids y.m y.a y.cap y.z.bids ∧ mayF y.z = false ∧ St w0 (cb b3 (y.z.cells y.a y.cap) 24 :: (G ++ y.m)) w) (fun g => ?_) ?_
    · rcases (show k = 0 ∨ k = 1 ∨ k = 2 ∨ k = 3 ∨ k = 4 ∨ k = 5 ∨ k = 6 ∨ k = 7 ∨ k = 8 ∨ k = 9 ∨ k = 10 ∨ k = 11 ∨ k = 12 ∨ k = 13 ∨ k = 14 ∨ k = 15 ∨ k = 16 by omega) with rfl | rfl | rfl | rfl | rfl | rfl | rfl | rfl | rfl | rfl | rfl | rfl | rfl | rfl | rfl | rfl | rfl
      · repeat' (first
          | ((with_reducible apply OW.p sg); exact rfl; exact rfl; exact rfl; exact rfl)
          | ((with_reducible apply QW.p sg); exact rfl; exact rfl; exact rfl; exact rfl)
          | ((with_reducible apply OW.go); exact rfl)
          | ((with_reducible apply QW.go); exact rfl)
          | ((with_reducible apply OX.pure sg); exact rfl; exact rfl; exact rfl)
          | ((with_reducible apply QX.pure sg); exact rfl; exact rfl; exact rfl)
          | ((with_reducible apply OX.val); exact rfl; exact rfl; exact Yq.loadS sg rfl rfl H.mem (by first | exact List.Mem.head _ | exact List.Mem.tail _ (List.Mem.head _) | exact List.Mem.tail _ (List.Mem.tail _ (List.Mem.head _)) | exact List.Mem.tail _ (List.Mem.tail _ (List.Mem.tail _ (List.Mem.head _))) | exact List.Mem.tail _ (List.Mem.tail _ (List.Mem.tail _ (List.Mem.tail _ (List.Mem.head _)))) | (repeat (first | exact List.Mem.head _ | refine List.Mem.tail _ ?_))) rfl rfl)
          | ((with_reducible apply QX.val); exact rfl; exact rfl; exact Yq.loadS sg rfl rfl H.mem (by first | exact List.Mem.head _ | exact List.Mem.tail _ (List.Mem.head _) | exact List.Mem.tail _ (List.Mem.tail _ (List.Mem.head _)) | exact List.Mem.tail _ (List.Mem.tail _ (List.Mem.tail _ (List.Mem.head _))) | exact List.Mem.tail _ (List.Mem.tail _ (List.Mem.tail _ (List.Mem.tail _ (List.Mem.head _)))) | (repeat (first | exact List.Mem.head _ | refine List.Mem.tail _ ?_))) rfl rfl)
          | (refine OX.box H rfl rfl rfl rfl rfl ?_; intro b w H _)
          | (refine OX.alloc sg H rfl rfl rfl rfl rfl ?_; intro b w H _)
          | ((with_reducible apply OX.store sg H); exact rfl; exact rfl; exact rfl; exact rfl; exact rfl; exact rfl; (repeat (first | exact Up.here | apply Up.there)); exact rfl; exact rfl; exact rfl; exact rfl; intro w H)
          | ((with_reducible apply RW.nil); exact rfl)
          | ((with_reducible apply OW.gY); exact rfl; exact rfl; exact rfl)
          | ((with_reducible apply OW.gN); exact rfl; exact rfl; exact rfl; exact rfl; exact rfl)
          | ((with_reducible apply QW.gY); exact rfl; exact rfl; exact rfl)
          | ((with_reducible apply QW.gN); exact rfl; exact rfl; exact rfl; exact rfl; exact rfl)
          | ((with_reducible apply OW.gS); exact rfl; exact rfl; exact rfl; all_goals intro h)
          | ((with_reducible apply QW.gS); exact rfl; exact rfl; exact rfl; all_goals intro h)
          | with_reducible apply OW.app
          | with_reducible apply OW.app0
          | with_reducible apply QW.app
          | with_reducible apply QW.app0
          | with_reducible apply OW.nil
          | ((with_reducible apply QW.nil); intro w hcl; replace H := H.ext hcl; clear hcl)
          | ((with_reducible apply RW.one); exact rfl; decide +kernel)
          | with_reducible apply thn_n
          | with_reducible apply CW.seq
          | with_reducible apply CW.region
          | ((with_reducible apply CW.regionD mixed); decide +kernel)
          | with_reducible apply CW.block
          | with_reducible apply CW.ret
          | with_reducible apply CW.exit
          | with_reducible apply CW.skip
          | with_reducible apply thn_r
          | with_reducible apply thn_e
          | with_reducible apply blk_n
          | with_reducible apply blk_r
          | ((with_reducible apply blk_e1); exact rfl)
          | ((with_reducible apply blk_e0); exact rfl)
          | ((with_reducible apply CW.condT); exact rfl)
          | ((with_reducible apply CW.condF); exact rfl)
          | ((with_reducible apply CW.cond); exact rfl; all_goals intro h))
        exact Again.mk ⟨⟨0, 1, 1, false, 5, 10, 3, 9, [⟨2, 10⟩]⟩, a, cap, M⟩ rfl trivial ⟨hO.bids (fun _ h => h) (Nat.le_trans (Nat.le_refl 1) (by decide)), show mayF ⟨0, 1, 1, false, 5, 10, 3, 9, [⟨2, 10⟩]⟩ = false by decide +kernel, by rw [hG]; exact H⟩ (Nat.lt_succ_self 0)
      · repeat' (first
          | ((with_reducible apply OW.p sg); exact rfl; exact rfl; exact rfl; exact rfl)
          | ((with_reducible apply QW.p sg); exact rfl; exact rfl; exact rfl; exact rfl)
          | ((with_reducible apply OW.go); exact rfl)
          | ((with_reducible apply QW.go); exact rfl)
          | ((with_reducible apply OX.pure sg); exact rfl; exact rfl; exact rfl)
          | ((with_reducible apply QX.pure sg); exact rfl; exact rfl; exact rfl)
          | ((with_reducible apply OX.val); exact rfl; exact rfl; exact Yq.loadS sg rfl rfl H.mem (by first | exact List.Mem.head _ | exact List.Mem.tail _ (List.Mem.head _) | exact List.Mem.tail _ (List.Mem.tail _ (List.Mem.head _)) | exact List.Mem.tail _ (List.Mem.tail _ (List.Mem.tail _ (List.Mem.head _))) | exact List.Mem.tail _ (List.Mem.tail _ (List.Mem.tail _ (List.Mem.tail _ (List.Mem.head _)))) | (repeat (first | exact List.Mem.head _ | refine List.Mem.tail _ ?_))) rfl rfl)
          | ((with_reducible apply QX.val); exact rfl; exact rfl; exact Yq.loadS sg rfl rfl H.mem (by first | exact List.Mem.head _ | exact List.Mem.tail _ (List.Mem.head _) | exact List.Mem.tail _ (List.Mem.tail _ (List.Mem.head _)) | exact List.Mem.tail _ (List.Mem.tail _ (List.Mem.tail _ (List.Mem.head _))) | exact List.Mem.tail _ (List.Mem.tail _ (List.Mem.tail _ (List.Mem.tail _ (List.Mem.head _)))) | (repeat (first | exact List.Mem.head _ | refine List.Mem.tail _ ?_))) rfl rfl)
          | (refine OX.box H rfl rfl rfl rfl rfl ?_; intro b w H _)
          | (refine OX.alloc sg H rfl rfl rfl rfl rfl ?_; intro b w H _)
          | ((with_reducible apply OX.store sg H); exact rfl; exact rfl; exact rfl; exact rfl; exact rfl; exact rfl; (repeat (first | exact Up.here | apply Up.there)); exact rfl; exact rfl; exact rfl; exact rfl; intro w H)
          | ((with_reducible apply RW.nil); exact rfl)
          | ((with_reducible apply OW.gY); exact rfl; exact rfl; exact rfl)
          | ((with_reducible apply OW.gN); exact rfl; exact rfl; exact rfl; exact rfl; exact rfl)
          | ((with_reducible apply QW.gY); exact rfl; exact rfl; exact rfl)
          | ((with_reducible apply QW.gN); exact rfl; exact rfl; exact rfl; exact rfl; exact rfl)
          | ((with_reducible apply OW.gS); exact rfl; exact rfl; exact rfl; all_goals intro h)
          | ((with_reducible apply QW.gS); exact rfl; exact rfl; exact rfl; all_goals intro h)
          | with_reducible apply OW.app
          | with_reducible apply OW.app0
          | with_reducible apply QW.app
          | with_reducible apply QW.app0
          | with_reducible apply OW.nil
          | ((with_reducible apply QW.nil); intro w hcl; replace H := H.ext hcl; clear hcl)
          | ((with_reducible apply RW.one); exact rfl; decide +kernel)
          | with_reducible apply thn_n
          | with_reducible apply CW.seq
          | with_reducible apply CW.region
          | ((with_reducible apply CW.regionD mixed); decide +kernel)
          | with_reducible apply CW.block
          | with_reducible apply CW.ret
          | with_reducible apply CW.exit
          | with_reducible apply CW.skip
          | with_reducible apply thn_r
          | with_reducible apply thn_e
          | with_reducible apply blk_n
          | with_reducible apply blk_r
          | ((with_reducible apply blk_e1); exact rfl)
          | ((with_reducible apply blk_e0); exact rfl)
          | ((with_reducible apply CW.condT); exact rfl)
          | ((with_reducible apply CW.condF); exact rfl)
          | ((with_reducible apply CW.cond); exact rfl; all_goals intro h))
        exact Again.mk ⟨⟨1099511627777, 1, 1, false, 5, 10, 3, 9, [⟨2, 10⟩]⟩, a, cap, M⟩ rfl trivial ⟨hO.bids (fun _ h => h) (Nat.le_trans (Nat.le_refl 1) (by decide)), show mayF ⟨1099511627777, 1, 1, false, 5, 10, 3, 9, [⟨2, 10⟩]⟩ = false by decide +kernel, by rw [hG]; exact H⟩ (Nat.lt_succ_self 0)
      · repeat' (first
          | ((with_reducible apply OW.p sg); exact rfl; exact rfl; exact rfl; exact rfl)
          | ((with_reducible apply QW.p sg); exact rfl; exact rfl; exact rfl; exact rfl)
          | ((with_reducible apply OW.go); exact rfl)
          | ((with_reducible apply QW.go); exact rfl)
          | ((with_reducible apply OX.pure sg); exact rfl; exact rfl; exact rfl)
          | ((with_reducible apply QX.pure sg); exact rfl; exact rfl; exact rfl)
          | ((with_reducible apply OX.val); exact rfl; exact rfl; exact Yq.loadS sg rfl rfl H.mem (by first | exact List.Mem.head _ | exact List.Mem.tail _ (List.Mem.head _) | exact List.Mem.tail _ (List.Mem.tail _ (List.Mem.head _)) | exact List.Mem.tail _ (List.Mem.tail _ (List.Mem.tail _ (List.Mem.head _))) | exact List.Mem.tail _ (List.Mem.tail _ (List.Mem.tail _ (List.Mem.tail _ (List.Mem.head _)))) | (repeat (first | exact List.Mem.head _ | refine List.Mem.tail _ ?_))) rfl rfl)
          | ((with_reducible apply QX.val); exact rfl; exact rfl; exact Yq.loadS sg rfl rfl H.mem (by first | exact List.Mem.head _ | exact List.Mem.tail _ (List.Mem.head _) | exact List.Mem.tail _ (List.Mem.tail _ (List.Mem.head _)) | exact List.Mem.tail _ (List.Mem.tail _ (List.Mem.tail _ (List.Mem.head _))) | exact List.Mem.tail _ (List.Mem.tail _ (List.Mem.tail _ (List.Mem.tail _ (List.Mem.head _)))) | (repeat (first | exact List.Mem.head _ | refine List.Mem.tail _ ?_))) rfl rfl)
          | (refine OX.box H rfl rfl rfl rfl rfl ?_; intro b w H _)
          | (refine OX.alloc sg H rfl rfl rfl rfl rfl ?_; intro b w H _)
          | ((with_reducible apply OX.store sg H); exact rfl; exact rfl; exact rfl; exact rfl; exact rfl; exact rfl; (repeat (first | exact Up.here | apply Up.there)); exact rfl; exact rfl; exact rfl; exact rfl; intro w H)
          | ((with_reducible apply RW.nil); exact rfl)
          | ((with_reducible apply OW.gY); exact rfl; exact rfl; exact rfl)
          | ((with_reducible apply OW.gN); exact rfl; exact rfl; exact rfl; exact rfl; exact rfl)
          | ((with_reducible apply QW.gY); exact rfl; exact rfl; exact rfl)
          | ((with_reducible apply QW.gN); exact rfl; exact rfl; exact rfl; exact rfl; exact rfl)
          | ((with_reducible apply OW.gS); exact rfl; exact rfl; exact rfl; all_goals intro h)
          | ((with_reducible apply QW.gS); exact rfl; exact rfl; exact rfl; all_goals intro h)
          | with_reducible apply OW.app
          | with_reducible apply OW.app0
          | with_reducible apply QW.app
          | with_reducible apply QW.app0
          | with_reducible apply OW.nil
          | ((with_reducible apply QW.nil); intro w hcl; replace H := H.ext hcl; clear hcl)
          | ((with_reducible apply RW.one); exact rfl; decide +kernel)
          | with_reducible apply thn_n
          | with_reducible apply CW.seq
          | with_reducible apply CW.region
          | ((with_reducible apply CW.regionD mixed); decide +kernel)
          | with_reducible apply CW.block
          | with_reducible apply CW.ret
          | with_reducible apply CW.exit
          | with_reducible apply CW.skip
          | with_reducible apply thn_r
          | with_reducible apply thn_e
          | with_reducible apply blk_n
          | with_reducible apply blk_r
          | ((with_reducible apply blk_e1); exact rfl)
          | ((with_reducible apply blk_e0); exact rfl)
          | ((with_reducible apply CW.condT); exact rfl)
          | ((with_reducible apply CW.condF); exact rfl)
          | ((with_reducible apply CW.cond); exact rfl; all_goals intro h))
        exact Again.mk ⟨⟨1, 65, 1, false, 5, 10, 3, 9, [⟨2, 10⟩]⟩, a, cap, M⟩ rfl trivial ⟨hO.bids (fun _ h => h) (Nat.le_trans (Nat.le_refl 1) (by decide)), show mayF ⟨1, 65, 1, false, 5, 10, 3, 9, [⟨2, 10⟩]⟩ = false by decide +kernel, by rw [hG]; exact H⟩ (Nat.lt_succ_self 0)
      · repeat' (first
          | ((with_reducible apply OW.p sg); exact rfl; exact rfl; exact rfl; exact rfl)
          | ((with_reducible apply QW.p sg); exact rfl; exact rfl; exact rfl; exact rfl)
          | ((with_reducible apply OW.go); exact rfl)
          | ((with_reducible apply QW.go); exact rfl)
          | ((with_reducible apply OX.pure sg); exact rfl; exact rfl; exact rfl)
          | ((with_reducible apply QX.pure sg); exact rfl; exact rfl; exact rfl)
          | ((with_reducible apply OX.val); exact rfl; exact rfl; exact Yq.loadS sg rfl rfl H.mem (by first | exact List.Mem.head _ | exact List.Mem.tail _ (List.Mem.head _) | exact List.Mem.tail _ (List.Mem.tail _ (List.Mem.head _)) | exact List.Mem.tail _ (List.Mem.tail _ (List.Mem.tail _ (List.Mem.head _))) | exact List.Mem.tail _ (List.Mem.tail _ (List.Mem.tail _ (List.Mem.tail _ (List.Mem.head _)))) | (repeat (first | exact List.Mem.head _ | refine List.Mem.tail _ ?_))) rfl rfl)
          | ((with_reducible apply QX.val); exact rfl; exact rfl; exact Yq.loadS sg rfl rfl H.mem (by first | exact List.Mem.head _ | exact List.Mem.tail _ (List.Mem.head _) | exact List.Mem.tail _ (List.Mem.tail _ (List.Mem.head _)) | exact List.Mem.tail _ (List.Mem.tail _ (List.Mem.tail _ (List.Mem.head _))) | exact List.Mem.tail _ (List.Mem.tail _ (List.Mem.tail _ (List.Mem.tail _ (List.Mem.head _)))) | (repeat (first | exact List.Mem.head _ | refine List.Mem.tail _ ?_))) rfl rfl)
          | (refine OX.box H rfl rfl rfl rfl rfl ?_; intro b w H _)
          | (refine OX.alloc sg H rfl rfl rfl rfl rfl ?_; intro b w H _)
          | ((with_reducible apply OX.store sg H); exact rfl; exact rfl; exact rfl; exact rfl; exact rfl; exact rfl; (repeat (first | exact Up.here | apply Up.there)); exact rfl; exact rfl; exact rfl; exact rfl; intro w H)
          | ((with_reducible apply RW.nil); exact rfl)
          | ((with_reducible apply OW.gY); exact rfl; exact rfl; exact rfl)
          | ((with_reducible apply OW.gN); exact rfl; exact rfl; exact rfl; exact rfl; exact rfl)
          | ((with_reducible apply QW.gY); exact rfl; exact rfl; exact rfl)
          | ((with_reducible apply QW.gN); exact rfl; exact rfl; exact rfl; exact rfl; exact rfl)
          | ((with_reducible apply OW.gS); exact rfl; exact rfl; exact rfl; all_goals intro h)
          | ((with_reducible apply QW.gS); exact rfl; exact rfl; exact rfl; all_goals intro h)
          | with_reducible apply OW.app
          | with_reducible apply OW.app0
          | with_reducible apply QW.app
          | with_reducible apply QW.app0
          | with_reducible apply OW.nil
          | ((with_reducible apply QW.nil); intro w hcl; replace H := H.ext hcl; clear hcl)
          | ((with_reducible apply RW.one); exact rfl; decide +kernel)
          | with_reducible apply thn_n
          | with_reducible apply CW.seq
          | with_reducible apply CW.region
          | ((with_reducible apply CW.regionD mixed); decide +kernel)
          | with_reducible apply CW.block
          | with_reducible apply CW.ret
          | with_reducible apply CW.exit
          | with_reducible apply CW.skip
          | with_reducible apply thn_r
          | with_reducible apply thn_e
          | with_reducible apply blk_n
          | with_reducible apply blk_r
          | ((with_reducible apply blk_e1); exact rfl)
          | ((with_reducible apply blk_e0); exact rfl)
          | ((with_reducible apply CW.condT); exact rfl)
          | ((with_reducible apply CW.condF); exact rfl)
          | ((with_reducible apply CW.cond); exact rfl; all_goals intro h))
        exact Again.mk ⟨⟨1, 1, 17, false, 5, 10, 3, 9, [⟨2, 10⟩]⟩, a, cap, M⟩ rfl trivial ⟨hO.bids (fun _ h => h) (Nat.le_trans (Nat.le_refl 1) (by decide)), show mayF ⟨1, 1, 17, false, 5, 10, 3, 9, [⟨2, 10⟩]⟩ = false by decide +kernel, by rw [hG]; exact H⟩ (Nat.lt_succ_self 0)
      · repeat' (first
          | ((with_reducible apply OW.p sg); exact rfl; exact rfl; exact rfl; exact rfl)
          | ((with_reducible apply QW.p sg); exact rfl; exact rfl; exact rfl; exact rfl)
          | ((with_reducible apply OW.go); exact rfl)
          | ((with_reducible apply QW.go); exact rfl)
          | ((with_reducible apply OX.pure sg); exact rfl; exact rfl; exact rfl)
          | ((with_reducible apply QX.pure sg); exact rfl; exact rfl; exact rfl)
          | ((with_reducible apply OX.val); exact rfl; exact rfl; exact Yq.loadS sg rfl rfl H.mem (by first | exact List.Mem.head _ | exact List.Mem.tail _ (List.Mem.head _) | exact List.Mem.tail _ (List.Mem.tail _ (List.Mem.head _)) | exact List.Mem.tail _ (List.Mem.tail _ (List.Mem.tail _ (List.Mem.head _))) | exact List.Mem.tail _ (List.Mem.tail _ (List.Mem.tail _ (List.Mem.tail _ (List.Mem.head _)))) | (repeat (first | exact List.Mem.head _ | refine List.Mem.tail _ ?_))) rfl rfl)
          | ((with_reducible apply QX.val); exact rfl; exact rfl; exact Yq.loadS sg rfl rfl H.mem (by first | exact List.Mem.head _ | exact List.Mem.tail _ (List.Mem.head _) | exact List.Mem.tail _ (List.Mem.tail _ (List.Mem.head _)) | exact List.Mem.tail _ (List.Mem.tail _ (List.Mem.tail _ (List.Mem.head _))) | exact List.Mem.tail _ (List.Mem.tail _ (List.Mem.tail _ (List.Mem.tail _ (List.Mem.head _)))) | (repeat (first | exact List.Mem.head _ | refine List.Mem.tail _ ?_))) rfl rfl)
          | (refine OX.box H rfl rfl rfl rfl rfl ?_; intro b w H _)
          | (refine OX.alloc sg H rfl rfl rfl rfl rfl ?_; intro b w H _)
          | ((with_reducible apply OX.store sg H); exact rfl; exact rfl; exact rfl; exact rfl; exact rfl; exact rfl; (repeat (first | exact Up.here | apply Up.there)); exact rfl; exact rfl; exact rfl; exact rfl; intro w H)
          | ((with_reducible apply RW.nil); exact rfl)
          | ((with_reducible apply OW.gY); exact rfl; exact rfl; exact rfl)
          | ((with_reducible apply OW.gN); exact rfl; exact rfl; exact rfl; exact rfl; exact rfl)
          | ((with_reducible apply QW.gY); exact rfl; exact rfl; exact rfl)
          | ((with_reducible apply QW.gN); exact rfl; exact rfl; exact rfl; exact rfl; exact rfl)
          | ((with_reducible apply OW.gS); exact rfl; exact rfl; exact rfl; all_goals intro h)
          | ((with_reducible apply QW.gS); exact rfl; exact rfl; exact rfl; all_goals intro h)
          | with_reducible apply OW.app
          | with_reducible apply OW.app0
          | with_reducible apply QW.app
          | with_reducible apply QW.app0
          | with_reducible apply OW.nil
          | ((with_reducible apply QW.nil); intro w hcl; replace H := H.ext hcl; clear hcl)
          | ((with_reducible apply RW.one); exact rfl; decide +kernel)
          | with_reducible apply thn_n
          | with_reducible apply CW.seq
          | with_reducible apply CW.region
          | ((with_reducible apply CW.regionD mixed); decide +kernel)
          | with_reducible apply CW.block
          | with_reducible apply CW.ret
          | with_reducible apply CW.exit
          | with_reducible apply CW.skip
          | with_reducible apply thn_r
          | with_reducible apply thn_e
          | with_reducible apply blk_n
          | with_reducible apply blk_r
          | ((with_reducible apply blk_e1); exact rfl)
          | ((with_reducible apply blk_e0); exact rfl)
          | ((with_reducible apply CW.condT); exact rfl)
          | ((with_reducible apply CW.condF); exact rfl)
          | ((with_reducible apply CW.cond); exact rfl; all_goals intro h))
        exact Again.mk ⟨⟨1, 1, 0, false, 5, 10, 3, 9, [⟨2, 10⟩]⟩, a, cap, M⟩ rfl trivial ⟨hO.bids (fun _ h => h) (Nat.le_trans (Nat.le_refl 1) (by decide)), show mayF ⟨1, 1, 0, false, 5, 10, 3, 9, [⟨2, 10⟩]⟩ = false by decide +kernel, by rw [hG]; exact H⟩ (Nat.lt_succ_self 0)
      · repeat' (first
          | ((with_reducible apply OW.p sg); exact rfl; exact rfl; exact rfl; exact rfl)
          | ((with_reducible apply QW.p sg); exact rfl; exact rfl; exact rfl; exact rfl)
          | ((with_reducible apply OW.go); exact rfl)
          | ((with_reducible apply QW.go); exact rfl)
          | ((with_reducible apply OX.pure sg); exact rfl; exact rfl; exact rfl)
          | ((with_reducible apply QX.pure sg); exact rfl; exact rfl; exact rfl)
          | ((with_reducible apply OX.val); exact rfl; exact rfl; exact Yq.loadS sg rfl rfl H.mem (by first | exact List.Mem.head _ | exact List.Mem.tail _ (List.Mem.head _) | exact List.Mem.tail _ (List.Mem.tail _ (List.Mem.head _)) | exact List.Mem.tail _ (List.Mem.tail _ (List.Mem.tail _ (List.Mem.head _))) | exact List.Mem.tail _ (List.Mem.tail _ (List.Mem.tail _ (List.Mem.tail _ (List.Mem.head _)))) | (repeat (first | exact List.Mem.head _ | refine List.Mem.tail _ ?_))) rfl rfl)
          | ((with_reducible apply QX.val); exact rfl; exact rfl; exact Yq.loadS sg rfl rfl H.mem (by first | exact List.Mem.head _ | exact List.Mem.tail _ (List.Mem.head _) | exact List.Mem.tail _ (List.Mem.tail _ (List.Mem.head _)) | exact List.Mem.tail _ (List.Mem.tail _ (List.Mem.tail _ (List.Mem.head _))) | exact List.Mem.tail _ (List.Mem.tail _ (List.Mem.tail _ (List.Mem.tail _ (List.Mem.head _)))) | (repeat (first | exact List.Mem.head _ | refine List.Mem.tail _ ?_))) rfl rfl)
          | (refine OX.box H rfl rfl rfl rfl rfl ?_; intro b w H _)
          | (refine OX.alloc sg H rfl rfl rfl rfl rfl ?_; intro b w H _)
          | ((with_reducible apply OX.store sg H); exact rfl; exact rfl; exact rfl; exact rfl; exact rfl; exact rfl; (repeat (first | exact Up.here | apply Up.there)); exact rfl; exact rfl; exact rfl; exact rfl; intro w H)
          | ((with_reducible apply RW.nil); exact rfl)
          | ((with_reducible apply OW.gY); exact rfl; exact rfl; exact rfl)
          | ((with_reducible apply OW.gN); exact rfl; exact rfl; exact rfl; exact rfl; exact rfl)
          | ((with_reducible apply QW.gY); exact rfl; exact rfl; exact rfl)
          | ((with_reducible apply QW.gN); exact rfl; exact rfl; exact rfl; exact rfl; exact rfl)
          | ((with_reducible apply OW.gS); exact rfl; exact rfl; exact rfl; all_goals intro h)
          | ((with_reducible apply QW.gS); exact rfl; exact rfl; exact rfl; all_goals intro h)
          | with_reducible apply OW.app
          | with_reducible apply OW.app0
          | with_reducible apply QW.app
          | with_reducible apply QW.app0
          | with_reducible apply OW.nil
          | ((with_reducible apply QW.nil); intro w hcl; replace H := H.ext hcl; clear hcl)
          | ((with_reducible apply RW.one); exact rfl; decide +kernel)
          | with_reducible apply thn_n
          | with_reducible apply CW.seq
          | with_reducible apply CW.region
          | ((with_reducible apply CW.regionD mixed); decide +kernel)
          | with_reducible apply CW.block
          | with_reducible apply CW.ret
          | with_reducible apply CW.exit
          | with_reducible apply CW.skip
          | with_reducible apply thn_r
          | with_reducible apply thn_e
          | with_reducible apply blk_n
          | with_reducible apply blk_r
          | ((with_reducible apply blk_e1); exact rfl)
          | ((with_reducible apply blk_e0); exact rfl)
          | ((with_reducible apply CW.condT); exact rfl)
          | ((with_reducible apply CW.condF); exact rfl)
          | ((with_reducible apply CW.cond); exact rfl; all_goals intro h))
        exact Again.mk ⟨⟨1, 1, 1, false, 1048577, 10, 3, 9, [⟨2, 10⟩]⟩, a, cap, M⟩ rfl trivial ⟨hO.bids (fun _ h => h) (Nat.le_trans (Nat.le_refl 1) (by decide)), show mayF ⟨1, 1, 1, false, 1048577, 10, 3, 9, [⟨2, 10⟩]⟩ = false by decide +kernel, by rw [hG]; exact H⟩ (Nat.lt_succ_self 0)
      · repeat' (first
          | ((with_reducible apply OW.p sg); exact rfl; exact rfl; exact rfl; exact rfl)
          | ((with_reducible apply QW.p sg); exact rfl; exact rfl; exact rfl; exact rfl)
          | ((with_reducible apply OW.go); exact rfl)
          | ((with_reducible apply QW.go); exact rfl)
          | ((with_reducible apply OX.pure sg); exact rfl; exact rfl; exact rfl)
          | ((with_reducible apply QX.pure sg); exact rfl; exact rfl; exact rfl)
          | ((with_reducible apply OX.val); exact rfl; exact rfl; exact Yq.loadS sg rfl rfl H.mem (by first | exact List.Mem.head _ | exact List.Mem.tail _ (List.Mem.head _) | exact List.Mem.tail _ (List.Mem.tail _ (List.Mem.head _)) | exact List.Mem.tail _ (List.Mem.tail _ (List.Mem.tail _ (List.Mem.head _))) | exact List.Mem.tail _ (List.Mem.tail _ (List.Mem.tail _ (List.Mem.tail _ (List.Mem.head _)))) | (repeat (first | exact List.Mem.head _ | refine List.Mem.tail _ ?_))) rfl rfl)
          | ((with_reducible apply QX.val); exact rfl; exact rfl; exact Yq.loadS sg rfl rfl H.mem (by first | exact List.Mem.head _ | exact List.Mem.tail _ (List.Mem.head _) | exact List.Mem.tail _ (List.Mem.tail _ (List.Mem.head _)) | exact List.Mem.tail _ (List.Mem.tail _ (List.Mem.tail _ (List.Mem.head _))) | exact List.Mem.tail _ (List.Mem.tail _ (List.Mem.tail _ (List.Mem.tail _ (List.Mem.head _)))) | (repeat (first | exact List.Mem.head _ | refine List.Mem.tail _ ?_))) rfl rfl)
          | (refine OX.box H rfl rfl rfl rfl rfl ?_; intro b w H _)
          | (refine OX.alloc sg H rfl rfl rfl rfl rfl ?_; intro b w H _)
          | ((with_reducible apply OX.store sg H); exact rfl; exact rfl; exact rfl; exact rfl; exact rfl; exact rfl; (repeat (first | exact Up.here | apply Up.there)); exact rfl; exact rfl; exact rfl; exact rfl; intro w H)
          | ((with_reducible apply RW.nil); exact rfl)
          | ((with_reducible apply OW.gY); exact rfl; exact rfl; exact rfl)
          | ((with_reducible apply OW.gN); exact rfl; exact rfl; exact rfl; exact rfl; exact rfl)
          | ((with_reducible apply QW.gY); exact rfl; exact rfl; exact rfl)
          | ((with_reducible apply QW.gN); exact rfl; exact rfl; exact rfl; exact rfl; exact rfl)
          | ((with_reducible apply OW.gS); exact rfl; exact rfl; exact rfl; all_goals intro h)
          | ((with_reducible apply QW.gS); exact rfl; exact rfl; exact rfl; all_goals intro h)
          | with_reducible apply OW.app
          | with_reducible apply OW.app0
          | with_reducible apply QW.app
          | with_reducible apply QW.app0
          | with_reducible apply OW.nil
          | ((with_reducible apply QW.nil); intro w hcl; replace H := H.ext hcl; clear hcl)
          | ((with_reducible apply RW.one); exact rfl; decide +kernel)
          | with_reducible apply thn_n
          | with_reducible apply CW.seq
          | with_reducible apply CW.region
          | ((with_reducible apply CW.regionD mixed); decide +kernel)
          | with_reducible apply CW.block
          | with_reducible apply CW.ret
          | with_reducible apply CW.exit
          | with_reducible apply CW.skip
          | with_reducible apply thn_r
          | with_reducible apply thn_e
          | with_reducible apply blk_n
          | with_reducible apply blk_r
          | ((with_reducible apply blk_e1); exact rfl)
          | ((with_reducible apply blk_e0); exact rfl)
          | ((with_reducible apply CW.condT); exact rfl)
          | ((with_reducible apply CW.condF); exact rfl)
          | ((with_reducible apply CW.cond); exact rfl; all_goals intro h))
        exact Again.mk ⟨⟨1, 1, 1, false, 5, 0, 3, 9, [⟨2, 10⟩]⟩, a, cap, M⟩ rfl trivial ⟨hO.bids (fun _ h => h) (Nat.le_trans (Nat.le_refl 1) (by decide)), show mayF ⟨1, 1, 1, false, 5, 0, 3, 9, [⟨2, 10⟩]⟩ = false by decide +kernel, by rw [hG]; exact H⟩ (Nat.lt_succ_self 0)
      · repeat' (first
          | ((with_reducible apply OW.p sg); exact rfl; exact rfl; exact rfl; exact rfl)
          | ((with_reducible apply QW.p sg); exact rfl; exact rfl; exact rfl; exact rfl)
          | ((with_reducible apply OW.go); exact rfl)
          | ((with_reducible apply QW.go); exact rfl)
          | ((with_reducible apply OX.pure sg); exact rfl; exact rfl; exact rfl)
          | ((with_reducible apply QX.pure sg); exact rfl; exact rfl; exact rfl)
          | ((with_reducible apply OX.val); exact rfl; exact rfl; exact Yq.loadS sg rfl rfl H.mem (by first | exact List.Mem.head _ | exact List.Mem.tail _ (List.Mem.head _) | exact List.Mem.tail _ (List.Mem.tail _ (List.Mem.head _)) | exact List.Mem.tail _ (List.Mem.tail _ (List.Mem.tail _ (List.Mem.head _))) | exact List.Mem.tail _ (List.Mem.tail _ (List.Mem.tail _ (List.Mem.tail _ (List.Mem.head _)))) | (repeat (first | exact List.Mem.head _ | refine List.Mem.tail _ ?_))) rfl rfl)
          | ((with_reducible apply QX.val); exact rfl; exact rfl; exact Yq.loadS sg rfl rfl H.mem (by first | exact List.Mem.head _ | exact List.Mem.tail _ (List.Mem.head _) | exact List.Mem.tail _ (List.Mem.tail _ (List.Mem.head _)) | exact List.Mem.tail _ (List.Mem.tail _ (List.Mem.tail _ (List.Mem.head _))) | exact List.Mem.tail _ (List.Mem.tail _ (List.Mem.tail _ (List.Mem.tail _ (List.Mem.head _)))) | (repeat (first | exact List.Mem.head _ | refine List.Mem.tail _ ?_))) rfl rfl)
          | (refine OX.box H rfl rfl rfl rfl rfl ?_; intro b w H _)
          | (refine OX.alloc sg H rfl rfl rfl rfl rfl ?_; intro b w H _)
          | ((with_reducible apply OX.store sg H); exact rfl; exact rfl; exact rfl; exact rfl; exact rfl; exact rfl; (repeat (first | exact Up.here | apply Up.there)); exact rfl; exact rfl; exact rfl; exact rfl; intro w H)
          | ((with_reducible apply RW.nil); exact rfl)
          | ((with_reducible apply OW.gY); exact rfl; exact rfl; exact rfl)
          | ((with_reducible apply OW.gN); exact rfl; exact rfl; exact rfl; exact rfl; exact rfl)
          | ((with_reducible apply QW.gY); exact rfl; exact rfl; exact rfl)
          | ((with_reducible apply QW.gN); exact rfl; exact rfl; exact rfl; exact rfl; exact rfl)
          | ((with_reducible apply OW.gS); exact rfl; exact rfl; exact rfl; all_goals intro h)
          | ((with_reducible apply QW.gS); exact rfl; exact rfl; exact rfl; all_goals intro h)
          | with_reducible apply OW.app
          | with_reducible apply OW.app0
          | with_reducible apply QW.app
          | with_reducible apply QW.app0
          | with_reducible apply OW.nil
          | ((with_reducible apply QW.nil); intro w hcl; replace H := H.ext hcl; clear hcl)
          | ((with_reducible apply RW.one); exact rfl; decide +kernel)
          | with_reducible apply thn_n
          | with_reducible apply CW.seq
          | with_reducible apply CW.region
          | ((with_reducible apply CW.regionD mixed); decide +kernel)
          | with_reducible apply CW.block
          | with_reducible apply CW.ret
          | with_reducible apply CW.exit
          | with_reducible apply CW.skip
          | with_reducible apply thn_r
          | with_reducible apply thn_e
          | with_reducible apply blk_n
          | with_reducible apply blk_r
          | ((with_reducible apply blk_e1); exact rfl)
          | ((with_reducible apply blk_e0); exact rfl)
          | ((with_reducible apply CW.condT); exact rfl)
          | ((with_reducible apply CW.condF); exact rfl)
          | ((with_reducible apply CW.cond); exact rfl; all_goals intro h))
        exact Again.mk ⟨⟨1, 1, 1, false, 5, 11, 3, 9, [⟨2, 10⟩]⟩, a, cap, M⟩ rfl trivial ⟨hO.bids (fun _ h => h) (Nat.le_trans (Nat.le_refl 1) (by decide)), show mayF ⟨1, 1, 1, false, 5, 11, 3, 9, [⟨2, 10⟩]⟩ = false by decide +kernel, by rw [hG]; exact H⟩ (Nat.lt_succ_self 0)
      · repeat' (first
          | ((with_reducible apply OW.p sg); exact rfl; exact rfl; exact rfl; exact rfl)
          | ((with_reducible apply QW.p sg); exact rfl; exact rfl; exact rfl; exact rfl)
          | ((with_reducible apply OW.go); exact rfl)
          | ((with_reducible apply QW.go); exact rfl)
          | ((with_reducible apply OX.pure sg); exact rfl; exact rfl; exact rfl)
          | ((with_reducible apply QX.pure sg); exact rfl; exact rfl; exact rfl)
          | ((with_reducible apply OX.val); exact rfl; exact rfl; exact Yq.loadS sg rfl rfl H.mem (by first | exact List.Mem.head _ | exact List.Mem.tail _ (List.Mem.head _) | exact List.Mem.tail _ (List.Mem.tail _ (List.Mem.head _)) | exact List.Mem.tail _ (List.Mem.tail _ (List.Mem.tail _ (List.Mem.head _))) | exact List.Mem.tail _ (List.Mem.tail _ (List.Mem.tail _ (List.Mem.tail _ (List.Mem.head _)))) | (repeat (first | exact List.Mem.head _ | refine List.Mem.tail _ ?_))) rfl rfl)
          | ((with_reducible apply QX.val); exact rfl; exact rfl; exact Yq.loadS sg rfl rfl H.mem (by first | exact List.Mem.head _ | exact List.Mem.tail _ (List.Mem.head _) | exact List.Mem.tail _ (List.Mem.tail _ (List.Mem.head _)) | exact List.Mem.tail _ (List.Mem.tail _ (List.Mem.tail _ (List.Mem.head _))) | exact List.Mem.tail _ (List.Mem.tail _ (List.Mem.tail _ (List.Mem.tail _ (List.Mem.head _)))) | (repeat (first | exact List.Mem.head _ | refine List.Mem.tail _ ?_))) rfl rfl)
          | (refine OX.box H rfl rfl rfl rfl rfl ?_; intro b w H _)
          | (refine OX.alloc sg H rfl rfl rfl rfl rfl ?_; intro b w H _)
          | ((with_reducible apply OX.store sg H); exact rfl; exact rfl; exact rfl; exact rfl; exact rfl; exact rfl; (repeat (first | exact Up.here | apply Up.there)); exact rfl; exact rfl; exact rfl; exact rfl; intro w H)
          | ((with_reducible apply RW.nil); exact rfl)
          | ((with_reducible apply OW.gY); exact rfl; exact rfl; exact rfl)
          | ((with_reducible apply OW.gN); exact rfl; exact rfl; exact rfl; exact rfl; exact rfl)
          | ((with_reducible apply QW.gY); exact rfl; exact rfl; exact rfl)
          | ((with_reducible apply QW.gN); exact rfl; exact rfl; exact rfl; exact rfl; exact rfl)
          | ((with_reducible apply OW.gS); exact rfl; exact rfl; exact rfl; all_goals intro h)
          | ((with_reducible apply QW.gS); exact rfl; exact rfl; exact rfl; all_goals intro h)
          | with_reducible apply OW.app
          | with_reducible apply OW.app0
          | with_reducible apply QW.app
          | with_reducible apply QW.app0
          | with_reducible apply OW.nil
          | ((with_reducible apply QW.nil); intro w hcl; replace H := H.ext hcl; clear hcl)
          | ((with_reducible apply RW.one); exact rfl; decide +kernel)
          | with_reducible apply thn_n
          | with_reducible apply CW.seq
          | with_reducible apply CW.region
          | ((with_reducible apply CW.regionD mixed); decide +kernel)
          | with_reducible apply CW.block
          | with_reducible apply CW.ret
          | with_reducible apply CW.exit
          | with_reducible apply CW.skip
          | with_reducible apply thn_r
          | with_reducible apply thn_e
          | with_reducible apply blk_n
          | with_reducible apply blk_r
          | ((with_reducible apply blk_e1); exact rfl)
          | ((with_reducible apply blk_e0); exact rfl)
          | ((with_reducible apply CW.condT); exact rfl)
          | ((with_reducible apply CW.condF); exact rfl)
          | ((with_reducible apply CW.cond); exact rfl; all_goals intro h))
        exact Again.mk ⟨⟨1, 1, 1, false, 5, 10, 0, 9, [⟨2, 10⟩]⟩, a, cap, M⟩ rfl trivial ⟨hO.bids (fun _ h => h) (Nat.le_trans (Nat.le_refl 1) (by decide)), show mayF ⟨1, 1, 1, false, 5, 10, 0, 9, [⟨2, 10⟩]⟩ = false by decide +kernel, by rw [hG]; exact H⟩ (Nat.lt_succ_self 0)
      · repeat' (first
          | ((with_reducible apply OW.p sg); exact rfl; exact rfl; exact rfl; exact rfl)
          | ((with_reducible apply QW.p sg); exact rfl; exact rfl; exact rfl; exact rfl)
          | ((with_reducible apply OW.go); exact rfl)
          | ((with_reducible apply QW.go); exact rfl)
          | ((with_reducible apply OX.pure sg); exact rfl; exact rfl; exact rfl)
          | ((with_reducible apply QX.pure sg); exact rfl; exact rfl; exact rfl)
          | ((with_reducible apply OX.val); exact rfl; exact rfl; exact Yq.loadS sg rfl rfl H.mem (by first | exact List.Mem.head _ | exact List.Mem.tail _ (List.Mem.head _) | exact List.Mem.tail _ (List.Mem.tail _ (List.Mem.head _)) | exact List.Mem.tail _ (List.Mem.tail _ (List.Mem.tail _ (List.Mem.head _))) | exact List.Mem.tail _ (List.Mem.tail _ (List.Mem.tail _ (List.Mem.tail _ (List.Mem.head _)))) | (repeat (first | exact List.Mem.head _ | refine List.Mem.tail _ ?_))) rfl rfl)
          | ((with_reducible apply QX.val); exact rfl; exact rfl; exact Yq.loadS sg rfl rfl H.mem (by first | exact List.Mem.head _ | exact List.Mem.tail _ (List.Mem.head _) | exact List.Mem.tail _ (List.Mem.tail _ (List.Mem.head _)) | exact List.Mem.tail _ (List.Mem.tail _ (List.Mem.tail _ (List.Mem.head _))) | exact List.Mem.tail _ (List.Mem.tail _ (List.Mem.tail _ (List.Mem.tail _ (List.Mem.head _)))) | (repeat (first | exact List.Mem.head _ | refine List.Mem.tail _ ?_))) rfl rfl)
          | (refine OX.box H rfl rfl rfl rfl rfl ?_; intro b w H _)
          | (refine OX.alloc sg H rfl rfl rfl rfl rfl ?_; intro b w H _)
          | ((with_reducible apply OX.store sg H); exact rfl; exact rfl; exact rfl; exact rfl; exact rfl; exact rfl; (repeat (first | exact Up.here | apply Up.there)); exact rfl; exact rfl; exact rfl; exact rfl; intro w H)
          | ((with_reducible apply RW.nil); exact rfl)
          | ((with_reducible apply OW.gY); exact rfl; exact rfl; exact rfl)
          | ((with_reducible apply OW.gN); exact rfl; exact rfl; exact rfl; exact rfl; exact rfl)
          | ((with_reducible apply QW.gY); exact rfl; exact rfl; exact rfl)
          | ((with_reducible apply QW.gN); exact rfl; exact rfl; exact rfl; exact rfl; exact rfl)
          | ((with_reducible apply OW.gS); exact rfl; exact rfl; exact rfl; all_goals intro h)
          | ((with_reducible apply QW.gS); exact rfl; exact rfl; exact rfl; all_goals intro h)
          | with_reducible apply OW.app
          | with_reducible apply OW.app0
          | with_reducible apply QW.app
          | with_reducible apply QW.app0
          | with_reducible apply OW.nil
          | ((with_reducible apply QW.nil); intro w hcl; replace H := H.ext hcl; clear hcl)
          | ((with_reducible apply RW.one); exact rfl; decide +kernel)
          | with_reducible apply thn_n
          | with_reducible apply CW.seq
          | with_reducible apply CW.region
          | ((with_reducible apply CW.regionD mixed); decide +kernel)
          | with_reducible apply CW.block
          | with_reducible apply CW.ret
          | with_reducible apply CW.exit
          | with_reducible apply CW.skip
          | with_reducible apply thn_r
          | with_reducible apply thn_e
          | with_reducible apply blk_n
          | with_reducible apply blk_r
          | ((with_reducible apply blk_e1); exact rfl)
          | ((with_reducible apply blk_e0); exact rfl)
          | ((with_reducible apply CW.condT); exact rfl)
          | ((with_reducible apply CW.condF); exact rfl)
          | ((with_reducible apply CW.cond); exact rfl; all_goals intro h))
        exact Again.mk ⟨⟨1, 1, 1, false, 5, 10, 1125899906842625, 9, [⟨2, 10⟩]⟩, a, cap, M⟩ rfl trivial ⟨hO.bids (fun _ h => h) (Nat.le_trans (Nat.le_refl 1) (by decide)), show mayF ⟨1, 1, 1, false, 5, 10, 1125899906842625, 9, [⟨2, 10⟩]⟩ = false by decide +kernel, by rw [hG]; exact H⟩ (Nat.lt_succ_self 0)
      · repeat' (first
          | ((with_reducible apply OW.p sg); exact rfl; exact rfl; exact rfl; exact rfl)
          | ((with_reducible apply QW.p sg); exact rfl; exact rfl; exact rfl; exact rfl)
          | ((with_reducible apply OW.go); exact rfl)
          | ((with_reducible apply QW.go); exact rfl)
          | ((with_reducible apply OX.pure sg); exact rfl; exact rfl; exact rfl)
          | ((with_reducible apply QX.pure sg); exact rfl; exact rfl; exact rfl)
          | ((with_reducible apply OX.val); exact rfl; exact rfl; exact Yq.loadS sg rfl rfl H.mem (by first | exact List.Mem.head _ | exact List.Mem.tail _ (List.Mem.head _) | exact List.Mem.tail _ (List.Mem.tail _ (List.Mem.head _)) | exact List.Mem.tail _ (List.Mem.tail _ (List.Mem.tail _ (List.Mem.head _))) | exact List.Mem.tail _ (List.Mem.tail _ (List.Mem.tail _ (List.Mem.tail _ (List.Mem.head _)))) | (repeat (first | exact List.Mem.head _ | refine List.Mem.tail _ ?_))) rfl rfl)
          | ((with_reducible apply QX.val); exact rfl; exact rfl; exact Yq.loadS sg rfl rfl H.mem (by first | exact List.Mem.head _ | exact List.Mem.tail _ (List.Mem.head _) | exact List.Mem.tail _ (List.Mem.tail _ (List.Mem.head _)) | exact List.Mem.tail _ (List.Mem.tail _ (List.Mem.tail _ (List.Mem.head _))) | exact List.Mem.tail _ (List.Mem.tail _ (List.Mem.tail _ (List.Mem.tail _ (List.Mem.head _)))) | (repeat (first | exact List.Mem.head _ | refine List.Mem.tail _ ?_))) rfl rfl)
          | (refine OX.box H rfl rfl rfl rfl rfl ?_; intro b w H _)
          | (refine OX.alloc sg H rfl rfl rfl rfl rfl ?_; intro b w H _)
          | ((with_reducible apply OX.store sg H); exact rfl; exact rfl; exact rfl; exact rfl; exact rfl; exact rfl; (repeat (first | exact Up.here | apply Up.there)); exact rfl; exact rfl; exact rfl; exact rfl; intro w H)
          | ((with_reducible apply RW.nil); exact rfl)
          | ((with_reducible apply OW.gY); exact rfl; exact rfl; exact rfl)
          | ((with_reducible apply OW.gN); exact rfl; exact rfl; exact rfl; exact rfl; exact rfl)
          | ((with_reducible apply QW.gY); exact rfl; exact rfl; exact rfl)
          | ((with_reducible apply QW.gN); exact rfl; exact rfl; exact rfl; exact rfl; exact rfl)
          | ((with_reducible apply OW.gS); exact rfl; exact rfl; exact rfl; all_goals intro h)
          | ((with_reducible apply QW.gS); exact rfl; exact rfl; exact rfl; all_goals intro h)
          | with_reducible apply OW.app
          | with_reducible apply OW.app0
          | with_reducible apply QW.app
          | with_reducible apply QW.app0
          | with_reducible apply OW.nil
          | ((with_reducible apply QW.nil); intro w hcl; replace H := H.ext hcl; clear hcl)
          | ((with_reducible apply RW.one); exact rfl; decide +kernel)
          | with_reducible apply thn_n
          | with_reducible apply CW.seq
          | with_reducible apply CW.region
          | ((with_reducible apply CW.regionD mixed); decide +kernel)
          | with_reducible apply CW.block
          | with_reducible apply CW.ret
          | with_reducible apply CW.exit
          | with_reducible apply CW.skip
          | with_reducible apply thn_r
          | with_reducible apply thn_e
          | with_reducible apply blk_n
          | with_reducible apply blk_r
          | ((with_reducible apply blk_e1); exact rfl)
          | ((with_reducible apply blk_e0); exact rfl)
          | ((with_reducible apply CW.condT); exact rfl)
          | ((with_reducible apply CW.condF); exact rfl)
          | ((with_reducible apply CW.cond); exact rfl; all_goals intro h))
        exact Again.mk ⟨⟨1, 1, 1, false, 5, 10, 3, 0, [⟨2, 10⟩]⟩, a, cap, M⟩ rfl trivial ⟨hO.bids (fun _ h => h) (Nat.le_trans (Nat.le_refl 1) (by decide)), show mayF ⟨1, 1, 1, false, 5, 10, 3, 0, [⟨2, 10⟩]⟩ = false by decide +kernel, by rw [hG]; exact H⟩ (Nat.lt_succ_self 0)
      · repeat' (first
          | ((with_reducible apply OW.p sg); exact rfl; exact rfl; exact rfl; exact rfl)
          | ((with_reducible apply QW.p sg); exact rfl; exact rfl; exact rfl; exact rfl)
          | ((with_reducible apply OW.go); exact rfl)
          | ((with_reducible apply QW.go); exact rfl)
          | ((with_reducible apply OX.pure sg); exact rfl; exact rfl; exact rfl)
          | ((with_reducible apply QX.pure sg); exact rfl; exact rfl; exact rfl)
          | ((with_reducible apply OX.val); exact rfl; exact rfl; exact Yq.loadS sg rfl rfl H.mem (by first | exact List.Mem.head _ | exact List.Mem.tail _ (List.Mem.head _) | exact List.Mem.tail _ (List.Mem.tail _ (List.Mem.head _)) | exact List.Mem.tail _ (List.Mem.tail _ (List.Mem.tail _ (List.Mem.head _))) | exact List.Mem.tail _ (List.Mem.tail _ (List.Mem.tail _ (List.Mem.tail _ (List.Mem.head _)))) | (repeat (first | exact List.Mem.head _ | refine List.Mem.tail _ ?_))) rfl rfl)
          | ((with_reducible apply QX.val); exact rfl; exact rfl; exact Yq.loadS sg rfl rfl H.mem (by first | exact List.Mem.head _ | exact List.Mem.tail _ (List.Mem.head _) | exact List.Mem.tail _ (List.Mem.tail _ (List.Mem.head _)) | exact List.Mem.tail _ (List.Mem.tail _ (List.Mem.tail _ (List.Mem.head _))) | exact List.Mem.tail _ (List.Mem.tail _ (List.Mem.tail _ (List.Mem.tail _ (List.Mem.head _)))) | (repeat (first | exact List.Mem.head _ | refine List.Mem.tail _ ?_))) rfl rfl)
          | (refine OX.box H rfl rfl rfl rfl rfl ?_; intro b w H _)
          | (refine OX.alloc sg H rfl rfl rfl rfl rfl ?_; intro b w H _)
          | ((with_reducible apply OX.store sg H); exact rfl; exact rfl; exact rfl; exact rfl; exact rfl; exact rfl; (repeat (first | exact Up.here | apply Up.there)); exact rfl; exact rfl; exact rfl; exact rfl; intro w H)
          | ((with_reducible apply RW.nil); exact rfl)
          | ((with_reducible apply OW.gY); exact rfl; exact rfl; exact rfl)
          | ((with_reducible apply OW.gN); exact rfl; exact rfl; exact rfl; exact rfl; exact rfl)
          | ((with_reducible apply QW.gY); exact rfl; exact rfl; exact rfl)
          | ((with_reducible apply QW.gN); exact rfl; exact rfl; exact rfl; exact rfl; exact rfl)
          | ((with_reducible apply OW.gS); exact rfl; exact rfl; exact rfl; all_goals intro h)
          | ((with_reducible apply QW.gS); exact rfl; exact rfl; exact rfl; all_goals intro h)
          | with_reducible apply OW.app
          | with_reducible apply OW.app0
          | with_reducible apply QW.app
          | with_reducible apply QW.app0
          | with_reducible apply OW.nil
          | ((with_reducible apply QW.nil); intro w hcl; replace H := H.ext hcl; clear hcl)
          | ((with_reducible apply RW.one); exact rfl; decide +kernel)
          | with_reducible apply thn_n
          | with_reducible apply CW.seq
          | with_reducible apply CW.region
          | ((with_reducible apply CW.regionD mixed); decide +kernel)
          | with_reducible apply CW.block
          | with_reducible apply CW.ret
          | with_reducible apply CW.exit
          | with_reducible apply CW.skip
          | with_reducible apply thn_r
          | with_reducible apply thn_e
          | with_reducible apply blk_n
          | with_reducible apply blk_r
          | ((with_reducible apply blk_e1); exact rfl)
          | ((with_reducible apply blk_e0); exact rfl)
          | ((with_reducible apply CW.condT); exact rfl)
          | ((with_reducible apply CW.condF); exact rfl)
          | ((with_reducible apply CW.cond); exact rfl; all_goals intro h))
        exact Again.mk ⟨⟨1, 1, 1, false, 5, 10, 3, 1099511627777, [⟨2, 10⟩]⟩, a, cap, M⟩ rfl trivial ⟨hO.bids (fun _ h => h) (Nat.le_trans (Nat.le_refl 1) (by decide)), show mayF ⟨1, 1, 1, false, 5, 10, 3, 1099511627777, [⟨2, 10⟩]⟩ = false by decide +kernel, by rw [hG]; exact H⟩ (Nat.lt_succ_self 0)
      · repeat' (first
          | ((with_reducible apply OW.p sg); exact rfl; exact rfl; exact rfl; exact rfl)
          | ((with_reducible apply QW.p sg); exact rfl; exact rfl; exact rfl; exact rfl)
          | ((with_reducible apply OW.go); exact rfl)
          | ((with_reducible apply QW.go); exact rfl)
          | ((with_reducible apply OX.pure sg); exact rfl; exact rfl; exact rfl)
          | ((with_reducible apply QX.pure sg); exact rfl; exact rfl; exact rfl)
          | ((with_reducible apply OX.val); exact rfl; exact rfl; exact Yq.loadS sg rfl rfl H.mem (by first | exact List.Mem.head _ | exact List.Mem.tail _ (List.Mem.head _) | exact List.Mem.tail _ (List.Mem.tail _ (List.Mem.head _)) | exact List.Mem.tail _ (List.Mem.tail _ (List.Mem.tail _ (List.Mem.head _))) | exact List.Mem.tail _ (List.Mem.tail _ (List.Mem.tail _ (List.Mem.tail _ (List.Mem.head _)))) | (repeat (first | exact List.Mem.head _ | refine List.Mem.tail _ ?_))) rfl rfl)
          | ((with_reducible apply QX.val); exact rfl; exact rfl; exact Yq.loadS sg rfl rfl H.mem (by first | exact List.Mem.head _ | exact List.Mem.tail _ (List.Mem.head _) | exact List.Mem.tail _ (List.Mem.tail _ (List.Mem.head _)) | exact List.Mem.tail _ (List.Mem.tail _ (List.Mem.tail _ (List.Mem.head _))) | exact List.Mem.tail _ (List.Mem.tail _ (List.Mem.tail _ (List.Mem.tail _ (List.Mem.head _)))) | (repeat (first | exact List.Mem.head _ | refine List.Mem.tail _ ?_))) rfl rfl)
          | (refine OX.box H rfl rfl rfl rfl rfl ?_; intro b w H _)
          | (refine OX.alloc sg H rfl rfl rfl rfl rfl ?_; intro b w H _)
          | ((with_reducible apply OX.store sg H); exact rfl; exact rfl; exact rfl; exact rfl; exact rfl; exact rfl; (repeat (first | exact Up.here | apply Up.there)); exact rfl; exact rfl; exact rfl; exact rfl; intro w H)
          | ((with_reducible apply RW.nil); exact rfl)
          | ((with_reducible apply OX.buildS sg H); exact rfl; exact rfl; exact rfl; exact rfl; exact rfl; exact rfl; exact rfl; exact rfl; exact rfl; exact rfl; intro b w H _)
          | (have hp := H.perm (List.perm_append_comm (l₁ := _ :: _ :: _ :: _ :: []) (l₂ := M)); refine OX.append sg 2 16 (M := M) hp rfl rfl rfl rfl rfl rfl rfl rfl rfl rfl rfl hO (Src.whole hp.mem (List.mem_append_right _ (List.Mem.head _))) rfl (by intro u hu; simp only [List.mem_cons, List.not_mem_nil, or_false] at hu; rcases hu with rfl | rfl <;> rfl) (by decide) (by decide) ?_; intro a2 cap2 M2 w hO2 H; clear hp; replace H := H.perm List.perm_append_comm; simp only [List.cons_append, List.nil_append] at H)
          | ((with_reducible apply OW.gY); exact rfl; exact rfl; exact rfl)
          | ((with_reducible apply OW.gN); exact rfl; exact rfl; exact rfl; exact rfl; exact rfl)
          | ((with_reducible apply QW.gY); exact rfl; exact rfl; exact rfl)
          | ((with_reducible apply QW.gN); exact rfl; exact rfl; exact rfl; exact rfl; exact rfl)
          | ((with_reducible apply OW.gS); exact rfl; exact rfl; exact rfl; all_goals intro h)
          | ((with_reducible apply QW.gS); exact rfl; exact rfl; exact rfl; all_goals intro h)
          | with_reducible apply OW.app
          | with_reducible apply OW.app0
          | with_reducible apply QW.app
          | with_reducible apply QW.app0
          | with_reducible apply OW.nil
          | ((with_reducible apply QW.nil); intro w hcl; replace H := H.ext hcl; clear hcl)
          | ((with_reducible apply RW.one); exact rfl; decide +kernel)
          | with_reducible apply thn_n
          | with_reducible apply CW.seq
          | with_reducible apply CW.region
          | ((with_reducible apply CW.regionD mixed); decide +kernel)
          | with_reducible apply CW.block
          | with_reducible apply CW.ret
          | with_reducible apply CW.exit
          | with_reducible apply CW.skip
          | with_reducible apply thn_r
          | with_reducible apply thn_e
          | with_reducible apply blk_n
          | with_reducible apply blk_r
          | ((with_reducible apply blk_e1); exact rfl)
          | ((with_reducible apply blk_e0); exact rfl)
          | ((with_reducible apply CW.condT); exact rfl)
          | ((with_reducible apply CW.condF); exact rfl)
          | ((with_reducible apply CW.cond); exact rfl; all_goals intro h))
        have hO3 : OwnB M2 a2 cap2 [⟨2, 10⟩, ⟨3, 20⟩] := hO2
        exact Again.mk ⟨⟨1, 1, 1, false, 5, 10, 3, 9, [⟨2, 10⟩, ⟨3, 20⟩]⟩, a2, cap2, M2⟩ rfl trivial ⟨hO3.bids (fun _ h => h) (Nat.le_trans (Nat.le_refl 2) (by decide)), show mayF ⟨1, 1, 1, false, 5, 10, 3, 9, [⟨2, 10⟩, ⟨3, 20⟩]⟩ = false by decide +kernel, by rw [hG]; exact H.sub (by repeat (first | exact List.Sublist.refl _ | exact List.nil_sublist _ | apply List.Sublist.cons_cons | apply List.Sublist.cons))⟩ (Nat.lt_succ_self 0)
      · obtain ⟨g3, cs3, rfl, rfl, hcap, hE⟩ := Own.els hO (by decide) (fun j _ => bel_len _ j)
        have hfit := (hE 0 (by decide)).1
        repeat' (first
            | ((with_reducible apply OW.p sg); exact rfl; exact rfl; exact rfl; exact rfl)
            | ((with_reducible apply QW.p sg); exact rfl; exact rfl; exact rfl; exact rfl)
            | ((with_reducible apply OW.go); exact rfl)
            | ((with_reducible apply QW.go); exact rfl)
            | ((with_reducible apply OX.pure sg); exact rfl; exact rfl; exact rfl)
            | ((with_reducible apply QX.pure sg); exact rfl; exact rfl; exact rfl)
            | ((with_reducible apply OX.val); exact rfl; exact rfl; exact Yq.loadS sg rfl rfl H.mem (by first | exact List.Mem.head _ | exact List.Mem.tail _ (List.Mem.head _) | exact List.Mem.tail _ (List.Mem.tail _ (List.Mem.head _)) | exact List.Mem.tail _ (List.Mem.tail _ (List.Mem.tail _ (List.Mem.head _))) | exact List.Mem.tail _ (List.Mem.tail _ (List.Mem.tail _ (List.Mem.tail _ (List.Mem.head _)))) | (repeat (first | exact List.Mem.head _ | refine List.Mem.tail _ ?_))) rfl rfl)
            | ((with_reducible apply QX.val); exact rfl; exact rfl; exact Yq.loadS sg rfl rfl H.mem (by first | exact List.Mem.head _ | exact List.Mem.tail _ (List.Mem.head _) | exact List.Mem.tail _ (List.Mem.tail _ (List.Mem.head _)) | exact List.Mem.tail _ (List.Mem.tail _ (List.Mem.tail _ (List.Mem.head _))) | exact List.Mem.tail _ (List.Mem.tail _ (List.Mem.tail _ (List.Mem.tail _ (List.Mem.head _)))) | (repeat (first | exact List.Mem.head _ | refine List.Mem.tail _ ?_))) rfl rfl)
            | (refine OX.box H rfl rfl rfl rfl rfl ?_; intro b w H _)
            | (refine OX.alloc sg H rfl rfl rfl rfl rfl ?_; intro b w H _)
            | ((with_reducible apply OX.store sg H); exact rfl; exact rfl; exact rfl; exact rfl; exact rfl; exact rfl; (repeat (first | exact Up.here | apply Up.there)); exact rfl; exact rfl; exact rfl; exact rfl; intro w H)
            | ((with_reducible apply RW.nil); exact rfl)
            | ((with_reducible apply OX.val); exact rfl; exact rfl; exact Yq.ixB sg (hE.slb (F := [cb g3 cs3 26]) (T := 26) (List.Mem.head _)) rfl rfl rfl rfl rfl rfl rfl (by first | with_reducible exact Int.toNat_natCast _ | exact toNat_pred (by omega) (by omega) | with_reducible exact toNat_0 | exact toNat_self _) (by decide) (by decide))
            | ((with_reducible apply QX.val); exact rfl; exact rfl; exact Yq.ixB sg (hE.slb (F := [cb g3 cs3 26]) (T := 26) (List.Mem.head _)) rfl rfl rfl rfl rfl rfl rfl (by first | with_reducible exact Int.toNat_natCast _ | exact toNat_pred (by omega) (by omega) | with_reducible exact toNat_0 | exact toNat_self _) (by decide) (by decide))
            | (refine OX.storeX sg (v := .int .i64 1) (vs := [.int .i64 1]) H rfl rfl rfl rfl rfl rfl rfl (Up.there (Up.there (Up.there Up.here))) (by rw [List.length_singleton]; omega) (by intro u hu; rw [List.mem_singleton] at hu; subst hu; rfl) ?_; intro w H)
            | ((with_reducible apply OW.gY); exact rfl; exact rfl; exact rfl)
            | ((with_reducible apply OW.gN); exact rfl; exact rfl; exact rfl; exact rfl; exact rfl)
            | ((with_reducible apply QW.gY); exact rfl; exact rfl; exact rfl)
            | ((with_reducible apply QW.gN); exact rfl; exact rfl; exact rfl; exact rfl; exact rfl)
            | ((with_reducible apply OW.gS); exact rfl; exact rfl; exact rfl; all_goals intro h)
            | ((with_reducible apply QW.gS); exact rfl; exact rfl; exact rfl; all_goals intro h)
            | with_reducible apply OW.app
            | with_reducible apply OW.app0
            | with_reducible apply QW.app
            | with_reducible apply QW.app0
            | with_reducible apply OW.nil
            | ((with_reducible apply QW.nil); intro w hcl; replace H := H.ext hcl; clear hcl)
            | ((with_reducible apply RW.one); exact rfl; decide +kernel)
            | with_reducible apply thn_n
            | with_reducible apply CW.seq
            | with_reducible apply CW.region
            | ((with_reducible apply CW.regionD mixed); decide +kernel)
            | with_reducible apply CW.block
            | with_reducible apply CW.ret
            | with_reducible apply CW.exit
            | with_reducible apply CW.skip
            | with_reducible apply thn_r
            | with_reducible apply thn_e
            | with_reducible apply blk_n
            | with_reducible apply blk_r
            | ((with_reducible apply blk_e1); exact rfl)
            | ((with_reducible apply blk_e0); exact rfl)
            | ((with_reducible apply CW.condT); exact rfl)
            | ((with_reducible apply CW.condF); exact rfl)
            | ((with_reducible apply CW.cond); exact rfl; all_goals intro h))
        have hE2 := Els_wrf (vs := [.int .i64 1]) (f := 0) hE (show 0 < 1 by decide) (show 0 + 1 ≤ 2 by decide)
        exact Again.mk ⟨⟨1, 1, 1, false, 5, 10, 3, 9, [⟨1, 10⟩]⟩, some ⟨g3, 0, none⟩, cap, _⟩ rfl trivial ⟨SlA.of hcap (Nat.le_trans (Nat.le_refl 1) (by decide)) (Els.slb (hE2.congr fun j hj => by (obtain rfl : j = 0 := by have : j < 1 := hj; omega); rfl) (List.Mem.head _)), show mayF ⟨1, 1, 1, false, 5, 10, 3, 9, [⟨1, 10⟩]⟩ = false by decide +kernel, by rw [hG]; exact H⟩ (Nat.lt_succ_self 0)
      · obtain ⟨g3, cs3, rfl, rfl, hcap, hE⟩ := Own.els hO (by decide) (fun j _ => bel_len _ j)
        have hfit := (hE 0 (by decide)).1
        repeat' (first
            | ((with_reducible apply OW.p sg); exact rfl; exact rfl; exact rfl; exact rfl)
            | ((with_reducible apply QW.p sg); exact rfl; exact rfl; exact rfl; exact rfl)
            | ((with_reducible apply OW.go); exact rfl)
            | ((with_reducible apply QW.go); exact rfl)
            | ((with_reducible apply OX.pure sg); exact rfl; exact rfl; exact rfl)
            | ((with_reducible apply QX.pure sg); exact rfl; exact rfl; exact rfl)
            | ((with_reducible apply OX.val); exact rfl; exact rfl; exact Yq.loadS sg rfl rfl H.mem (by first | exact List.Mem.head _ | exact List.Mem.tail _ (List.Mem.head _) | exact List.Mem.tail _ (List.Mem.tail _ (List.Mem.head _)) | exact List.Mem.tail _ (List.Mem.tail _ (List.Mem.tail _ (List.Mem.head _))) | exact List.Mem.tail _ (List.Mem.tail _ (List.Mem.tail _ (List.Mem.tail _ (List.Mem.head _)))) | (repeat (first | exact List.Mem.head _ | refine List.Mem.tail _ ?_))) rfl rfl)
            | ((with_reducible apply QX.val); exact rfl; exact rfl; exact Yq.loadS sg rfl rfl H.mem (by first | exact List.Mem.head _ | exact List.Mem.tail _ (List.Mem.head _) | exact List.Mem.tail _ (List.Mem.tail _ (List.Mem.head _)) | exact List.Mem.tail _ (List.Mem.tail _ (List.Mem.tail _ (List.Mem.head _))) | exact List.Mem.tail _ (List.Mem.tail _ (List.Mem.tail _ (List.Mem.tail _ (List.Mem.head _)))) | (repeat (first | exact List.Mem.head _ | refine List.Mem.tail _ ?_))) rfl rfl)
            | (refine OX.box H rfl rfl rfl rfl rfl ?_; intro b w H _)
            | (refine OX.alloc sg H rfl rfl rfl rfl rfl ?_; intro b w H _)
            | ((with_reducible apply OX.store sg H); exact rfl; exact rfl; exact rfl; exact rfl; exact rfl; exact rfl; (repeat (first | exact Up.here | apply Up.there)); exact rfl; exact rfl; exact rfl; exact rfl; intro w H)
            | ((with_reducible apply RW.nil); exact rfl)
            | ((with_reducible apply OX.val); exact rfl; exact rfl; exact Yq.ixB sg (hE.slb (F := [cb g3 cs3 26]) (T := 26) (List.Mem.head _)) rfl rfl rfl rfl rfl rfl rfl (by first | with_reducible exact Int.toNat_natCast _ | exact toNat_pred (by omega) (by omega) | with_reducible exact toNat_0 | exact toNat_self _) (by decide) (by decide))
            | ((with_reducible apply QX.val); exact rfl; exact rfl; exact Yq.ixB sg (hE.slb (F := [cb g3 cs3 26]) (T := 26) (List.Mem.head _)) rfl rfl rfl rfl rfl rfl rfl (by first | with_reducible exact Int.toNat_natCast _ | exact toNat_pred (by omega) (by omega) | with_reducible exact toNat_0 | exact toNat_self _) (by decide) (by decide))
            | (refine OX.storeX sg (v := .int .i64 65) (vs := [.int .i64 65]) H rfl rfl rfl rfl rfl rfl rfl (Up.there (Up.there (Up.there Up.here))) (by rw [List.length_singleton]; omega) (by intro u hu; rw [List.mem_singleton] at hu; subst hu; rfl) ?_; intro w H)
            | ((with_reducible apply OW.gY); exact rfl; exact rfl; exact rfl)
            | ((with_reducible apply OW.gN); exact rfl; exact rfl; exact rfl; exact rfl; exact rfl)
            | ((with_reducible apply QW.gY); exact rfl; exact rfl; exact rfl)
            | ((with_reducible apply QW.gN); exact rfl; exact rfl; exact rfl; exact rfl; exact rfl)
            | ((with_reducible apply OW.gS); exact rfl; exact rfl; exact rfl; all_goals intro h)
            | ((with_reducible apply QW.gS); exact rfl; exact rfl; exact rfl; all_goals intro h)
            | with_reducible apply OW.app
            | with_reducible apply OW.app0
            | with_reducible apply QW.app
            | with_reducible apply QW.app0
            | with_reducible apply OW.nil
            | ((with_reducible apply QW.nil); intro w hcl; replace H := H.ext hcl; clear hcl)
            | ((with_reducible apply RW.one); exact rfl; decide +kernel)
            | with_reducible apply thn_n
            | with_reducible apply CW.seq
            | with_reducible apply CW.region
            | ((with_reducible apply CW.regionD mixed); decide +kernel)
            | with_reducible apply CW.block
            | with_reducible apply CW.ret
            | with_reducible apply CW.exit
            | with_reducible apply CW.skip
            | with_reducible apply thn_r
            | with_reducible apply thn_e
            | with_reducible apply blk_n
            | with_reducible apply blk_r
            | ((with_reducible apply blk_e1); exact rfl)
            | ((with_reducible apply blk_e0); exact rfl)
            | ((with_reducible apply CW.condT); exact rfl)
            | ((with_reducible apply CW.condF); exact rfl)
            | ((with_reducible apply CW.cond); exact rfl; all_goals intro h))
        have hE2 := Els_wrf (vs := [.int .i64 65]) (f := 0) hE (show 0 < 1 by decide) (show 0 + 1 ≤ 2 by decide)
        exact Again.mk ⟨⟨1, 1, 1, false, 5, 10, 3, 9, [⟨65, 10⟩]⟩, some ⟨g3, 0, none⟩, cap, _⟩ rfl trivial ⟨SlA.of hcap (Nat.le_trans (Nat.le_refl 1) (by decide)) (Els.slb (hE2.congr fun j hj => by (obtain rfl : j = 0 := by have : j < 1 := hj; omega); rfl) (List.Mem.head _)), show mayF ⟨1, 1, 1, false, 5, 10, 3, 9, [⟨65, 10⟩]⟩ = false by decide +kernel, by rw [hG]; exact H⟩ (Nat.lt_succ_self 0)
      · obtain ⟨g3, cs3, rfl, rfl, hcap, hE⟩ := Own.els hO (by decide) (fun j _ => bel_len _ j)
        have hfit := (hE 0 (by decide)).1
        repeat' (first
            | ((with_reducible apply OW.p sg); exact rfl; exact rfl; exact rfl; exact rfl)
            | ((with_reducible apply QW.p sg); exact rfl; exact rfl; exact rfl; exact rfl)
            | ((with_reducible apply OW.go); exact rfl)
            | ((with_reducible apply QW.go); exact rfl)
            | ((with_reducible apply OX.pure sg); exact rfl; exact rfl; exact rfl)
            | ((with_reducible apply QX.pure sg); exact rfl; exact rfl; exact rfl)
            | ((with_reducible apply OX.val); exact rfl; exact rfl; exact Yq.loadS sg rfl rfl H.mem (by first | exact List.Mem.head _ | exact List.Mem.tail _ (List.Mem.head _) | exact List.Mem.tail _ (List.Mem.tail _ (List.Mem.head _)) | exact List.Mem.tail _ (List.Mem.tail _ (List.Mem.tail _ (List.Mem.head _))) | exact List.Mem.tail _ (List.Mem.tail _ (List.Mem.tail _ (List.Mem.tail _ (List.Mem.head _)))) | (repeat (first | exact List.Mem.head _ | refine List.Mem.tail _ ?_))) rfl rfl)
            | ((with_reducible apply QX.val); exact rfl; exact rfl; exact Yq.loadS sg rfl rfl H.mem (by first | exact List.Mem.head _ | exact List.Mem.tail _ (List.Mem.head _) | exact List.Mem.tail _ (List.Mem.tail _ (List.Mem.head _)) | exact List.Mem.tail _ (List.Mem.tail _ (List.Mem.tail _ (List.Mem.head _))) | exact List.Mem.tail _ (List.Mem.tail _ (List.Mem.tail _ (List.Mem.tail _ (List.Mem.head _)))) | (repeat (first | exact List.Mem.head _ | refine List.Mem.tail _ ?_))) rfl rfl)
            | (refine OX.box H rfl rfl rfl rfl rfl ?_; intro b w H _)
            | (refine OX.alloc sg H rfl rfl rfl rfl rfl ?_; intro b w H _)
            | ((with_reducible apply OX.store sg H); exact rfl; exact rfl; exact rfl; exact rfl; exact rfl; exact rfl; (repeat (first | exact Up.here | apply Up.there)); exact rfl; exact rfl; exact rfl; exact rfl; intro w H)
            | ((with_reducible apply RW.nil); exact rfl)
            | ((with_reducible apply OX.val); exact rfl; exact rfl; exact Yq.ixB sg (hE.slb (F := [cb g3 cs3 26]) (T := 26) (List.Mem.head _)) rfl rfl rfl rfl rfl rfl rfl (by first | with_reducible exact Int.toNat_natCast _ | exact toNat_pred (by omega) (by omega) | with_reducible exact toNat_0 | exact toNat_self _) (by decide) (by decide))
            | ((with_reducible apply QX.val); exact rfl; exact rfl; exact Yq.ixB sg (hE.slb (F := [cb g3 cs3 26]) (T := 26) (List.Mem.head _)) rfl rfl rfl rfl rfl rfl rfl (by first | with_reducible exact Int.toNat_natCast _ | exact toNat_pred (by omega) (by omega) | with_reducible exact toNat_0 | exact toNat_self _) (by decide) (by decide))
            | (refine OX.storeX sg (v := .int .i64 1125899906842625) (vs := [.int .i64 1125899906842625]) H rfl rfl rfl rfl rfl rfl rfl (Up.there (Up.there (Up.there Up.here))) (by rw [List.length_singleton]; omega) (by intro u hu; rw [List.mem_singleton] at hu; subst hu; rfl) ?_; intro w H)
            | ((with_reducible apply OW.gY); exact rfl; exact rfl; exact rfl)
            | ((with_reducible apply OW.gN); exact rfl; exact rfl; exact rfl; exact rfl; exact rfl)
            | ((with_reducible apply QW.gY); exact rfl; exact rfl; exact rfl)
            | ((with_reducible apply QW.gN); exact rfl; exact rfl; exact rfl; exact rfl; exact rfl)
            | ((with_reducible apply OW.gS); exact rfl; exact rfl; exact rfl; all_goals intro h)
            | ((with_reducible apply QW.gS); exact rfl; exact rfl; exact rfl; all_goals intro h)
            | with_reducible apply OW.app
            | with_reducible apply OW.app0
            | with_reducible apply QW.app
            | with_reducible apply QW.app0
            | with_reducible apply OW.nil
            | ((with_reducible apply QW.nil); intro w hcl; replace H := H.ext hcl; clear hcl)
            | ((with_reducible apply RW.one); exact rfl; decide +kernel)
            | with_reducible apply thn_n
            | with_reducible apply CW.seq
            | with_reducible apply CW.region
            | ((with_reducible apply CW.regionD mixed); decide +kernel)
            | with_reducible apply CW.block
            | with_reducible apply CW.ret
            | with_reducible apply CW.exit
            | with_reducible apply CW.skip
            | with_reducible apply thn_r
            | with_reducible apply thn_e
            | with_reducible apply blk_n
            | with_reducible apply blk_r
            | ((with_reducible apply blk_e1); exact rfl)
            | ((with_reducible apply blk_e0); exact rfl)
            | ((with_reducible apply CW.condT); exact rfl)
            | ((with_reducible apply CW.condF); exact rfl)
            | ((with_reducible apply CW.cond); exact rfl; all_goals intro h))
        have hE2 := Els_wrf (vs := [.int .i64 1125899906842625]) (f := 1) hE (show 0 < 1 by decide) (show 1 + 1 ≤ 2 by decide)
        exact Again.mk ⟨⟨1, 1, 1, false, 5, 10, 3, 9, [⟨2, 1125899906842625⟩]⟩, some ⟨g3, 0, none⟩, cap, _⟩ rfl trivial ⟨SlA.of hcap (Nat.le_trans (Nat.le_refl 1) (by decide)) (Els.slb (hE2.congr fun j hj => by (obtain rfl : j = 0 := by have : j < 1 := hj; omega); rfl) (List.Mem.head _)), show mayF ⟨1, 1, 1, false, 5, 10, 3, 9, [⟨2, 1125899906842625⟩]⟩ = false by decide +kernel, by rw [hG]; exact H⟩ (Nat.lt_succ_self 0)
      · repeat' (first
          | ((with_reducible apply OW.p sg); exact rfl; exact rfl; exact rfl; exact rfl)
          | ((with_reducible apply QW.p sg); exact rfl; exact rfl; exact rfl; exact rfl)
          | ((with_reducible apply OW.go); exact rfl)
          | ((with_reducible apply QW.go); exact rfl)
          | ((with_reducible apply OX.pure sg); exact rfl; exact rfl; exact rfl)
          | ((with_reducible apply QX.pure sg); exact rfl; exact rfl; exact rfl)
          | ((with_reducible apply OX.val); exact rfl; exact rfl; exact Yq.loadS sg rfl rfl H.mem (by first | exact List.Mem.head _ | exact List.Mem.tail _ (List.Mem.head _) | exact List.Mem.tail _ (List.Mem.tail _ (List.Mem.head _)) | exact List.Mem.tail _ (List.Mem.tail _ (List.Mem.tail _ (List.Mem.head _))) | exact List.Mem.tail _ (List.Mem.tail _ (List.Mem.tail _ (List.Mem.tail _ (List.Mem.head _)))) | (repeat (first | exact List.Mem.head _ | refine List.Mem.tail _ ?_))) rfl rfl)
          | ((with_reducible apply QX.val); exact rfl; exact rfl; exact Yq.loadS sg rfl rfl H.mem (by first | exact List.Mem.head _ | exact List.Mem.tail _ (List.Mem.head _) | exact List.Mem.tail _ (List.Mem.tail _ (List.Mem.head _)) | exact List.Mem.tail _ (List.Mem.tail _ (List.Mem.tail _ (List.Mem.head _))) | exact List.Mem.tail _ (List.Mem.tail _ (List.Mem.tail _ (List.Mem.tail _ (List.Mem.head _)))) | (repeat (first | exact List.Mem.head _ | refine List.Mem.tail _ ?_))) rfl rfl)
          | (refine OX.box H rfl rfl rfl rfl rfl ?_; intro b w H _)
          | (refine OX.alloc sg H rfl rfl rfl rfl rfl ?_; intro b w H _)
          | ((with_reducible apply OX.store sg H); exact rfl; exact rfl; exact rfl; exact rfl; exact rfl; exact rfl; (repeat (first | exact Up.here | apply Up.there)); exact rfl; exact rfl; exact rfl; exact rfl; intro w H)
          | ((with_reducible apply RW.nil); exact rfl)
          | ((with_reducible apply OW.gY); exact rfl; exact rfl; exact rfl)
          | ((with_reducible apply OW.gN); exact rfl; exact rfl; exact rfl; exact rfl; exact rfl)
          | ((with_reducible apply QW.gY); exact rfl; exact rfl; exact rfl)
          | ((with_reducible apply QW.gN); exact rfl; exact rfl; exact rfl; exact rfl; exact rfl)
          | ((with_reducible apply OW.gS); exact rfl; exact rfl; exact rfl; all_goals intro h)
          | ((with_reducible apply QW.gS); exact rfl; exact rfl; exact rfl; all_goals intro h)
          | with_reducible apply OW.app
          | with_reducible apply OW.app0
          | with_reducible apply QW.app
          | with_reducible apply QW.app0
          | with_reducible apply OW.nil
          | ((with_reducible apply QW.nil); intro w hcl; replace H := H.ext hcl; clear hcl)
          | ((with_reducible apply RW.one); exact rfl; decide +kernel)
          | with_reducible apply thn_n
          | with_reducible apply CW.seq
          | with_reducible apply CW.region
          | ((with_reducible apply CW.regionD mixed); decide +kernel)
          | with_reducible apply CW.block
          | with_reducible apply CW.ret
          | with_reducible apply CW.exit
          | with_reducible apply CW.skip
          | with_reducible apply thn_r
          | with_reducible apply thn_e
          | with_reducible apply blk_n
          | with_reducible apply blk_r
          | ((with_reducible apply blk_e1); exact rfl)
          | ((with_reducible apply blk_e0); exact rfl)
          | ((with_reducible apply CW.condT); exact rfl)
          | ((with_reducible apply CW.condF); exact rfl)
          | ((with_reducible apply CW.cond); exact rfl; all_goals intro h))
        exact Again.mk ⟨⟨1, 1, 1, true, 5, 10, 3, 9, [⟨2, 10⟩]⟩, a, cap, M⟩ rfl trivial ⟨hO.bids (fun _ h => h) (Nat.le_trans (Nat.le_refl 1) (by decide)), show mayF ⟨1, 1, 1, true, 5, 10, 3, 9, [⟨2, 10⟩]⟩ = false by decide +kernel, by rw [hG]; exact H⟩ (Nat.lt_succ_self 0)
    clear H hO
    rintro ⟨z, az, cz, Mz⟩ g w ⟨hB, hz, H⟩
    simp only at hB hz H ⊢
    rw [hG] at H
    simp only [List.cons_append, List.nil_append] at H
    repeat' (first
        | ((with_reducible apply OW.p sg); exact rfl; exact rfl; exact rfl; exact rfl)
        | ((with_reducible apply QW.p sg); exact rfl; exact rfl; exact rfl; exact rfl)
        | ((with_reducible apply OW.go); exact rfl)
        | ((with_reducible apply QW.go); exact rfl)
        | ((with_reducible apply OX.pure sg); exact rfl; exact rfl; exact rfl)
        | ((with_reducible apply QX.pure sg); exact rfl; exact rfl; exact rfl)
        | ((with_reducible apply OX.val); exact rfl; exact rfl; exact Yq.loadS sg rfl rfl H.mem (by first | exact List.Mem.head _ | exact List.Mem.tail _ (List.Mem.head _) | exact List.Mem.tail _ (List.Mem.tail _ (List.Mem.head _)) | exact List.Mem.tail _ (List.Mem.tail _ (List.Mem.tail _ (List.Mem.head _))) | exact List.Mem.tail _ (List.Mem.tail _ (List.Mem.tail _ (List.Mem.tail _ (List.Mem.head _)))) | (repeat (first | exact List.Mem.head _ | refine List.Mem.tail _ ?_))) rfl rfl)
        | ((with_reducible apply QX.val); exact rfl; exact rfl; exact Yq.loadS sg rfl rfl H.mem (by first | exact List.Mem.head _ | exact List.Mem.tail _ (List.Mem.head _) | exact List.Mem.tail _ (List.Mem.tail _ (List.Mem.head _)) | exact List.Mem.tail _ (List.Mem.tail _ (List.Mem.tail _ (List.Mem.head _))) | exact List.Mem.tail _ (List.Mem.tail _ (List.Mem.tail _ (List.Mem.tail _ (List.Mem.head _)))) | (repeat (first | exact List.Mem.head _ | refine List.Mem.tail _ ?_))) rfl rfl)
        | (refine OX.box H rfl rfl rfl rfl rfl ?_; intro b w H _)
        | (refine OX.alloc sg H rfl rfl rfl rfl rfl ?_; intro b w H _)
        | ((with_reducible apply OX.store sg H); exact rfl; exact rfl; exact rfl; exact rfl; exact rfl; exact rfl; (repeat (first | exact Up.here | apply Up.there)); exact rfl; exact rfl; exact rfl; exact rfl; intro w H)
        | ((with_reducible apply RW.nil); exact rfl)
        | ((with_reducible apply OX.call); exact rfl; exact rfl; exact En.fn ent18 rfl rfl; exact (noC hz (hB.mono (by intro p hp; repeat (first | exact hp | exact List.mem_append_right _ hp | exact List.mem_append_left _ hp | exact List.mem_append_left _ (List.mem_append_right _ hp) | exact List.mem_append_left _ (List.mem_append_left _ hp) | apply List.mem_cons_of_mem | apply List.mem_append_left)))).win H.mem; intro w hcl; replace H := H.ext hcl; clear hcl)
        | ((with_reducible apply QX.call); exact rfl; exact rfl; exact En.fn ent18 rfl rfl; exact (fun _ hcl => (noC hz (hB.mono (by intro p hp; repeat (first | exact hp | exact List.mem_append_right _ hp | exact List.mem_append_left _ hp | exact List.mem_append_left _ (List.mem_append_right _ hp) | exact List.mem_append_left _ (List.mem_append_left _ hp) | apply List.mem_cons_of_mem | apply List.mem_append_left)))).win (H.ext hcl).mem))
        | ((with_reducible apply OX.call); exact rfl; exact rfl; exact En.fn ent21 rfl rfl; exact (noC hz (hB.mono (by intro p hp; repeat (first | exact hp | exact List.mem_append_right _ hp | exact List.mem_append_left _ hp | exact List.mem_append_left _ (List.mem_append_right _ hp) | exact List.mem_append_left _ (List.mem_append_left _ hp) | apply List.mem_cons_of_mem | apply List.mem_append_left)))).top H.mem; intro w hcl; replace H := H.ext hcl; clear hcl)
        | ((with_reducible apply QX.call); exact rfl; exact rfl; exact En.fn ent21 rfl rfl; exact (fun _ hcl => (noC hz (hB.mono (by intro p hp; repeat (first | exact hp | exact List.mem_append_right _ hp | exact List.mem_append_left _ hp | exact List.mem_append_left _ (List.mem_append_right _ hp) | exact List.mem_append_left _ (List.mem_append_left _ hp) | apply List.mem_cons_of_mem | apply List.mem_append_left)))).top (H.ext hcl).mem))
        | ((with_reducible apply OX.callF); exact rfl; exact rfl; exact En.fn ent15 rfl rfl; exact (noC hz (hB.mono (by intro p hp; repeat (first | exact hp | exact List.mem_append_right _ hp | exact List.mem_append_left _ hp | exact List.mem_append_left _ (List.mem_append_right _ hp) | exact List.mem_append_left _ (List.mem_append_left _ hp) | apply List.mem_cons_of_mem | apply List.mem_append_left)))).take H.mem; intro v M5 w hR hS; replace H := H.addR hS; clear hS; (try simp only [List.cons_append, List.nil_append] at H); obtain ⟨a5, c5, rfl⟩ := hR)
        | ((with_reducible apply OX.call); exact rfl; exact rfl; exact En.fn ent35 rfl rfl; exact (noC hz (hB.mono (by intro p hp; repeat (first | exact hp | exact List.mem_append_right _ hp | exact List.mem_append_left _ hp | exact List.mem_append_left _ (List.mem_append_right _ hp) | exact List.mem_append_left _ (List.mem_append_left _ hp) | apply List.mem_cons_of_mem | apply List.mem_append_left)))).held H.mem; intro w hcl; replace H := H.ext hcl; clear hcl)
        | ((with_reducible apply QX.call); exact rfl; exact rfl; exact En.fn ent35 rfl rfl; exact (fun _ hcl => (noC hz (hB.mono (by intro p hp; repeat (first | exact hp | exact List.mem_append_right _ hp | exact List.mem_append_left _ hp | exact List.mem_append_left _ (List.mem_append_right _ hp) | exact List.mem_append_left _ (List.mem_append_left _ hp) | apply List.mem_cons_of_mem | apply List.mem_append_left)))).held (H.ext hcl).mem))
        | ((with_reducible apply OX.call); exact rfl; exact rfl; exact En.fn ent17 rfl rfl; exact (noC hz (hB.mono (by intro p hp; repeat (first | exact hp | exact List.mem_append_right _ hp | exact List.mem_append_left _ hp | exact List.mem_append_left _ (List.mem_append_right _ hp) | exact List.mem_append_left _ (List.mem_append_left _ hp) | apply List.mem_cons_of_mem | apply List.mem_append_left)))).may H.mem; intro w hcl; replace H := H.ext hcl; clear hcl)
        | ((with_reducible apply QX.call); exact rfl; exact rfl; exact En.fn ent17 rfl rfl; exact (fun _ hcl => (noC hz (hB.mono (by intro p hp; repeat (first | exact hp | exact List.mem_append_right _ hp | exact List.mem_append_left _ hp | exact List.mem_append_left _ (List.mem_append_right _ hp) | exact List.mem_append_left _ (List.mem_append_left _ hp) | apply List.mem_cons_of_mem | apply List.mem_append_left)))).may (H.ext hcl).mem))
        | ((with_reducible apply OX.buildA sg H); exact rfl; exact rfl; exact rfl; exact rfl; exact rfl; exact rfl; exact rfl; exact rfl; exact rfl; exact rfl; exact rfl; exact rfl; intro b w H _)
        | ((with_reducible apply OX.call); exact rfl; exact rfl; exact En.fn ent32 rfl rfl; exact no_mayall hz H.mem (by repeat (first | exact List.Mem.head _ | exact List.mem_append_right _ (List.Mem.head _) | refine List.Mem.tail _ ?_)) (hB.mono (by intro p hp; repeat (first | exact hp | exact List.mem_append_right _ hp | exact List.mem_append_left _ hp | exact List.mem_append_left _ (List.mem_append_right _ hp) | exact List.mem_append_left _ (List.mem_append_left _ hp) | apply List.mem_cons_of_mem | apply List.mem_append_left))); intro w hcl; replace H := H.ext hcl; clear hcl)
        | ((with_reducible apply QX.call); exact rfl; exact rfl; exact En.fn ent32 rfl rfl; exact (fun _ hcl => no_mayall hz (H.ext hcl).mem (by repeat (first | exact List.Mem.head _ | exact List.mem_append_right _ (List.Mem.head _) | refine List.Mem.tail _ ?_)) (hB.mono (by intro p hp; repeat (first | exact hp | exact List.mem_append_right _ hp | exact List.mem_append_left _ hp | exact List.mem_append_left _ (List.mem_append_right _ hp) | exact List.mem_append_left _ (List.mem_append_left _ hp) | apply List.mem_cons_of_mem | apply List.mem_append_left)))))
        | ((with_reducible apply OX.call); exact rfl; exact rfl; exact En.fn ent24 rfl rfl; exact (noC hz (hB.mono (by intro p hp; repeat (first | exact hp | exact List.mem_append_right _ hp | exact List.mem_append_left _ hp | exact List.mem_append_left _ (List.mem_append_right _ hp) | exact List.mem_append_left _ (List.mem_append_left _ hp) | apply List.mem_cons_of_mem | apply List.mem_append_left)))).least H.mem; intro w hcl; replace H := H.ext hcl; clear hcl)
        | ((with_reducible apply QX.call); exact rfl; exact rfl; exact En.fn ent24 rfl rfl; exact (fun _ hcl => (noC hz (hB.mono (by intro p hp; repeat (first | exact hp | exact List.mem_append_right _ hp | exact List.mem_append_left _ hp | exact List.mem_append_left _ (List.mem_append_right _ hp) | exact List.mem_append_left _ (List.mem_append_left _ hp) | apply List.mem_cons_of_mem | apply List.mem_append_left)))).least (H.ext hcl).mem))
        | ((with_reducible apply OX.call); exact rfl; exact rfl; exact En.fn ent26 rfl rfl; exact (noC hz (hB.mono (by intro p hp; repeat (first | exact hp | exact List.mem_append_right _ hp | exact List.mem_append_left _ hp | exact List.mem_append_left _ (List.mem_append_right _ hp) | exact List.mem_append_left _ (List.mem_append_left _ hp) | apply List.mem_cons_of_mem | apply List.mem_append_left)))).due H.mem; intro w hcl; replace H := H.ext hcl; clear hcl)
        | ((with_reducible apply QX.call); exact rfl; exact rfl; exact En.fn ent26 rfl rfl; exact (fun _ hcl => (noC hz (hB.mono (by intro p hp; repeat (first | exact hp | exact List.mem_append_right _ hp | exact List.mem_append_left _ hp | exact List.mem_append_left _ (List.mem_append_right _ hp) | exact List.mem_append_left _ (List.mem_append_left _ hp) | apply List.mem_cons_of_mem | apply List.mem_append_left)))).due (H.ext hcl).mem))
        | ((with_reducible apply OX.call); exact rfl; exact rfl; exact En.fn ent29 rfl rfl; exact no_row hz H.mem (by repeat (first | exact List.Mem.head _ | exact List.mem_append_right _ (List.Mem.head _) | refine List.Mem.tail _ ?_)) (hB.mono (by intro p hp; repeat (first | exact hp | exact List.mem_append_right _ hp | exact List.mem_append_left _ hp | exact List.mem_append_left _ (List.mem_append_right _ hp) | exact List.mem_append_left _ (List.mem_append_left _ hp) | apply List.mem_cons_of_mem | apply List.mem_append_left))); intro w hcl; replace H := H.ext hcl; clear hcl)
        | ((with_reducible apply QX.call); exact rfl; exact rfl; exact En.fn ent29 rfl rfl; exact (fun _ hcl => no_row hz (H.ext hcl).mem (by repeat (first | exact List.Mem.head _ | exact List.mem_append_right _ (List.Mem.head _) | refine List.Mem.tail _ ?_)) (hB.mono (by intro p hp; repeat (first | exact hp | exact List.mem_append_right _ hp | exact List.mem_append_left _ hp | exact List.mem_append_left _ (List.mem_append_right _ hp) | exact List.mem_append_left _ (List.mem_append_left _ hp) | apply List.mem_cons_of_mem | apply List.mem_append_left)))))
        | ((with_reducible apply OW.gY); exact rfl; exact rfl; exact rfl)
        | ((with_reducible apply OW.gN); exact rfl; exact rfl; exact rfl; exact rfl; exact rfl)
        | ((with_reducible apply QW.gY); exact rfl; exact rfl; exact rfl)
        | ((with_reducible apply QW.gN); exact rfl; exact rfl; exact rfl; exact rfl; exact rfl)
        | ((with_reducible apply OW.gS); exact rfl; exact rfl; exact rfl; all_goals (intro h; try (exfalso; first | (cases h; done) | (exact absurd h (by decide); done) | (simp at h; done))))
        | ((with_reducible apply QW.gS); exact rfl; exact rfl; exact rfl; all_goals (intro h; try (exfalso; first | (cases h; done) | (exact absurd h (by decide); done) | (simp at h; done))))
        | with_reducible apply OW.app
        | with_reducible apply OW.app0
        | with_reducible apply QW.app
        | with_reducible apply QW.app0
        | with_reducible apply OW.nil
        | ((with_reducible apply QW.nil); intro w hcl; replace H := H.ext hcl; clear hcl)
        | ((with_reducible apply RW.one); exact rfl; decide +kernel)
        | with_reducible apply thn_n
        | with_reducible apply CW.seq
        | with_reducible apply CW.region
        | ((with_reducible apply CW.regionD mixed); decide +kernel)
        | with_reducible apply CW.block
        | with_reducible apply CW.ret
        | with_reducible apply CW.exit
        | with_reducible apply CW.skip
        | with_reducible apply thn_r
        | with_reducible apply thn_e
        | with_reducible apply blk_n
        | with_reducible apply blk_r
        | ((with_reducible apply blk_e1); exact rfl)
        | ((with_reducible apply blk_e0); exact rfl)
        | ((with_reducible apply CW.condT); exact rfl)
        | ((with_reducible apply CW.condF); exact rfl)
        | ((with_reducible apply CW.cond); exact rfl; all_goals (intro h; try (exfalso; first | (cases h; done) | (exact absurd h (by decide); done) | (simp at h; done)))))
    all_goals exact Again.mk2 (k + 1) rfl ⟨vsucc (by omega), trivial⟩ ⟨hlt, by rw [hG]; exact H.sub (by repeat (first | exact List.Sublist.refl _ | exact List.nil_sublist _ | apply List.Sublist.cons_cons | apply List.Sublist.cons))⟩ (by omega)
  · clear hk h2
    repeat' (first
        | ((with_reducible apply OW.p sg); exact rfl; exact rfl; exact rfl; exact rfl)
        | ((with_reducible apply QW.p sg); exact rfl; exact rfl; exact rfl; exact rfl)
        | ((with_reducible apply OW.go); exact rfl)
        | ((with_reducible apply QW.go); exact rfl)
        | ((with_reducible apply OX.pure sg); exact rfl; exact rfl; exact rfl)
        | ((with_reducible apply QX.pure sg); exact rfl; exact rfl; exact rfl)
        | ((with_reducible apply OX.val); exact rfl; exact rfl; exact Yq.loadS sg rfl rfl H.mem (by first | exact List.Mem.head _ | exact List.Mem.tail _ (List.Mem.head _) | exact List.Mem.tail _ (List.Mem.tail _ (List.Mem.head _)) | exact List.Mem.tail _ (List.Mem.tail _ (List.Mem.tail _ (List.Mem.head _))) | exact List.Mem.tail _ (List.Mem.tail _ (List.Mem.tail _ (List.Mem.tail _ (List.Mem.head _)))) | (repeat (first | exact List.Mem.head _ | refine List.Mem.tail _ ?_))) rfl rfl)
        | ((with_reducible apply QX.val); exact rfl; exact rfl; exact Yq.loadS sg rfl rfl H.mem (by first | exact List.Mem.head _ | exact List.Mem.tail _ (List.Mem.head _) | exact List.Mem.tail _ (List.Mem.tail _ (List.Mem.head _)) | exact List.Mem.tail _ (List.Mem.tail _ (List.Mem.tail _ (List.Mem.head _))) | exact List.Mem.tail _ (List.Mem.tail _ (List.Mem.tail _ (List.Mem.tail _ (List.Mem.head _)))) | (repeat (first | exact List.Mem.head _ | refine List.Mem.tail _ ?_))) rfl rfl)
        | (refine OX.box H rfl rfl rfl rfl rfl ?_; intro b w H _)
        | (refine OX.alloc sg H rfl rfl rfl rfl rfl ?_; intro b w H _)
        | ((with_reducible apply OX.store sg H); exact rfl; exact rfl; exact rfl; exact rfl; exact rfl; exact rfl; (repeat (first | exact Up.here | apply Up.there)); exact rfl; exact rfl; exact rfl; exact rfl; intro w H)
        | ((with_reducible apply RW.nil); exact rfl)
        | ((with_reducible apply OX.call); exact rfl; exact rfl; exact En.fn ent36 rfl rfl; exact c_sealed 10 [] none 0 _; intro w hcl; replace H := H.ext hcl; clear hcl)
        | ((with_reducible apply QX.call); exact rfl; exact rfl; exact En.fn ent36 rfl rfl; exact (fun _ hcl => c_sealed 10 [] none 0 _))
        | ((with_reducible apply OW.gY); exact rfl; exact rfl; exact rfl)
        | ((with_reducible apply OW.gN); exact rfl; exact rfl; exact rfl; exact rfl; exact rfl)
        | ((with_reducible apply QW.gY); exact rfl; exact rfl; exact rfl)
        | ((with_reducible apply QW.gN); exact rfl; exact rfl; exact rfl; exact rfl; exact rfl)
        | ((with_reducible apply OW.gS); exact rfl; exact rfl; exact rfl; all_goals intro h)
        | ((with_reducible apply QW.gS); exact rfl; exact rfl; exact rfl; all_goals intro h)
        | with_reducible apply OW.app
        | with_reducible apply OW.app0
        | with_reducible apply QW.app
        | with_reducible apply QW.app0
        | with_reducible apply OW.nil
        | ((with_reducible apply QW.nil); intro w hcl; replace H := H.ext hcl; clear hcl)
        | ((with_reducible apply RW.one); exact rfl; decide +kernel)
        | with_reducible apply thn_n
        | with_reducible apply CW.seq
        | with_reducible apply CW.region
        | ((with_reducible apply CW.regionD mixed); decide +kernel)
        | with_reducible apply CW.block
        | with_reducible apply CW.ret
        | with_reducible apply CW.exit
        | with_reducible apply CW.skip
        | with_reducible apply thn_r
        | with_reducible apply thn_e
        | with_reducible apply blk_n
        | with_reducible apply blk_r
        | ((with_reducible apply blk_e1); exact rfl)
        | ((with_reducible apply blk_e0); exact rfl)
        | ((with_reducible apply CW.condT); exact rfl)
        | ((with_reducible apply CW.condF); exact rfl))
    obtain ⟨b12, rfl⟩ : ∃ q, q = b := ⟨_, rfl⟩
    refine CW.loopI [(13, 13), (173, 183)] (fun y : Fw => [(13, .int .i64 ((y.i : Int) + 2))])
      (fun y w => y.i ≤ 16 ∧ OwnB y.m y.a y.cap (fullL y.i) ∧ St w0 (cb b12 ((sea 10 (fullL y.i)).cells y.a y.cap) 24 :: (G ++ y.m)) w) (fun y => 16 - y.i) ⟨0, none, 0, []⟩
      ⟨rfl, trivial⟩ ⟨Nat.zero_le _, Own.nil _ _ _, by rw [hG]; exact H⟩ ?_
    clear H
    rintro ⟨i, a, cap, m⟩ g w ⟨hi, hO, H⟩
    simp only at hi hO H ⊢
    rw [hG] at H
    simp only [List.cons_append, List.nil_append] at H
    repeat' (first
        | ((with_reducible apply OW.p sg); exact rfl; exact rfl; exact rfl; exact rfl)
        | ((with_reducible apply QW.p sg); exact rfl; exact rfl; exact rfl; exact rfl)
        | ((with_reducible apply OW.go); exact rfl)
        | ((with_reducible apply QW.go); exact rfl)
        | ((with_reducible apply OX.pure sg); exact rfl; exact rfl; exact rfl)
        | ((with_reducible apply QX.pure sg); exact rfl; exact rfl; exact rfl)
        | ((with_reducible apply OX.val); exact rfl; exact rfl; exact Yq.loadS sg rfl rfl H.mem (by first | exact List.Mem.head _ | exact List.Mem.tail _ (List.Mem.head _) | exact List.Mem.tail _ (List.Mem.tail _ (List.Mem.head _)) | exact List.Mem.tail _ (List.Mem.tail _ (List.Mem.tail _ (List.Mem.head _))) | exact List.Mem.tail _ (List.Mem.tail _ (List.Mem.tail _ (List.Mem.tail _ (List.Mem.head _)))) | (repeat (first | exact List.Mem.head _ | refine List.Mem.tail _ ?_))) rfl rfl)
        | ((with_reducible apply QX.val); exact rfl; exact rfl; exact Yq.loadS sg rfl rfl H.mem (by first | exact List.Mem.head _ | exact List.Mem.tail _ (List.Mem.head _) | exact List.Mem.tail _ (List.Mem.tail _ (List.Mem.head _)) | exact List.Mem.tail _ (List.Mem.tail _ (List.Mem.tail _ (List.Mem.head _))) | exact List.Mem.tail _ (List.Mem.tail _ (List.Mem.tail _ (List.Mem.tail _ (List.Mem.head _)))) | (repeat (first | exact List.Mem.head _ | refine List.Mem.tail _ ?_))) rfl rfl)
        | (refine OX.box H rfl rfl rfl rfl rfl ?_; intro b w H _)
        | (refine OX.alloc sg H rfl rfl rfl rfl rfl ?_; intro b w H _)
        | ((with_reducible apply OX.store sg H); exact rfl; exact rfl; exact rfl; exact rfl; exact rfl; exact rfl; (repeat (first | exact Up.here | apply Up.there)); exact rfl; exact rfl; exact rfl; exact rfl; intro w H)
        | ((with_reducible apply RW.nil); exact rfl)
        | ((with_reducible apply OW.gY); exact rfl; exact rfl; exact rfl)
        | ((with_reducible apply OW.gN); exact rfl; exact rfl; exact rfl; exact rfl; exact rfl)
        | ((with_reducible apply QW.gY); exact rfl; exact rfl; exact rfl)
        | ((with_reducible apply QW.gN); exact rfl; exact rfl; exact rfl; exact rfl; exact rfl)
        | ((with_reducible apply OW.gS); exact rfl; exact rfl; exact rfl; all_goals intro h)
        | ((with_reducible apply QW.gS); exact rfl; exact rfl; exact rfl; all_goals intro h)
        | with_reducible apply OW.app
        | with_reducible apply OW.app0
        | with_reducible apply QW.app
        | with_reducible apply QW.app0
        | with_reducible apply OW.nil
        | ((with_reducible apply QW.nil); intro w hcl; replace H := H.ext hcl; clear hcl)
        | ((with_reducible apply RW.one); exact rfl; decide +kernel)
        | with_reducible apply thn_n
        | with_reducible apply CW.seq
        | with_reducible apply CW.region
        | ((with_reducible apply CW.regionD mixed); decide +kernel)
        | with_reducible apply CW.block
        | with_reducible apply CW.ret
        | with_reducible apply CW.exit
        | with_reducible apply CW.skip
        | with_reducible apply thn_r
        | with_reducible apply thn_e
        | with_reducible apply blk_n
        | with_reducible apply blk_r
        | ((with_reducible apply blk_e1); exact rfl)
        | ((with_reducible apply blk_e0); exact rfl)
        | ((with_reducible apply CW.condT); exact rfl)
        | ((with_reducible apply CW.condF); exact rfl))
    refine CW.cond rfl (fun h2 => ?_) (fun h2 => ?_)
    · have hlt : i < 16 := by have := of_decide_eq_true h2; omega
      repeat' (first
          | ((with_reducible apply OW.p sg); exact rfl; exact rfl; exact rfl; exact rfl)
          | ((with_reducible apply QW.p sg); exact rfl; exact rfl; exact rfl; exact rfl)
          | ((with_reducible apply OW.go); exact rfl)
          | ((with_reducible apply QW.go); exact rfl)
          | ((with_reducible apply OX.pure sg); exact rfl; exact rfl; exact rfl)
          | ((with_reducible apply QX.pure sg); exact rfl; exact rfl; exact rfl)
          | ((with_reducible apply OX.val); exact rfl; exact rfl; exact Yq.loadS sg rfl rfl H.mem (by first | exact List.Mem.head _ | exact List.Mem.tail _ (List.Mem.head _) | exact List.Mem.tail _ (List.Mem.tail _ (List.Mem.head _)) | exact List.Mem.tail _ (List.Mem.tail _ (List.Mem.tail _ (List.Mem.head _))) | exact List.Mem.tail _ (List.Mem.tail _ (List.Mem.tail _ (List.Mem.tail _ (List.Mem.head _)))) | (repeat (first | exact List.Mem.head _ | refine List.Mem.tail _ ?_))) rfl rfl)
          | ((with_reducible apply QX.val); exact rfl; exact rfl; exact Yq.loadS sg rfl rfl H.mem (by first | exact List.Mem.head _ | exact List.Mem.tail _ (List.Mem.head _) | exact List.Mem.tail _ (List.Mem.tail _ (List.Mem.head _)) | exact List.Mem.tail _ (List.Mem.tail _ (List.Mem.tail _ (List.Mem.head _))) | exact List.Mem.tail _ (List.Mem.tail _ (List.Mem.tail _ (List.Mem.tail _ (List.Mem.head _)))) | (repeat (first | exact List.Mem.head _ | refine List.Mem.tail _ ?_))) rfl rfl)
          | (refine OX.box H rfl rfl rfl rfl rfl ?_; intro b w H _)
          | (refine OX.alloc sg H rfl rfl rfl rfl rfl ?_; intro b w H _)
          | ((with_reducible apply OX.store sg H); exact rfl; exact rfl; exact rfl; exact rfl; exact rfl; exact rfl; (repeat (first | exact Up.here | apply Up.there)); exact rfl; exact rfl; exact rfl; exact rfl; intro w H)
          | ((with_reducible apply RW.nil); exact rfl)
          | ((with_reducible apply OX.buildS sg H); exact rfl; exact rfl; exact rfl; exact rfl; exact rfl; exact rfl; exact rfl; exact rfl; exact rfl; exact rfl; intro b w H _)
          | (have hp := H.perm (List.perm_append_comm (l₁ := _ :: _ :: _ :: _ :: []) (l₂ := m)); refine OX.append sg 2 16 (M := m) hp rfl rfl rfl rfl rfl rfl rfl rfl rfl rfl rfl hO (Src.whole hp.mem (List.mem_append_right _ (List.Mem.head _))) rfl (by intro u hu; simp only [List.mem_cons, List.not_mem_nil, or_false] at hu; rcases hu with rfl | rfl <;> rfl) (by show (fullL i).length + 1 ≤ maxLen; rw [fullL_len]; unfold maxLen; omega) (by show ((fullL i).length + 1) * 16 ≤ 140737488355328; rw [fullL_len]; omega) ?_; intro a2 cap2 M2 w hO2 H; clear hp; replace H := H.perm List.perm_append_comm; simp only [List.cons_append, List.nil_append] at H)
          | ((with_reducible apply OW.gY); exact rfl; exact rfl; exact rfl)
          | ((with_reducible apply OW.gN); exact rfl; exact rfl; exact rfl; exact rfl; exact rfl)
          | ((with_reducible apply QW.gY); exact rfl; exact rfl; exact rfl)
          | ((with_reducible apply QW.gN); exact rfl; exact rfl; exact rfl; exact rfl; exact rfl)
          | ((with_reducible apply OW.gS); exact rfl; exact rfl; exact rfl; all_goals intro h)
          | ((with_reducible apply QW.gS); exact rfl; exact rfl; exact rfl; all_goals intro h)
          | with_reducible apply OW.app
          | with_reducible apply OW.app0
          | with_reducible apply QW.app
          | with_reducible apply QW.app0
          | with_reducible apply OW.nil
          | ((with_reducible apply QW.nil); intro w hcl; replace H := H.ext hcl; clear hcl)
          | ((with_reducible apply RW.one); exact rfl; decide +kernel)
          | with_reducible apply thn_n
          | with_reducible apply CW.seq
          | with_reducible apply CW.region
          | ((with_reducible apply CW.regionD mixed); decide +kernel)
          | with_reducible apply CW.block
          | with_reducible apply CW.ret
          | with_reducible apply CW.exit
          | with_reducible apply CW.skip
          | with_reducible apply thn_r
          | with_reducible apply thn_e
          | with_reducible apply blk_n
          | with_reducible apply blk_r
          | ((with_reducible apply blk_e1); exact rfl)
          | ((with_reducible apply blk_e0); exact rfl)
          | ((with_reducible apply CW.condT); exact rfl)
          | ((with_reducible apply CW.condF); exact rfl))
      have e : (fullL (i + 1)).length = (fullL i).length + 1 := by rw [fullL_len, fullL_len]
      refine Again.mk ⟨i + 1, a2, cap2, M2⟩ rfl ⟨vint (by omega) (by omega) (by show (i : Int) + 2 + 1 = ((i + 1 : Nat) : Int) + 2; omega), trivial⟩ ⟨hlt, ?_, ?_⟩ (by show 16 - (i + 1) < 16 - i; omega)
      · show OwnB M2 a2 cap2 (fullL (i + 1))
        rw [fullL_succ]
        show Own M2 _ 2 a2 (fullL i ++ [_]).length cap2 ((List.range (fullL i ++ [(⟨(i : Int) + 2, 5⟩ : Bid)]).length).flatMap (bel (fullL i ++ [⟨(i : Int) + 2, 5⟩])))
        rw [← flat_snoc, List.length_append]
        exact hO2
      · show St w0 (cb b12 ((sea 10 (fullL (i + 1))).cells a2 cap2) _ :: (G ++ M2)) w
        rw [sea_cells, e, hG]
        exact H.sub (by repeat (first | exact List.Sublist.refl _ | exact List.nil_sublist _ | apply List.Sublist.cons_cons | apply List.Sublist.cons))
    · have hi16 : i = 16 := by have := of_decide_eq_false h2; omega
      subst hi16
      clear hi h2
      repeat' (first
          | ((with_reducible apply OW.p sg); exact rfl; exact rfl; exact rfl; exact rfl)
          | ((with_reducible apply QW.p sg); exact rfl; exact rfl; exact rfl; exact rfl)
          | ((with_reducible apply OW.go); exact rfl)
          | ((with_reducible apply QW.go); exact rfl)
          | ((with_reducible apply OX.pure sg); exact rfl; exact rfl; exact rfl)
          | ((with_reducible apply QX.pure sg); exact rfl; exact rfl; exact rfl)
          | ((with_reducible apply OX.val); exact rfl; exact rfl; exact Yq.loadS sg rfl rfl H.mem (by first | exact List.Mem.head _ | exact List.Mem.tail _ (List.Mem.head _) | exact List.Mem.tail _ (List.Mem.tail _ (List.Mem.head _)) | exact List.Mem.tail _ (List.Mem.tail _ (List.Mem.tail _ (List.Mem.head _))) | exact List.Mem.tail _ (List.Mem.tail _ (List.Mem.tail _ (List.Mem.tail _ (List.Mem.head _)))) | (repeat (first | exact List.Mem.head _ | refine List.Mem.tail _ ?_))) rfl rfl)
          | ((with_reducible apply QX.val); exact rfl; exact rfl; exact Yq.loadS sg rfl rfl H.mem (by first | exact List.Mem.head _ | exact List.Mem.tail _ (List.Mem.head _) | exact List.Mem.tail _ (List.Mem.tail _ (List.Mem.head _)) | exact List.Mem.tail _ (List.Mem.tail _ (List.Mem.tail _ (List.Mem.head _))) | exact List.Mem.tail _ (List.Mem.tail _ (List.Mem.tail _ (List.Mem.tail _ (List.Mem.head _)))) | (repeat (first | exact List.Mem.head _ | refine List.Mem.tail _ ?_))) rfl rfl)
          | (refine OX.box H rfl rfl rfl rfl rfl ?_; intro b w H _)
          | (refine OX.alloc sg H rfl rfl rfl rfl rfl ?_; intro b w H _)
          | ((with_reducible apply OX.store sg H); exact rfl; exact rfl; exact rfl; exact rfl; exact rfl; exact rfl; (repeat (first | exact Up.here | apply Up.there)); exact rfl; exact rfl; exact rfl; exact rfl; intro w H)
          | ((with_reducible apply RW.nil); exact rfl)
          | ((with_reducible apply OX.callF); exact rfl; exact rfl; exact En.fn ent13 rfl rfl; exact own_f H.mem hO (by intro p hp; repeat (first | exact hp | exact List.mem_append_right _ hp | exact List.mem_append_left _ hp | exact List.mem_append_left _ (List.mem_append_right _ hp) | exact List.mem_append_left _ (List.mem_append_left _ hp) | apply List.mem_cons_of_mem | apply List.mem_append_left)); intro v M4 w hR hS; replace H := H.addR hS; clear hS; (try simp only [List.cons_append, List.nil_append] at H); obtain ⟨a4, c4, rfl, hO4⟩ := hR)
          | ((with_reducible apply OX.buildS sg H); exact rfl; exact rfl; exact rfl; exact rfl; exact rfl; exact rfl; exact rfl; exact rfl; exact rfl; exact rfl; intro b w H _)
          | (have hp := H.perm (List.perm_append_comm (l₁ := _ :: _ :: _ :: _ :: _ :: m) (l₂ := M4)); refine OX.append sg 2 16 (M := M4) hp rfl rfl rfl rfl rfl rfl rfl rfl rfl rfl rfl hO4 (Src.whole hp.mem (List.mem_append_right _ (List.Mem.head _))) rfl (by intro u hu; simp only [List.mem_cons, List.not_mem_nil, or_false] at hu; rcases hu with rfl | rfl <;> rfl) (by show (fullL 16).length + 1 ≤ maxLen; rw [fullL_len]; decide) (by show ((fullL 16).length + 1) * 16 ≤ 140737488355328; rw [fullL_len]; decide) ?_; intro a5 c5 M5 w hO5 H; clear hp; replace H := H.perm List.perm_append_comm; simp only [List.cons_append, List.nil_append] at H)
          | ((with_reducible apply OX.callF); exact rfl; exact rfl; exact En.fn ent15 rfl rfl; exact take_f tf1 H.mem hO (by intro p hp; repeat (first | exact hp | exact List.mem_append_right _ hp | exact List.mem_append_left _ hp | exact List.mem_append_left _ (List.mem_append_right _ hp) | exact List.mem_append_left _ (List.mem_append_left _ hp) | apply List.mem_cons_of_mem | apply List.mem_append_left)); intro v M6 w hR hS; replace H := H.addR hS; clear hS; (try simp only [List.cons_append, List.nil_append] at H); obtain ⟨a6, c6, rfl⟩ := hR)
          | ((with_reducible apply OX.callF); exact rfl; exact rfl; exact En.fn ent15 rfl rfl; exact take_f tf2 H.mem hO (by intro p hp; repeat (first | exact hp | exact List.mem_append_right _ hp | exact List.mem_append_left _ hp | exact List.mem_append_left _ (List.mem_append_right _ hp) | exact List.mem_append_left _ (List.mem_append_left _ hp) | apply List.mem_cons_of_mem | apply List.mem_append_left)); intro v M6 w hR hS; replace H := H.addR hS; clear hS; (try simp only [List.cons_append, List.nil_append] at H); obtain ⟨a6, c6, rfl⟩ := hR)
          | ((with_reducible apply OX.callF); exact rfl; exact rfl; exact En.fn ent15 rfl rfl; exact take_f tf3 H.mem hO (by intro p hp; repeat (first | exact hp | exact List.mem_append_right _ hp | exact List.mem_append_left _ hp | exact List.mem_append_left _ (List.mem_append_right _ hp) | exact List.mem_append_left _ (List.mem_append_left _ hp) | apply List.mem_cons_of_mem | apply List.mem_append_left)); intro v M6 w hR hS; replace H := H.addR hS; clear hS; (try simp only [List.cons_append, List.nil_append] at H); obtain ⟨a6, c6, rfl⟩ := hR)
          | ((with_reducible apply OX.callF); exact rfl; exact rfl; exact En.fn ent15 rfl rfl; exact take_f tf4 H.mem hO (by intro p hp; repeat (first | exact hp | exact List.mem_append_right _ hp | exact List.mem_append_left _ hp | exact List.mem_append_left _ (List.mem_append_right _ hp) | exact List.mem_append_left _ (List.mem_append_left _ hp) | apply List.mem_cons_of_mem | apply List.mem_append_left)); intro v M6 w hR hS; replace H := H.addR hS; clear hS; (try simp only [List.cons_append, List.nil_append] at H); obtain ⟨a6, c6, rfl⟩ := hR)
          | ((with_reducible apply OX.callF); exact rfl; exact rfl; exact En.fn ent15 rfl rfl; exact take_g tg1 H.mem (by repeat (first | exact List.Mem.head _ | refine List.Mem.tail _ ?_)); intro v M6 w hR hS; replace H := H.addR hS; clear hS; (try simp only [List.cons_append, List.nil_append] at H); obtain ⟨a6, c6, rfl⟩ := hR)
          | ((with_reducible apply OX.callF); exact rfl; exact rfl; exact En.fn ent15 rfl rfl; exact take_g tg2 H.mem (by repeat (first | exact List.Mem.head _ | refine List.Mem.tail _ ?_)); intro v M6 w hR hS; replace H := H.addR hS; clear hS; (try simp only [List.cons_append, List.nil_append] at H); obtain ⟨a6, c6, rfl⟩ := hR)
          | ((with_reducible apply OX.callF); exact rfl; exact rfl; exact En.fn ent15 rfl rfl; exact take_13 H.mem (by repeat (first | exact List.Mem.head _ | refine List.Mem.tail _ ?_)); intro v M6 w hR hS; replace H := H.addR hS; clear hS; (try simp only [List.cons_append, List.nil_append] at H); obtain ⟨a6, c6, rfl⟩ := hR)
          | ((with_reducible apply OW.gY); exact rfl; exact rfl; exact rfl)
          | ((with_reducible apply OW.gN); exact rfl; exact rfl; exact rfl; exact rfl; exact rfl)
          | ((with_reducible apply QW.gY); exact rfl; exact rfl; exact rfl)
          | ((with_reducible apply QW.gN); exact rfl; exact rfl; exact rfl; exact rfl; exact rfl)
          | ((with_reducible apply OW.gS); exact rfl; exact rfl; exact rfl; all_goals intro h)
          | ((with_reducible apply QW.gS); exact rfl; exact rfl; exact rfl; all_goals intro h)
          | with_reducible apply OW.app
          | with_reducible apply OW.app0
          | with_reducible apply QW.app
          | with_reducible apply QW.app0
          | with_reducible apply OW.nil
          | ((with_reducible apply QW.nil); intro w hcl; replace H := H.ext hcl; clear hcl)
          | ((with_reducible apply RW.one); exact rfl; decide +kernel)
          | with_reducible apply thn_n
          | with_reducible apply CW.seq
          | with_reducible apply CW.region
          | ((with_reducible apply CW.regionD mixed); decide +kernel)
          | with_reducible apply CW.block
          | with_reducible apply CW.ret
          | with_reducible apply CW.exit
          | with_reducible apply CW.skip
          | with_reducible apply thn_r
          | with_reducible apply thn_e
          | with_reducible apply blk_n
          | with_reducible apply blk_r
          | ((with_reducible apply blk_e1); exact rfl)
          | ((with_reducible apply blk_e0); exact rfl)
          | ((with_reducible apply CW.condT); exact rfl)
          | ((with_reducible apply CW.condF); exact rfl))
      obtain ⟨G3, hG3, H⟩ := st_name9 H
      refine CW.loopI [(29, 31), (234, 244)] (fun y : Fw => [(30, .int .i64 ((y.i : Int) + 1)), (29, .slice y.a y.i y.cap)])
        (fun y w => y.i ≤ 33 ∧ Own y.m 24 9 y.a y.i y.cap ((List.range y.i).flatMap (ael auL no3)) ∧ St w0 (y.m ++ G3) w) (fun y => 33 - y.i) ⟨0, none, 0, []⟩
        ⟨rfl, rfl, trivial⟩ ⟨Nat.zero_le _, Own.nil _ _ _, H⟩ ?_
      clear H
      rintro ⟨i, a', cap', m'⟩ g w ⟨hi, hO3, H⟩
      simp only at hi hO3 H ⊢
      repeat' (first
          | ((with_reducible apply OW.p sg); exact rfl; exact rfl; exact rfl; exact rfl)
          | ((with_reducible apply QW.p sg); exact rfl; exact rfl; exact rfl; exact rfl)
          | ((with_reducible apply OW.go); exact rfl)
          | ((with_reducible apply QW.go); exact rfl)
          | ((with_reducible apply OX.pure sg); exact rfl; exact rfl; exact rfl)
          | ((with_reducible apply QX.pure sg); exact rfl; exact rfl; exact rfl)
          | ((with_reducible apply OX.val); exact rfl; exact rfl; exact Yq.loadS sg rfl rfl H.mem (by first | exact List.Mem.head _ | exact List.Mem.tail _ (List.Mem.head _) | exact List.Mem.tail _ (List.Mem.tail _ (List.Mem.head _)) | exact List.Mem.tail _ (List.Mem.tail _ (List.Mem.tail _ (List.Mem.head _))) | exact List.Mem.tail _ (List.Mem.tail _ (List.Mem.tail _ (List.Mem.tail _ (List.Mem.head _)))) | (repeat (first | exact List.Mem.head _ | refine List.Mem.tail _ ?_))) rfl rfl)
          | ((with_reducible apply QX.val); exact rfl; exact rfl; exact Yq.loadS sg rfl rfl H.mem (by first | exact List.Mem.head _ | exact List.Mem.tail _ (List.Mem.head _) | exact List.Mem.tail _ (List.Mem.tail _ (List.Mem.head _)) | exact List.Mem.tail _ (List.Mem.tail _ (List.Mem.tail _ (List.Mem.head _))) | exact List.Mem.tail _ (List.Mem.tail _ (List.Mem.tail _ (List.Mem.tail _ (List.Mem.head _)))) | (repeat (first | exact List.Mem.head _ | refine List.Mem.tail _ ?_))) rfl rfl)
          | (refine OX.box H rfl rfl rfl rfl rfl ?_; intro b w H _)
          | (refine OX.alloc sg H rfl rfl rfl rfl rfl ?_; intro b w H _)
          | ((with_reducible apply OX.store sg H); exact rfl; exact rfl; exact rfl; exact rfl; exact rfl; exact rfl; (repeat (first | exact Up.here | apply Up.there)); exact rfl; exact rfl; exact rfl; exact rfl; intro w H)
          | ((with_reducible apply RW.nil); exact rfl)
          | ((with_reducible apply OW.gY); exact rfl; exact rfl; exact rfl)
          | ((with_reducible apply OW.gN); exact rfl; exact rfl; exact rfl; exact rfl; exact rfl)
          | ((with_reducible apply QW.gY); exact rfl; exact rfl; exact rfl)
          | ((with_reducible apply QW.gN); exact rfl; exact rfl; exact rfl; exact rfl; exact rfl)
          | ((with_reducible apply OW.gS); exact rfl; exact rfl; exact rfl; all_goals intro h)
          | ((with_reducible apply QW.gS); exact rfl; exact rfl; exact rfl; all_goals intro h)
          | with_reducible apply OW.app
          | with_reducible apply OW.app0
          | with_reducible apply QW.app
          | with_reducible apply QW.app0
          | with_reducible apply OW.nil
          | ((with_reducible apply QW.nil); intro w hcl; replace H := H.ext hcl; clear hcl)
          | ((with_reducible apply RW.one); exact rfl; decide +kernel)
          | with_reducible apply thn_n
          | with_reducible apply CW.seq
          | with_reducible apply CW.region
          | ((with_reducible apply CW.regionD mixed); decide +kernel)
          | with_reducible apply CW.block
          | with_reducible apply CW.ret
          | with_reducible apply CW.exit
          | with_reducible apply CW.skip
          | with_reducible apply thn_r
          | with_reducible apply thn_e
          | with_reducible apply blk_n
          | with_reducible apply blk_r
          | ((with_reducible apply blk_e1); exact rfl)
          | ((with_reducible apply blk_e0); exact rfl)
          | ((with_reducible apply CW.condT); exact rfl)
          | ((with_reducible apply CW.condF); exact rfl))
      refine CW.cond rfl (fun h2 => ?_) (fun h2 => ?_)
      · have hlt : i < 33 := by have := of_decide_eq_true h2; omega
        repeat' (first
            | ((with_reducible apply OW.p sg); exact rfl; exact rfl; exact rfl; exact rfl)
            | ((with_reducible apply QW.p sg); exact rfl; exact rfl; exact rfl; exact rfl)
            | ((with_reducible apply OW.go); exact rfl)
            | ((with_reducible apply QW.go); exact rfl)
            | ((with_reducible apply OX.pure sg); exact rfl; exact rfl; exact rfl)
            | ((with_reducible apply QX.pure sg); exact rfl; exact rfl; exact rfl)
            | ((with_reducible apply OX.val); exact rfl; exact rfl; exact Yq.loadS sg rfl rfl H.mem (by first | exact List.Mem.head _ | exact List.Mem.tail _ (List.Mem.head _) | exact List.Mem.tail _ (List.Mem.tail _ (List.Mem.head _)) | exact List.Mem.tail _ (List.Mem.tail _ (List.Mem.tail _ (List.Mem.head _))) | exact List.Mem.tail _ (List.Mem.tail _ (List.Mem.tail _ (List.Mem.tail _ (List.Mem.head _)))) | (repeat (first | exact List.Mem.head _ | refine List.Mem.tail _ ?_))) rfl rfl)
            | ((with_reducible apply QX.val); exact rfl; exact rfl; exact Yq.loadS sg rfl rfl H.mem (by first | exact List.Mem.head _ | exact List.Mem.tail _ (List.Mem.head _) | exact List.Mem.tail _ (List.Mem.tail _ (List.Mem.head _)) | exact List.Mem.tail _ (List.Mem.tail _ (List.Mem.tail _ (List.Mem.head _))) | exact List.Mem.tail _ (List.Mem.tail _ (List.Mem.tail _ (List.Mem.tail _ (List.Mem.head _)))) | (repeat (first | exact List.Mem.head _ | refine List.Mem.tail _ ?_))) rfl rfl)
            | (refine OX.box H rfl rfl rfl rfl rfl ?_; intro b w H _)
            | (refine OX.alloc sg H rfl rfl rfl rfl rfl ?_; intro b w H _)
            | ((with_reducible apply OX.store sg H); exact rfl; exact rfl; exact rfl; exact rfl; exact rfl; exact rfl; (repeat (first | exact Up.here | apply Up.there)); exact rfl; exact rfl; exact rfl; exact rfl; intro w H)
            | ((with_reducible apply RW.nil); exact rfl)
            | ((with_reducible apply OX.call); exact rfl; exact rfl; exact En.fn ent36 rfl rfl; exact c_sealed 10 [] none 0 _; intro w hcl; replace H := H.ext hcl; clear hcl)
            | ((with_reducible apply QX.call); exact rfl; exact rfl; exact En.fn ent36 rfl rfl; exact (fun _ hcl => c_sealed 10 [] none 0 _))
            | ((with_reducible apply OX.buildA sg H); exact rfl; exact rfl; exact rfl; exact rfl; exact rfl; exact rfl; exact rfl; exact rfl; exact rfl; exact rfl; exact rfl; exact rfl; intro b w H _)
            | (have hp := H.perm (List.perm_append_comm_assoc (_ :: _ :: []) m' G3); refine OX.append sg 9 88 (M := m') hp rfl rfl rfl rfl rfl rfl rfl rfl rfl rfl rfl hO3 (Src.whole hp.mem (List.mem_append_right _ (List.Mem.head _))) rfl (by intro u hu; simp only [List.mem_cons, List.not_mem_nil, or_false] at hu; rcases hu with rfl | rfl | rfl | rfl | rfl | rfl | rfl | rfl | rfl <;> rfl) (by unfold maxLen; omega) (by omega) ?_; intro a2 cap2 M2 w hO2 H; clear hp)
            | ((with_reducible apply OW.gY); exact rfl; exact rfl; exact rfl)
            | ((with_reducible apply OW.gN); exact rfl; exact rfl; exact rfl; exact rfl; exact rfl)
            | ((with_reducible apply QW.gY); exact rfl; exact rfl; exact rfl)
            | ((with_reducible apply QW.gN); exact rfl; exact rfl; exact rfl; exact rfl; exact rfl)
            | ((with_reducible apply OW.gS); exact rfl; exact rfl; exact rfl; all_goals intro h)
            | ((with_reducible apply QW.gS); exact rfl; exact rfl; exact rfl; all_goals intro h)
            | with_reducible apply OW.app
            | with_reducible apply OW.app0
            | with_reducible apply QW.app
            | with_reducible apply QW.app0
            | with_reducible apply OW.nil
            | ((with_reducible apply QW.nil); intro w hcl; replace H := H.ext hcl; clear hcl)
            | ((with_reducible apply RW.one); exact rfl; decide +kernel)
            | with_reducible apply thn_n
            | with_reducible apply CW.seq
            | with_reducible apply CW.region
            | ((with_reducible apply CW.regionD mixed); decide +kernel)
            | with_reducible apply CW.block
            | with_reducible apply CW.ret
            | with_reducible apply CW.exit
            | with_reducible apply CW.skip
            | with_reducible apply thn_r
            | with_reducible apply thn_e
            | with_reducible apply blk_n
            | with_reducible apply blk_r
            | ((with_reducible apply blk_e1); exact rfl)
            | ((with_reducible apply blk_e0); exact rfl)
            | ((with_reducible apply CW.condT); exact rfl)
            | ((with_reducible apply CW.condF); exact rfl))
        refine Again.mk ⟨i + 1, a2, cap2, M2⟩ rfl ⟨vint (by omega) (by omega) (by show (i : Int) + 1 + 1 = ((i + 1 : Nat) : Int) + 1; omega), rfl, trivial⟩ ⟨hlt, ?_, H.sub (List.Sublist.append (List.Sublist.refl _) (List.Sublist.cons _ (List.Sublist.cons _ (List.Sublist.refl _))))⟩ (by show 33 - (i + 1) < 33 - i; omega)
        show Own M2 _ 9 a2 (i + 1) cap2 ((List.range (i + 1)).flatMap (ael auL no3))
        rw [List.range_succ, List.flatMap_append, List.flatMap_singleton, show ael auL no3 i = (⟨(i : Int) + 1, 1, 1, true, 5, 10, 0, 9, []⟩ : Auc).cells none 0 by unfold ael; rw [auL_at hlt]; rfl]
        exact hO2
      · have hi33 : i = 33 := by have := of_decide_eq_false h2; omega
        subst hi33
        clear hi h2
        obtain ⟨g3, cs3, rfl, rfl, hcap, hE⟩ := Own.els hO3 (by decide) (fun j _ => rfl)
        replace H := H.perm List.perm_append_comm
        rw [hG3] at H
        simp only [List.cons_append, List.nil_append] at H
        have all32 : ∀ {F : Frag} {w : World}, Mem w F → [cb g3 cs3 24] ⊆ F → Calls Try.prog 32 [.slice (some ⟨g3, 0, none⟩) 32 cap'].toArray w (Ret (.bool true) w) := fun hF hm => m32 ▸ au_all (n := 32) (by decide) hO3 hF hm
        have all33 : ∀ {F : Frag} {w : World}, Mem w F → [cb g3 cs3 24] ⊆ F → Calls Try.prog 32 [.slice (some ⟨g3, 0, none⟩) 33 cap'].toArray w (Ret (.bool false) w) := fun hF hm => m33 ▸ au_all (n := 33) (by decide) hO3 hF hm
        have hE0 : Els cs3 9 33 (fun j => if j = 0 then [.int .i64 1, .int .i64 1, .int .i64 1, .bool true, .int .i64 5, .int .i64 10, .int .i64 0, .int .i64 9, .slice none 0 0] else ael auL no3 j) := hE.congr fun j hj => by
          by_cases h0 : j = 0
          · subst h0; rw [if_pos rfl]; unfold ael; rw [auL_at (by decide)]; rfl
          · rw [if_neg h0]
        repeat' (first
            | ((with_reducible apply OW.p sg); exact rfl; exact rfl; exact rfl; exact rfl)
            | ((with_reducible apply QW.p sg); exact rfl; exact rfl; exact rfl; exact rfl)
            | ((with_reducible apply OW.go); exact rfl)
            | ((with_reducible apply QW.go); exact rfl)
            | ((with_reducible apply OX.pure sg); exact rfl; exact rfl; exact rfl)
            | ((with_reducible apply QX.pure sg); exact rfl; exact rfl; exact rfl)
            | ((with_reducible apply OX.val); exact rfl; exact rfl; exact Yq.loadS sg rfl rfl H.mem (by first | exact List.Mem.head _ | exact List.Mem.tail _ (List.Mem.head _) | exact List.Mem.tail _ (List.Mem.tail _ (List.Mem.head _)) | exact List.Mem.tail _ (List.Mem.tail _ (List.Mem.tail _ (List.Mem.head _))) | exact List.Mem.tail _ (List.Mem.tail _ (List.Mem.tail _ (List.Mem.tail _ (List.Mem.head _)))) | (repeat (first | exact List.Mem.head _ | refine List.Mem.tail _ ?_))) rfl rfl)
            | ((with_reducible apply QX.val); exact rfl; exact rfl; exact Yq.loadS sg rfl rfl H.mem (by first | exact List.Mem.head _ | exact List.Mem.tail _ (List.Mem.head _) | exact List.Mem.tail _ (List.Mem.tail _ (List.Mem.head _)) | exact List.Mem.tail _ (List.Mem.tail _ (List.Mem.tail _ (List.Mem.head _))) | exact List.Mem.tail _ (List.Mem.tail _ (List.Mem.tail _ (List.Mem.tail _ (List.Mem.head _)))) | (repeat (first | exact List.Mem.head _ | refine List.Mem.tail _ ?_))) rfl rfl)
            | (refine OX.box H rfl rfl rfl rfl rfl ?_; intro b w H _)
            | (refine OX.alloc sg H rfl rfl rfl rfl rfl ?_; intro b w H _)
            | ((with_reducible apply OX.store sg H); exact rfl; exact rfl; exact rfl; exact rfl; exact rfl; exact rfl; (repeat (first | exact Up.here | apply Up.there)); exact rfl; exact rfl; exact rfl; exact rfl; intro w H)
            | ((with_reducible apply RW.nil); exact rfl)
            | ((with_reducible apply CW.regionR mixed); intro w hcl; replace H := H.ext hcl; clear hcl; (with_reducible apply RW.quiet 55); exact rfl; decide +kernel; simp only [List.append_eq, List.cons_append, List.nil_append, List.take_succ_cons, List.take_zero, List.drop_zero])
            | ((with_reducible apply RW.one); exact rfl; decide +kernel)
            | ((with_reducible apply RW.quiet 62); exact rfl; decide +kernel; simp only [List.append_eq, List.cons_append, List.nil_append, List.take_succ_cons, List.take_zero, List.drop_succ_cons, List.drop_zero])
            | ((with_reducible apply RW.quiet 70); exact rfl; decide +kernel; simp only [List.append_eq, List.cons_append, List.nil_append, List.take_succ_cons, List.take_zero, List.drop_succ_cons, List.drop_zero])
            | ((with_reducible apply OX.call); exact rfl; exact rfl; exact En.fn ent17 rfl rfl; exact may_good H.mem (by repeat (first | exact List.Mem.head _ | refine List.Mem.tail _ ?_)); intro w hcl; replace H := H.ext hcl; clear hcl)
            | ((with_reducible apply QX.call); exact rfl; exact rfl; exact En.fn ent17 rfl rfl; exact (fun _ hcl => may_good (H.ext hcl).mem (by repeat (first | exact List.Mem.head _ | refine List.Mem.tail _ ?_))))
            | ((with_reducible apply OX.call); exact rfl; exact rfl; exact En.fn ent17 rfl rfl; exact may_full H.mem hO (by intro p hp; repeat (first | exact hp | exact List.mem_append_right _ hp | exact List.mem_append_left _ hp | exact List.mem_append_left _ (List.mem_append_right _ hp) | exact List.mem_append_left _ (List.mem_append_left _ hp) | apply List.mem_cons_of_mem | apply List.mem_append_left)); intro w hcl; replace H := H.ext hcl; clear hcl)
            | ((with_reducible apply QX.call); exact rfl; exact rfl; exact En.fn ent17 rfl rfl; exact (fun _ hcl => may_full (H.ext hcl).mem hO (by intro p hp; repeat (first | exact hp | exact List.mem_append_right _ hp | exact List.mem_append_left _ hp | exact List.mem_append_left _ (List.mem_append_right _ hp) | exact List.mem_append_left _ (List.mem_append_left _ hp) | apply List.mem_cons_of_mem | apply List.mem_append_left))))
            | ((with_reducible apply OX.call); exact rfl; exact rfl; exact En.fn ent17 rfl rfl; exact may_more hO5 H.mem (by intro p hp; repeat (first | exact hp | exact List.mem_append_right _ hp | exact List.mem_append_left _ hp | exact List.mem_append_left _ (List.mem_append_right _ hp) | exact List.mem_append_left _ (List.mem_append_left _ hp) | apply List.mem_cons_of_mem | apply List.mem_append_left)); intro w hcl; replace H := H.ext hcl; clear hcl)
            | ((with_reducible apply QX.call); exact rfl; exact rfl; exact En.fn ent17 rfl rfl; exact (fun _ hcl => may_more hO5 (H.ext hcl).mem (by intro p hp; repeat (first | exact hp | exact List.mem_append_right _ hp | exact List.mem_append_left _ hp | exact List.mem_append_left _ (List.mem_append_right _ hp) | exact List.mem_append_left _ (List.mem_append_left _ hp) | apply List.mem_cons_of_mem | apply List.mem_append_left))))
            | ((with_reducible apply OX.val); exact rfl; exact rfl; exact Yq.sliceHi sg rfl rfl rfl rfl rfl rfl rfl (by decide) (by omega))
            | ((with_reducible apply QX.val); exact rfl; exact rfl; exact Yq.sliceHi sg rfl rfl rfl rfl rfl rfl rfl (by decide) (by omega))
            | ((with_reducible apply OX.call); exact rfl; exact rfl; exact En.fn ent32 rfl rfl; exact all32 H.mem (by intro p hp; repeat (first | exact hp | exact List.mem_append_right _ hp | exact List.mem_append_left _ hp | exact List.mem_append_left _ (List.mem_append_right _ hp) | exact List.mem_append_left _ (List.mem_append_left _ hp) | apply List.mem_cons_of_mem | apply List.mem_append_left)); intro w hcl; replace H := H.ext hcl; clear hcl)
            | ((with_reducible apply QX.call); exact rfl; exact rfl; exact En.fn ent32 rfl rfl; exact (fun _ hcl => all32 (H.ext hcl).mem (by intro p hp; repeat (first | exact hp | exact List.mem_append_right _ hp | exact List.mem_append_left _ hp | exact List.mem_append_left _ (List.mem_append_right _ hp) | exact List.mem_append_left _ (List.mem_append_left _ hp) | apply List.mem_cons_of_mem | apply List.mem_append_left))))
            | ((with_reducible apply OX.call); exact rfl; exact rfl; exact En.fn ent32 rfl rfl; exact all33 H.mem (by intro p hp; repeat (first | exact hp | exact List.mem_append_right _ hp | exact List.mem_append_left _ hp | exact List.mem_append_left _ (List.mem_append_right _ hp) | exact List.mem_append_left _ (List.mem_append_left _ hp) | apply List.mem_cons_of_mem | apply List.mem_append_left)); intro w hcl; replace H := H.ext hcl; clear hcl)
            | ((with_reducible apply QX.call); exact rfl; exact rfl; exact En.fn ent32 rfl rfl; exact (fun _ hcl => all33 (H.ext hcl).mem (by intro p hp; repeat (first | exact hp | exact List.mem_append_right _ hp | exact List.mem_append_left _ hp | exact List.mem_append_left _ (List.mem_append_right _ hp) | exact List.mem_append_left _ (List.mem_append_left _ hp) | apply List.mem_cons_of_mem | apply List.mem_append_left))))
            | ((with_reducible apply OX.call); exact rfl; exact rfl; exact En.fn ent32 rfl rfl; exact au_two H.mem (by repeat (first | exact List.Mem.head _ | refine List.Mem.tail _ ?_)); intro w hcl; replace H := H.ext hcl; clear hcl)
            | ((with_reducible apply QX.call); exact rfl; exact rfl; exact En.fn ent32 rfl rfl; exact (fun _ hcl => au_two (H.ext hcl).mem (by repeat (first | exact List.Mem.head _ | refine List.Mem.tail _ ?_))))
            | ((with_reducible apply OX.call); exact rfl; exact rfl; exact En.fn ent32 rfl rfl; exact au_nil _; intro w hcl; replace H := H.ext hcl; clear hcl)
            | ((with_reducible apply QX.call); exact rfl; exact rfl; exact En.fn ent32 rfl rfl; exact (fun _ hcl => au_nil _))
            | ((with_reducible apply OX.val); exact rfl; exact rfl; exact Yq.ixB sg (hE0.slb (F := [cb g3 cs3 24]) (T := 24) (List.Mem.head _)) rfl rfl rfl rfl rfl rfl rfl (by first | with_reducible exact Int.toNat_natCast _ | exact toNat_pred (by omega) (by omega) | with_reducible exact toNat_0 | exact toNat_self _) (by decide) (by decide))
            | ((with_reducible apply QX.val); exact rfl; exact rfl; exact Yq.ixB sg (hE0.slb (F := [cb g3 cs3 24]) (T := 24) (List.Mem.head _)) rfl rfl rfl rfl rfl rfl rfl (by first | with_reducible exact Int.toNat_natCast _ | exact toNat_pred (by omega) (by omega) | with_reducible exact toNat_0 | exact toNat_self _) (by decide) (by decide))
            | ((with_reducible apply OX.val); exact rfl; exact rfl; exact Yq.loadB sg (hE0.slb (F := [cb g3 cs3 24]) (T := 24) (List.Mem.head _)) (Mem.sub H.mem (by intro p hp; repeat (first | exact hp | exact List.mem_append_right _ hp | exact List.mem_append_left _ hp | exact List.mem_append_left _ (List.mem_append_right _ hp) | exact List.mem_append_left _ (List.mem_append_left _ hp) | apply List.mem_cons_of_mem | apply List.mem_append_left))) rfl rfl rfl rfl rfl (by decide))
            | ((with_reducible apply QX.val); exact rfl; exact rfl; exact Yq.loadB sg (hE0.slb (F := [cb g3 cs3 24]) (T := 24) (List.Mem.head _)) (Mem.sub H.mem (by intro p hp; repeat (first | exact hp | exact List.mem_append_right _ hp | exact List.mem_append_left _ hp | exact List.mem_append_left _ (List.mem_append_right _ hp) | exact List.mem_append_left _ (List.mem_append_left _ hp) | apply List.mem_cons_of_mem | apply List.mem_append_left))) rfl rfl rfl rfl rfl (by decide))
            | ((with_reducible apply OX.buildA sg H); exact rfl; exact rfl; exact rfl; exact rfl; exact rfl; exact rfl; exact rfl; exact rfl; exact rfl; exact rfl; exact rfl; exact rfl; intro b w H _)
            | ((with_reducible apply OW.gY); exact rfl; exact rfl; exact rfl)
            | ((with_reducible apply OW.gN); exact rfl; exact rfl; exact rfl; exact rfl; exact rfl)
            | ((with_reducible apply QW.gY); exact rfl; exact rfl; exact rfl)
            | ((with_reducible apply QW.gN); exact rfl; exact rfl; exact rfl; exact rfl; exact rfl)
            | ((with_reducible apply OW.gS); exact rfl; exact rfl; exact rfl; all_goals (intro h; try (exfalso; first | (cases h; done) | (exact absurd h (by decide); done))))
            | ((with_reducible apply QW.gS); exact rfl; exact rfl; exact rfl; all_goals (intro h; try (exfalso; first | (cases h; done) | (exact absurd h (by decide); done))))
            | with_reducible apply OW.app
            | with_reducible apply OW.app0
            | with_reducible apply QW.app
            | with_reducible apply QW.app0
            | with_reducible apply OW.nil
            | ((with_reducible apply QW.nil); intro w hcl; replace H := H.ext hcl; clear hcl)
            | ((with_reducible apply RW.one); exact rfl; decide +kernel)
            | with_reducible apply thn_n
            | with_reducible apply CW.seq
            | with_reducible apply CW.region
            | with_reducible apply CW.block
            | with_reducible apply CW.ret
            | with_reducible apply CW.exit
            | with_reducible apply CW.skip
            | with_reducible apply thn_r
            | with_reducible apply thn_e
            | with_reducible apply blk_n
            | with_reducible apply blk_r
            | ((with_reducible apply blk_e1); exact rfl)
            | ((with_reducible apply blk_e0); exact rfl)
            | ((with_reducible apply CW.condT); exact rfl)
            | ((with_reducible apply CW.condF); exact rfl))
        all_goals exact ret1 rfl H.cl rfl
end Go.Proofs.Ytkcoemikglbomaa
