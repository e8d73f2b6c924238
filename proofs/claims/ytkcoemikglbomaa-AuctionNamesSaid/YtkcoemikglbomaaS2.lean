/- The library's stable sort over auctions, walked: below 20 elements. -/
import Derived.Test.YtkcoemikglbomaaS1
namespace Go.Proofs.Ytkcoemikglbomaa
open Go Go.Sk Go.RowKit
def Sorts (w0 : World) (g len n : Nat) (G : Frag) (d : Nat → AE) : Ending → World → Prop := RetF (fun M v => v = .tuple #[] ∧ ∃ cs', M = cb g cs' 24 :: G ∧ cs'.length = len ∧ Els cs' 9 n (fun j => (d j).c)) w0
set_option maxHeartbeats 4000000 in
theorem c_stable {w0 w : World} {g len n cap : Nat} {G : Frag} {d : Nat → AE} {cs : List Value} (hA : Arr w0 g len n G d cs w) (hn : n < 20) :
    Calls Try.prog 61 [.slice (some ⟨g, 0, none⟩) n cap, .int .i64 (n : Int), .func (.func 53) #[] #[]].toArray w (Sorts w0 g len n G (isort 0 n d)) := by
  refine enter [] Try.func61 rfl Try.ntmps61 rfl rfl ?_
  have H := hA
  clear hA
  repeat' (first
      | ((with_reducible apply OW.p sg); exact rfl; exact rfl; exact rfl; exact rfl)
      | ((with_reducible apply QW.p sg); exact rfl; exact rfl; exact rfl; exact rfl)
      | ((with_reducible apply OW.go); exact rfl)
      | ((with_reducible apply QW.go); exact rfl)
      | ((with_reducible apply OX.pure sg); exact rfl; exact rfl; exact rfl)
      | ((with_reducible apply QX.pure sg); exact rfl; exact rfl; exact rfl)
      | ((with_reducible apply OX.val); exact rfl; exact rfl; exact Yq.loadS sg rfl rfl H.mem (by first | exact List.Mem.head _ | exact List.Mem.tail _ (List.Mem.head _) | exact List.Mem.tail _ (List.Mem.tail _ (List.Mem.head _)) | exact List.Mem.tail _ (List.Mem.tail _ (List.Mem.tail _ (List.Mem.head _))) | exact List.Mem.tail _ (List.Mem.tail _ (List.Mem.tail _ (List.Mem.tail _ (List.Mem.head _)))) | (repeat (first | exact List.Mem.head _ | refine List.Mem.tail _ ?_))) rfl rfl)
      | ((with_reducible apply QX.val); exact rfl; exact rfl; exact Yq.loadS sg rfl rfl H.mem (by first | exact List.Mem.head _ | exact List.Mem.tail _ (List.Mem.head _) | exact List.Mem.tail _ (List.Mem.tail _ (List.Mem.head _)) | exact List.Mem.tail _ (List.Mem.tail _ (List.Mem.tail _ (List.Mem.head _))) | exact List.Mem.tail _ (List.Mem.tail _ (List.Mem.tail _ (List.Mem.tail _ (List.Mem.head _)))) | (repeat (first | exact List.Mem.head _ | refine List.Mem.tail _ ?_))) rfl rfl)
      | (refine OX.box H rfl rfl rfl rfl rfl ?_; intro b w H _)
      | (refine OX.alloc sg H rfl rfl rfl rfl rfl ?_; intro b w H _)
      | ((with_reducible apply OX.store sg H); exact rfl; exact rfl; exact rfl; exact rfl; exact rfl; exact rfl; (repeat (first | exact Up.here | apply Up.there)); exact rfl; exact rfl; exact rfl; exact rfl; intro w H)
      | ((with_reducible apply RW.nil); exact rfl)
      | ((with_reducible apply OW.gY); exact rfl; exact rfl; exact rfl)
      | ((with_reducible apply OW.gN); exact rfl; exact rfl; exact rfl; exact rfl; exact rfl)
      | ((with_reducible apply QW.gY); exact rfl; exact rfl; exact rfl)
      | ((with_reducible apply QW.gN); exact rfl; exact rfl; exact rfl; exact rfl; exact rfl)
      | ((with_reducible apply OW.gS); exact rfl; exact rfl; exact rfl; all_goals intro h)
      | ((with_reducible apply QW.gS); exact rfl; exact rfl; exact rfl; all_goals intro h)
      | with_reducible apply OW.app
      | with_reducible apply OW.app0
      | with_reducible apply QW.app
      | with_reducible apply QW.app0
      | with_reducible apply OW.nil
      | ((with_reducible apply QW.nil); intro w hcl; replace H := H.ext hcl; clear hcl)
      | ((with_reducible apply RW.one); exact rfl; decide +kernel)
      | with_reducible apply thn_n
      | with_reducible apply CW.seq
      | with_reducible apply CW.region
      | ((with_reducible apply CW.regionD mixed); decide +kernel)
      | with_reducible apply CW.block
      | with_reducible apply CW.ret
      | with_reducible apply CW.exit
      | with_reducible apply CW.skip
      | with_reducible apply thn_r
      | with_reducible apply thn_e
      | with_reducible apply blk_n
      | with_reducible apply blk_r
      | ((with_reducible apply blk_e1); exact rfl)
      | ((with_reducible apply blk_e0); exact rfl)
      | ((with_reducible apply CW.condT); exact rfl)
      | ((with_reducible apply CW.condF); exact rfl))
  refine CW.loopI [(7, 8), (11, 22)] (fun _ : Unit => [(7, .int .i64 0), (8, .int .i64 20)]) (fun _ w => Arr w0 g len n G d cs w) (fun _ => 0) () ⟨rfl, rfl, trivial⟩ H ?_
  clear H
  rintro _ gh w H
  repeat' (first
      | ((with_reducible apply OW.p sg); exact rfl; exact rfl; exact rfl; exact rfl)
      | ((with_reducible apply QW.p sg); exact rfl; exact rfl; exact rfl; exact rfl)
      | ((with_reducible apply OW.go); exact rfl)
      | ((with_reducible apply QW.go); exact rfl)
      | ((with_reducible apply OX.pure sg); exact rfl; exact rfl; exact rfl)
      | ((with_reducible apply QX.pure sg); exact rfl; exact rfl; exact rfl)
      | ((with_reducible apply OX.val); exact rfl; exact rfl; exact Yq.loadS sg rfl rfl H.mem (by first | exact List.Mem.head _ | exact List.Mem.tail _ (List.Mem.head _) | exact List.Mem.tail _ (List.Mem.tail _ (List.Mem.head _)) | exact List.Mem.tail _ (List.Mem.tail _ (List.Mem.tail _ (List.Mem.head _))) | exact List.Mem.tail _ (List.Mem.tail _ (List.Mem.tail _ (List.Mem.tail _ (List.Mem.head _)))) | (repeat (first | exact List.Mem.head _ | refine List.Mem.tail _ ?_))) rfl rfl)
      | ((with_reducible apply QX.val); exact rfl; exact rfl; exact Yq.loadS sg rfl rfl H.mem (by first | exact List.Mem.head _ | exact List.Mem.tail _ (List.Mem.head _) | exact List.Mem.tail _ (List.Mem.tail _ (List.Mem.head _)) | exact List.Mem.tail _ (List.Mem.tail _ (List.Mem.tail _ (List.Mem.head _))) | exact List.Mem.tail _ (List.Mem.tail _ (List.Mem.tail _ (List.Mem.tail _ (List.Mem.head _)))) | (repeat (first | exact List.Mem.head _ | refine List.Mem.tail _ ?_))) rfl rfl)
      | (refine OX.box H rfl rfl rfl rfl rfl ?_; intro b w H _)
      | (refine OX.alloc sg H rfl rfl rfl rfl rfl ?_; intro b w H _)
      | ((with_reducible apply OX.store sg H); exact rfl; exact rfl; exact rfl; exact rfl; exact rfl; exact rfl; (repeat (first | exact Up.here | apply Up.there)); exact rfl; exact rfl; exact rfl; exact rfl; intro w H)
      | ((with_reducible apply RW.nil); exact rfl)
      | ((with_reducible apply OW.gY); exact rfl; exact rfl; exact rfl)
      | ((with_reducible apply OW.gN); exact rfl; exact rfl; exact rfl; exact rfl; exact rfl)
      | ((with_reducible apply QW.gY); exact rfl; exact rfl; exact rfl)
      | ((with_reducible apply QW.gN); exact rfl; exact rfl; exact rfl; exact rfl; exact rfl)
      | ((with_reducible apply OW.gS); exact rfl; exact rfl; exact rfl; all_goals intro h)
      | ((with_reducible apply QW.gS); exact rfl; exact rfl; exact rfl; all_goals intro h)
      | with_reducible apply OW.app
      | with_reducible apply OW.app0
      | with_reducible apply QW.app
      | with_reducible apply QW.app0
      | with_reducible apply OW.nil
      | ((with_reducible apply QW.nil); intro w hcl; replace H := H.ext hcl; clear hcl)
      | ((with_reducible apply RW.one); exact rfl; decide +kernel)
      | with_reducible apply thn_n
      | with_reducible apply CW.seq
      | with_reducible apply CW.region
      | ((with_reducible apply CW.regionD mixed); decide +kernel)
      | with_reducible apply CW.block
      | with_reducible apply CW.ret
      | with_reducible apply CW.exit
      | with_reducible apply CW.skip
      | with_reducible apply thn_r
      | with_reducible apply thn_e
      | with_reducible apply blk_n
      | with_reducible apply blk_r
      | ((with_reducible apply blk_e1); exact rfl)
      | ((with_reducible apply blk_e0); exact rfl)
      | ((with_reducible apply CW.condT); exact rfl)
      | ((with_reducible apply CW.condF); exact rfl))
  refine CW.cond rfl (fun h => ?_) (fun h => ?_)
  · exact absurd (of_decide_eq_true h) (by omega)
  repeat' (first
      | ((with_reducible apply OW.p sg); exact rfl; exact rfl; exact rfl; exact rfl)
      | ((with_reducible apply QW.p sg); exact rfl; exact rfl; exact rfl; exact rfl)
      | ((with_reducible apply OW.go); exact rfl)
      | ((with_reducible apply QW.go); exact rfl)
      | ((with_reducible apply OX.pure sg); exact rfl; exact rfl; exact rfl)
      | ((with_reducible apply QX.pure sg); exact rfl; exact rfl; exact rfl)
      | ((with_reducible apply OX.val); exact rfl; exact rfl; exact Yq.loadS sg rfl rfl H.mem (by first | exact List.Mem.head _ | exact List.Mem.tail _ (List.Mem.head _) | exact List.Mem.tail _ (List.Mem.tail _ (List.Mem.head _)) | exact List.Mem.tail _ (List.Mem.tail _ (List.Mem.tail _ (List.Mem.head _))) | exact List.Mem.tail _ (List.Mem.tail _ (List.Mem.tail _ (List.Mem.tail _ (List.Mem.head _)))) | (repeat (first | exact List.Mem.head _ | refine List.Mem.tail _ ?_))) rfl rfl)
      | ((with_reducible apply QX.val); exact rfl; exact rfl; exact Yq.loadS sg rfl rfl H.mem (by first | exact List.Mem.head _ | exact List.Mem.tail _ (List.Mem.head _) | exact List.Mem.tail _ (List.Mem.tail _ (List.Mem.head _)) | exact List.Mem.tail _ (List.Mem.tail _ (List.Mem.tail _ (List.Mem.head _))) | exact List.Mem.tail _ (List.Mem.tail _ (List.Mem.tail _ (List.Mem.tail _ (List.Mem.head _)))) | (repeat (first | exact List.Mem.head _ | refine List.Mem.tail _ ?_))) rfl rfl)
      | (refine OX.box H rfl rfl rfl rfl rfl ?_; intro b w H _)
      | (refine OX.alloc sg H rfl rfl rfl rfl rfl ?_; intro b w H _)
      | ((with_reducible apply OX.store sg H); exact rfl; exact rfl; exact rfl; exact rfl; exact rfl; exact rfl; (repeat (first | exact Up.here | apply Up.there)); exact rfl; exact rfl; exact rfl; exact rfl; intro w H)
      | ((with_reducible apply RW.nil); exact rfl)
      | (refine OX.callM rfl rfl (En.fn ent65 rfl rfl) (c_isort (a := 0) (e := n) H (Nat.zero_le _) (Nat.le_refl _) (by omega)) ?_; rintro _ _ w ⟨rfl, cs', rfl, hl, he⟩ HS; have H' : Arr w0 g len n G (isort 0 n d) cs' w := ⟨HS, hl, he⟩; clear H HS hl he; have H := H'; clear H')
      | ((with_reducible apply OW.gY); exact rfl; exact rfl; exact rfl)
      | ((with_reducible apply OW.gN); exact rfl; exact rfl; exact rfl; exact rfl; exact rfl)
      | ((with_reducible apply QW.gY); exact rfl; exact rfl; exact rfl)
      | ((with_reducible apply QW.gN); exact rfl; exact rfl; exact rfl; exact rfl; exact rfl)
      | ((with_reducible apply OW.gS); exact rfl; exact rfl; exact rfl; all_goals intro h)
      | ((with_reducible apply QW.gS); exact rfl; exact rfl; exact rfl; all_goals intro h)
      | with_reducible apply OW.app
      | with_reducible apply OW.app0
      | with_reducible apply QW.app
      | with_reducible apply QW.app0
      | with_reducible apply OW.nil
      | ((with_reducible apply QW.nil); intro w hcl; replace H := H.ext hcl; clear hcl)
      | ((with_reducible apply RW.one); exact rfl; decide +kernel)
      | with_reducible apply thn_n
      | with_reducible apply CW.seq
      | with_reducible apply CW.region
      | ((with_reducible apply CW.regionD mixed); decide +kernel)
      | with_reducible apply CW.block
      | with_reducible apply CW.ret
      | with_reducible apply CW.exit
      | with_reducible apply CW.skip
      | with_reducible apply thn_r
      | with_reducible apply thn_e
      | with_reducible apply blk_n
      | with_reducible apply blk_r
      | ((with_reducible apply blk_e1); exact rfl)
      | ((with_reducible apply blk_e0); exact rfl)
      | ((with_reducible apply CW.condT); exact rfl)
      | ((with_reducible apply CW.condF); exact rfl))
  refine CW.loopI [(6, 9), (28, 62)] (fun _ : Unit => [(6, .int .i64 20)]) (fun _ w => Arr w0 g len n G (isort 0 n d) cs' w) (fun _ => 0) () ⟨rfl, trivial⟩ H ?_
  clear H
  rintro _ gh w H
  repeat' (first
      | ((with_reducible apply OW.p sg); exact rfl; exact rfl; exact rfl; exact rfl)
      | ((with_reducible apply QW.p sg); exact rfl; exact rfl; exact rfl; exact rfl)
      | ((with_reducible apply OW.go); exact rfl)
      | ((with_reducible apply QW.go); exact rfl)
      | ((with_reducible apply OX.pure sg); exact rfl; exact rfl; exact rfl)
      | ((with_reducible apply QX.pure sg); exact rfl; exact rfl; exact rfl)
      | ((with_reducible apply OX.val); exact rfl; exact rfl; exact Yq.loadS sg rfl rfl H.mem (by first | exact List.Mem.head _ | exact List.Mem.tail _ (List.Mem.head _) | exact List.Mem.tail _ (List.Mem.tail _ (List.Mem.head _)) | exact List.Mem.tail _ (List.Mem.tail _ (List.Mem.tail _ (List.Mem.head _))) | exact List.Mem.tail _ (List.Mem.tail _ (List.Mem.tail _ (List.Mem.tail _ (List.Mem.head _)))) | (repeat (first | exact List.Mem.head _ | refine List.Mem.tail _ ?_))) rfl rfl)
      | ((with_reducible apply QX.val); exact rfl; exact rfl; exact Yq.loadS sg rfl rfl H.mem (by first | exact List.Mem.head _ | exact List.Mem.tail _ (List.Mem.head _) | exact List.Mem.tail _ (List.Mem.tail _ (List.Mem.head _)) | exact List.Mem.tail _ (List.Mem.tail _ (List.Mem.tail _ (List.Mem.head _))) | exact List.Mem.tail _ (List.Mem.tail _ (List.Mem.tail _ (List.Mem.tail _ (List.Mem.head _)))) | (repeat (first | exact List.Mem.head _ | refine List.Mem.tail _ ?_))) rfl rfl)
      | (refine OX.box H rfl rfl rfl rfl rfl ?_; intro b w H _)
      | (refine OX.alloc sg H rfl rfl rfl rfl rfl ?_; intro b w H _)
      | ((with_reducible apply OX.store sg H); exact rfl; exact rfl; exact rfl; exact rfl; exact rfl; exact rfl; (repeat (first | exact Up.here | apply Up.there)); exact rfl; exact rfl; exact rfl; exact rfl; intro w H)
      | ((with_reducible apply RW.nil); exact rfl)
      | ((with_reducible apply OW.gY); exact rfl; exact rfl; exact rfl)
      | ((with_reducible apply OW.gN); exact rfl; exact rfl; exact rfl; exact rfl; exact rfl)
      | ((with_reducible apply QW.gY); exact rfl; exact rfl; exact rfl)
      | ((with_reducible apply QW.gN); exact rfl; exact rfl; exact rfl; exact rfl; exact rfl)
      | ((with_reducible apply OW.gS); exact rfl; exact rfl; exact rfl; all_goals intro h)
      | ((with_reducible apply QW.gS); exact rfl; exact rfl; exact rfl; all_goals intro h)
      | with_reducible apply OW.app
      | with_reducible apply OW.app0
      | with_reducible apply QW.app
      | with_reducible apply QW.app0
      | with_reducible apply OW.nil
      | ((with_reducible apply QW.nil); intro w hcl; replace H := H.ext hcl; clear hcl)
      | ((with_reducible apply RW.one); exact rfl; decide +kernel)
      | with_reducible apply thn_n
      | with_reducible apply CW.seq
      | with_reducible apply CW.region
      | ((with_reducible apply CW.regionD mixed); decide +kernel)
      | with_reducible apply CW.block
      | with_reducible apply CW.ret
      | with_reducible apply CW.exit
      | with_reducible apply CW.skip
      | with_reducible apply thn_r
      | with_reducible apply thn_e
      | with_reducible apply blk_n
      | with_reducible apply blk_r
      | ((with_reducible apply blk_e1); exact rfl)
      | ((with_reducible apply blk_e0); exact rfl)
      | ((with_reducible apply CW.condT); exact rfl)
      | ((with_reducible apply CW.condF); exact rfl))
  refine CW.cond rfl (fun h => ?_) (fun h => ?_)
  · exact absurd (of_decide_eq_true h) (by omega)
  repeat' (first
      | ((with_reducible apply OW.p sg); exact rfl; exact rfl; exact rfl; exact rfl)
      | ((with_reducible apply QW.p sg); exact rfl; exact rfl; exact rfl; exact rfl)
      | ((with_reducible apply OW.go); exact rfl)
      | ((with_reducible apply QW.go); exact rfl)
      | ((with_reducible apply OX.pure sg); exact rfl; exact rfl; exact rfl)
      | ((with_reducible apply QX.pure sg); exact rfl; exact rfl; exact rfl)
      | ((with_reducible apply OX.val); exact rfl; exact rfl; exact Yq.loadS sg rfl rfl H.mem (by first | exact List.Mem.head _ | exact List.Mem.tail _ (List.Mem.head _) | exact List.Mem.tail _ (List.Mem.tail _ (List.Mem.head _)) | exact List.Mem.tail _ (List.Mem.tail _ (List.Mem.tail _ (List.Mem.head _))) | exact List.Mem.tail _ (List.Mem.tail _ (List.Mem.tail _ (List.Mem.tail _ (List.Mem.head _)))) | (repeat (first | exact List.Mem.head _ | refine List.Mem.tail _ ?_))) rfl rfl)
      | ((with_reducible apply QX.val); exact rfl; exact rfl; exact Yq.loadS sg rfl rfl H.mem (by first | exact List.Mem.head _ | exact List.Mem.tail _ (List.Mem.head _) | exact List.Mem.tail _ (List.Mem.tail _ (List.Mem.head _)) | exact List.Mem.tail _ (List.Mem.tail _ (List.Mem.tail _ (List.Mem.head _))) | exact List.Mem.tail _ (List.Mem.tail _ (List.Mem.tail _ (List.Mem.tail _ (List.Mem.head _)))) | (repeat (first | exact List.Mem.head _ | refine List.Mem.tail _ ?_))) rfl rfl)
      | (refine OX.box H rfl rfl rfl rfl rfl ?_; intro b w H _)
      | (refine OX.alloc sg H rfl rfl rfl rfl rfl ?_; intro b w H _)
      | ((with_reducible apply OX.store sg H); exact rfl; exact rfl; exact rfl; exact rfl; exact rfl; exact rfl; (repeat (first | exact Up.here | apply Up.there)); exact rfl; exact rfl; exact rfl; exact rfl; intro w H)
      | ((with_reducible apply RW.nil); exact rfl)
      | ((with_reducible apply OW.gY); exact rfl; exact rfl; exact rfl)
      | ((with_reducible apply OW.gN); exact rfl; exact rfl; exact rfl; exact rfl; exact rfl)
      | ((with_reducible apply QW.gY); exact rfl; exact rfl; exact rfl)
      | ((with_reducible apply QW.gN); exact rfl; exact rfl; exact rfl; exact rfl; exact rfl)
      | ((with_reducible apply OW.gS); exact rfl; exact rfl; exact rfl; all_goals intro h)
      | ((with_reducible apply QW.gS); exact rfl; exact rfl; exact rfl; all_goals intro h)
      | with_reducible apply OW.app
      | with_reducible apply OW.app0
      | with_reducible apply QW.app
      | with_reducible apply QW.app0
      | with_reducible apply OW.nil
      | ((with_reducible apply QW.nil); intro w hcl; replace H := H.ext hcl; clear hcl)
      | ((with_reducible apply RW.one); exact rfl; decide +kernel)
      | with_reducible apply thn_n
      | with_reducible apply CW.seq
      | with_reducible apply CW.region
      | ((with_reducible apply CW.regionD mixed); decide +kernel)
      | with_reducible apply CW.block
      | with_reducible apply CW.ret
      | with_reducible apply CW.exit
      | with_reducible apply CW.skip
      | with_reducible apply thn_r
      | with_reducible apply thn_e
      | with_reducible apply blk_n
      | with_reducible apply blk_r
      | ((with_reducible apply blk_e1); exact rfl)
      | ((with_reducible apply blk_e0); exact rfl)
      | ((with_reducible apply CW.condT); exact rfl)
      | ((with_reducible apply CW.condF); exact rfl))
  exact retVFn (vs := []) (M := _) trivial H.st ⟨rfl, cs', rfl, H.len, H.els⟩
theorem c_SortStable {w0 w : World} {g len n cap : Nat} {G : Frag} {d : Nat → AE} {cs : List Value} (hA : Arr w0 g len n G d cs w) (hn : n < 20) :
    Calls Try.prog 52 [.slice (some ⟨g, 0, none⟩) n cap, .func (.func 53) #[] #[]].toArray w (Sorts w0 g len n G (isort 0 n d)) := by
  refine enter [] Try.func52 rfl Try.ntmps52 rfl rfl ?_
  have H := hA
  clear hA
  repeat' (first
      | ((with_reducible apply OW.p sg); exact rfl; exact rfl; exact rfl; exact rfl)
      | ((with_reducible apply QW.p sg); exact rfl; exact rfl; exact rfl; exact rfl)
      | ((with_reducible apply OW.go); exact rfl)
      | ((with_reducible apply QW.go); exact rfl)
      | ((with_reducible apply OX.pure sg); exact rfl; exact rfl; exact rfl)
      | ((with_reducible apply QX.pure sg); exact rfl; exact rfl; exact rfl)
      | ((with_reducible apply OX.val); exact rfl; exact rfl; exact Yq.loadS sg rfl rfl H.mem (by first | exact List.Mem.head _ | exact List.Mem.tail _ (List.Mem.head _) | exact List.Mem.tail _ (List.Mem.tail _ (List.Mem.head _)) | exact List.Mem.tail _ (List.Mem.tail _ (List.Mem.tail _ (List.Mem.head _))) | exact List.Mem.tail _ (List.Mem.tail _ (List.Mem.tail _ (List.Mem.tail _ (List.Mem.head _)))) | (repeat (first | exact List.Mem.head _ | refine List.Mem.tail _ ?_))) rfl rfl)
      | ((with_reducible apply QX.val); exact rfl; exact rfl; exact Yq.loadS sg rfl rfl H.mem (by first | exact List.Mem.head _ | exact List.Mem.tail _ (List.Mem.head _) | exact List.Mem.tail _ (List.Mem.tail _ (List.Mem.head _)) | exact List.Mem.tail _ (List.Mem.tail _ (List.Mem.tail _ (List.Mem.head _))) | exact List.Mem.tail _ (List.Mem.tail _ (List.Mem.tail _ (List.Mem.tail _ (List.Mem.head _)))) | (repeat (first | exact List.Mem.head _ | refine List.Mem.tail _ ?_))) rfl rfl)
      | (refine OX.box H rfl rfl rfl rfl rfl ?_; intro b w H _)
      | (refine OX.alloc sg H rfl rfl rfl rfl rfl ?_; intro b w H _)
      | ((with_reducible apply OX.store sg H); exact rfl; exact rfl; exact rfl; exact rfl; exact rfl; exact rfl; (repeat (first | exact Up.here | apply Up.there)); exact rfl; exact rfl; exact rfl; exact rfl; intro w H)
      | ((with_reducible apply RW.nil); exact rfl)
      | (refine OX.callM rfl rfl (En.fn ent61 rfl rfl) (c_stable H hn) ?_; rintro _ _ w ⟨rfl, cs', rfl, hl, he⟩ HS)
      | ((with_reducible apply OW.gY); exact rfl; exact rfl; exact rfl)
      | ((with_reducible apply OW.gN); exact rfl; exact rfl; exact rfl; exact rfl; exact rfl)
      | ((with_reducible apply QW.gY); exact rfl; exact rfl; exact rfl)
      | ((with_reducible apply QW.gN); exact rfl; exact rfl; exact rfl; exact rfl; exact rfl)
      | ((with_reducible apply OW.gS); exact rfl; exact rfl; exact rfl; all_goals intro h)
      | ((with_reducible apply QW.gS); exact rfl; exact rfl; exact rfl; all_goals intro h)
      | with_reducible apply OW.app
      | with_reducible apply OW.app0
      | with_reducible apply QW.app
      | with_reducible apply QW.app0
      | with_reducible apply OW.nil
      | ((with_reducible apply QW.nil); intro w hcl; replace H := H.ext hcl; clear hcl)
      | ((with_reducible apply RW.one); exact rfl; decide +kernel)
      | with_reducible apply thn_n
      | with_reducible apply CW.seq
      | with_reducible apply CW.region
      | ((with_reducible apply CW.regionD mixed); decide +kernel)
      | with_reducible apply CW.block
      | with_reducible apply CW.ret
      | with_reducible apply CW.exit
      | with_reducible apply CW.skip
      | with_reducible apply thn_r
      | with_reducible apply thn_e
      | with_reducible apply blk_n
      | with_reducible apply blk_r
      | ((with_reducible apply blk_e1); exact rfl)
      | ((with_reducible apply blk_e0); exact rfl)
      | ((with_reducible apply CW.condT); exact rfl)
      | ((with_reducible apply CW.condF); exact rfl))
  exact retVFn (vs := []) (M := _) trivial HS ⟨rfl, cs', rfl, hl, he⟩
end Go.Proofs.Ytkcoemikglbomaa
