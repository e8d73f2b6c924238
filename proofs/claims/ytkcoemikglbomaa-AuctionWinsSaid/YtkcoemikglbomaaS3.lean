/- The library's DeleteFunc over auctions of one's own, walked. -/
import Derived.Test.YtkcoemikglbomaaS2
set_option linter.unusedSimpArgs false
set_option linter.unusedVariables false
namespace Go.Proofs.Ytkcoemikglbomaa
open Go Go.Sk Go.RowKit
/-- The places that stay. -/
def kp (p : Nat → Bool) (n : Nat) : List Nat := (List.range n).filter fun i => !p i
theorem kp_succ (p : Nat → Bool) (n : Nat) : kp p (n + 1) = if p n then kp p n else kp p n ++ [n] := by
  unfold kp
  rw [List.range_succ, List.filter_append]
  cases h : p n <;> simp [h]
theorem kp_all {p : Nat → Bool} {n : Nat} (h : ∀ j, j < n → p j = false) : kp p n = List.range n := by
  unfold kp
  rw [List.filter_eq_self]
  intro a ha
  rw [h a (List.mem_range.1 ha)]; rfl
theorem kp_len (p : Nat → Bool) (n : Nat) : (kp p n).length ≤ n := by
  have := List.length_filter_le (fun i => !p i) (List.range n)
  simpa [kp] using this
def kept (p : Nat → Bool) (n : Nat) (d : Nat → AE) (t : Nat) : AE := d ((kp p n).getD t 0)
set_option maxHeartbeats 4000000 in
theorem c_DeleteAuc {w0 w : World} {g n cap : Nat} {G : Frag} {d : Nat → AE} {cs : List Value} {f : FuncId} {caps : List Value} (p : Nat → Bool) (H : St w0 (cb g cs 24 :: G) w) (he : Els cs 9 n (fun j => (d j).c)) (hn : n ≤ 8796093022208) (hnc : n ≤ cap)
    (hf : Ent Try.prog f) (hp : ∀ j, j < n → ∀ L cs' w', St w0 (L ++ cb g cs' 24 :: G) w' → Calls Try.prog f ([Value.agg (d j).c.toArray] ++ caps).toArray w' (Ret (.bool (p j)) w')) :
    Calls Try.prog 49 [.slice (some ⟨g, 0, none⟩) n cap, .func (.func f) #[] caps.toArray].toArray w
      (RetF (fun M v => v = .slice (some ⟨g, 0, none⟩) (kp p n).length cap ∧ ∃ cs', M = cb g cs' 24 :: G ∧ cs'.length = cs.length ∧ Els cs' 9 (kp p n).length (fun t => (kept p n d t).c)) w0) := by
  refine enter [.tmp 4] Try.func49 rfl Try.ntmps49 rfl rfl ?_
  repeat' (first | refine y1 sg ?_ | refine y2 sg ?_ | refine y3 ?_ | refine y4 ?_ | refine y5 sg ?_ | refine y6 sg ?_ | refine y7 sg H ?_ | refine y8 sg H ?_ | (refine y9 H ?_; intro b w H) | (refine y10 sg H ?_; intro b w H) | (refine y11 sg H ?_; intro w H) | refine y12 ?_ | (refine OX.call rfl rfl (En.fn ent55 rfl rfl) (c_IndexAuc p _ H.mem ⟨hnc, by omega, g, 0, cs, _, (0, 0), he.slb (List.Mem.head _)⟩ hf (fun j hj w' hw => hp j hj [] _ _ (H.ext hw))) ?_; intro w hcl; replace H := H.ext hcl; clear hcl) | refine y13 ?_ | refine y14 ?_ | refine y15 ?_ | refine y16 ?_ | (refine y17 ?_ ?_; all_goals intro h) | (refine y18 ?_ ?_; all_goals intro h) | with_reducible apply OW.app | with_reducible apply OW.app0 | with_reducible apply QW.app | with_reducible apply QW.app0 | with_reducible apply OW.nil | (with_reducible apply QW.nil; intro w hcl; replace H := H.ext hcl; clear hcl) | refine y19 ?_ | with_reducible apply thn_n | with_reducible apply CW.seq | with_reducible apply CW.region | refine y20 mixed ?_ | with_reducible apply CW.block | with_reducible apply CW.ret | with_reducible apply CW.exit | with_reducible apply CW.skip | with_reducible apply thn_r | with_reducible apply thn_e | with_reducible apply blk_n | with_reducible apply blk_r | refine y24 ?_ | refine y25 ?_ | refine y21 ?_ | refine y22 ?_ | fail)
  refine CW.cond rfl (fun h => ?_) (fun h => ?_)
  · repeat' (first | refine y1 sg ?_ | refine y2 sg ?_ | refine y3 ?_ | refine y4 ?_ | refine y5 sg ?_ | refine y6 sg ?_ | refine y7 sg H ?_ | refine y8 sg H ?_ | (refine y9 H ?_; intro b w H) | (refine y10 sg H ?_; intro b w H) | (refine y11 sg H ?_; intro w H) | refine y12 ?_ | refine y13 ?_ | refine y14 ?_ | refine y15 ?_ | refine y16 ?_ | (refine y17 ?_ ?_; all_goals intro h) | (refine y18 ?_ ?_; all_goals intro h) | with_reducible apply OW.app | with_reducible apply OW.app0 | with_reducible apply QW.app | with_reducible apply QW.app0 | with_reducible apply OW.nil | (with_reducible apply QW.nil; intro w hcl; replace H := H.ext hcl; clear hcl) | refine y19 ?_ | with_reducible apply thn_n | with_reducible apply CW.seq | with_reducible apply CW.region | refine y20 mixed ?_ | with_reducible apply CW.block | with_reducible apply CW.ret | with_reducible apply CW.exit | with_reducible apply CW.skip | with_reducible apply thn_r | with_reducible apply thn_e | with_reducible apply blk_n | with_reducible apply blk_r | refine y24 ?_ | refine y25 ?_ | refine y21 ?_ | refine y22 ?_ | fail)
    rcases idx_cases p n with ⟨k, hk, hlo, hpk, hix⟩ | ⟨hall, hix⟩
    · rw [hix] at h; have := eqI h; omega
    · have hkp := kp_all hall
      have hkl : (kp p n).length = n := by rw [hkp, List.length_range]
      refine retVF (vs := [_]) (M := _) ⟨rdvT rfl, trivial⟩ H ⟨by rw [hkl]; rfl, cs, rfl, rfl, ?_⟩
      rw [hkl]
      exact he.congr (fun j hj => by show (d j).c = (d _).c; rw [hkp, List.getD_eq_getElem?_getD, List.getElem?_range hj]; rfl)
  · rcases idx_cases p n with ⟨k, hk, hlo, hpk, hix⟩ | ⟨_, hix⟩
    · rw [hix]
      clear h
      have hk1 : kp p (k + 1) = List.range k := by rw [kp_succ, if_pos hpk]; exact kp_all hlo
      have hlt : ∀ j, k + 1 ≤ j → (kp p j).length < j := by
        intro j hj
        induction j with
        | zero => omega
        | succ j ih =>
          rw [kp_succ]
          rcases Nat.lt_or_ge k j with h1 | h1
          · have := ih (by omega)
            split
            · omega
            · rw [List.length_append, List.length_singleton]; omega
          · obtain rfl : j = k := by omega
            rw [if_pos hpk]
            have := kp_len p j; omega
      repeat' (first | refine y1 sg ?_ | refine y2 sg ?_ | refine y3 ?_ | refine y4 ?_ | refine y5 sg ?_ | refine y6 sg ?_ | refine y7 sg H ?_ | refine y8 sg H ?_ | (refine y9 H ?_; intro b w H) | (refine y10 sg H ?_; intro b w H) | (refine y11 sg H ?_; intro w H) | refine y12 ?_ | refine y13 ?_ | refine y14 ?_ | refine y15 ?_ | refine y16 ?_ | (refine y17 ?_ ?_; all_goals intro h) | (refine y18 ?_ ?_; all_goals intro h) | with_reducible apply OW.app | with_reducible apply OW.app0 | with_reducible apply QW.app | with_reducible apply QW.app0 | with_reducible apply OW.nil | (with_reducible apply QW.nil; intro w hcl; replace H := H.ext hcl; clear hcl) | refine y19 ?_ | with_reducible apply thn_n | with_reducible apply CW.seq | with_reducible apply CW.region | refine y20 mixed ?_ | with_reducible apply CW.block | with_reducible apply CW.ret | with_reducible apply CW.exit | with_reducible apply CW.skip | with_reducible apply thn_r | with_reducible apply thn_e | with_reducible apply blk_n | with_reducible apply blk_r | refine y24 ?_ | refine y25 ?_ | refine y21 ?_ | refine y22 ?_ | fail)
      refine CW.loopI [(5, 7), (16, 35)] (fun x : Nat × (Nat → AE) × List Value => [(5, .int .i64 ((kp p x.1).length : Int)), (6, .int .i64 (x.1 : Int))])
        (fun x w => k + 1 ≤ x.1 ∧ x.1 ≤ n ∧ (∀ t, t < (kp p x.1).length → x.2.1 t = kept p x.1 d t) ∧ (∀ t, x.1 ≤ t → x.2.1 t = d t) ∧ Els x.2.2 9 n (fun t => (x.2.1 t).c) ∧ x.2.2.length = cs.length ∧ St w0 (cb g x.2.2 24 :: G) w)
        (fun x => n - x.1) (k + 1, d, cs) ⟨by show Value.int .i64 _ = Value.int .i64 ((kp p (k + 1)).length : Int); rw [hk1, List.length_range], vsucc (by omega), trivial⟩
        ⟨Nat.le_refl _, hk, fun t ht => by rw [hk1, List.length_range] at ht; unfold kept; rw [hk1, List.getD_eq_getElem?_getD, List.getElem?_range ht]; rfl, fun _ _ => rfl, he, rfl, H⟩ ?_
      clear H he
      rintro ⟨j, d2, cs2⟩ gh w ⟨hj1, hj2, hj3, hj4, he, hl, H⟩
      simp only at hj1 hj2 hj3 hj4 he hl H ⊢
      have hil := hlt j hj1
      repeat' (first | refine y1 sg ?_ | refine y2 sg ?_ | refine y3 ?_ | refine y4 ?_ | refine y5 sg ?_ | refine y6 sg ?_ | refine y7 sg H ?_ | refine y8 sg H ?_ | (refine y9 H ?_; intro b w H) | (refine y10 sg H ?_; intro b w H) | (refine y11 sg H ?_; intro w H) | refine y12 ?_ | refine y13 ?_ | refine y14 ?_ | refine y15 ?_ | refine y16 ?_ | (refine y17 ?_ ?_; all_goals intro h) | (refine y18 ?_ ?_; all_goals intro h) | with_reducible apply OW.app | with_reducible apply OW.app0 | with_reducible apply QW.app | with_reducible apply QW.app0 | with_reducible apply OW.nil | (with_reducible apply QW.nil; intro w hcl; replace H := H.ext hcl; clear hcl) | refine y19 ?_ | with_reducible apply thn_n | with_reducible apply CW.seq | with_reducible apply CW.region | refine y20 mixed ?_ | with_reducible apply CW.block | with_reducible apply CW.ret | with_reducible apply CW.exit | with_reducible apply CW.skip | with_reducible apply thn_r | with_reducible apply thn_e | with_reducible apply blk_n | with_reducible apply blk_r | refine y24 ?_ | refine y25 ?_ | refine y21 ?_ | refine y22 ?_ | fail)
      refine CW.cond rfl (fun h => ?_) (fun h => ?_)
      · have hjn : j < n := by simpa using h
        have hdj : d2 j = d j := hj4 j (Nat.le_refl _)
        have hs := he.slb (F := cb g cs2 24 :: G) (T := 24) (g := g) (List.Mem.head _)
        repeat' (first | refine y1 sg ?_ | refine y2 sg ?_ | refine y3 ?_ | refine y4 ?_ | refine y5 sg ?_ | refine y6 sg ?_ | refine y7 sg H ?_ | refine y8 sg H ?_ | (refine y9 H ?_; intro b w H) | (refine y10 sg H ?_; intro b w H) | (refine y11 sg H ?_; intro w H) | refine y12 ?_ | (refine y40 sg (hs) ?_ ?_ ?_; (omega); (omega)) | (refine y41 sg (hs) ?_ ?_ ?_; (omega); (omega)) | (refine y42 sg (hs) (H.mem) ?_ ?_; (omega)) | (refine y43 sg (hs) (H.mem) ?_ ?_; (omega)) | (refine OX.call rfl rfl (En.cloV hf rfl rfl rfl) (by have := hp j hjn [_] _ _ H; rw [← hdj] at this; exact this) ?_; intro w hcl; replace H := H.ext hcl; clear hcl) | refine y13 ?_ | refine y14 ?_ | refine y15 ?_ | refine y16 ?_ | (refine y17 ?_ ?_; all_goals intro h) | (refine y18 ?_ ?_; all_goals intro h) | with_reducible apply OW.app | with_reducible apply OW.app0 | with_reducible apply QW.app | with_reducible apply QW.app0 | with_reducible apply OW.nil | (with_reducible apply QW.nil; intro w hcl; replace H := H.ext hcl; clear hcl) | refine y19 ?_ | with_reducible apply thn_n | with_reducible apply CW.seq | with_reducible apply CW.region | refine y20 mixed ?_ | with_reducible apply CW.block | with_reducible apply CW.ret | with_reducible apply CW.exit | with_reducible apply CW.skip | with_reducible apply thn_r | with_reducible apply thn_e | with_reducible apply blk_n | with_reducible apply blk_r | refine y24 ?_ | refine y25 ?_ | refine y21 ?_ | refine y22 ?_ | fail)
        refine CW.cond rfl (fun h2 => ?_) (fun h2 => ?_)
        · repeat' (first | refine y1 sg ?_ | refine y2 sg ?_ | refine y3 ?_ | refine y4 ?_ | refine y5 sg ?_ | refine y6 sg ?_ | refine y7 sg H ?_ | refine y8 sg H ?_ | (refine y9 H ?_; intro b w H) | (refine y10 sg H ?_; intro b w H) | (refine y11 sg H ?_; intro w H) | refine y12 ?_ | (refine y40 sg (hs) ?_ ?_ ?_; (omega); (omega)) | (refine y41 sg (hs) ?_ ?_ ?_; (omega); (omega)) | (refine OX.storeB sg (H.perm (List.Perm.swap _ _ _)) rfl rfl rfl (vs := (d2 j).c) rfl rfl (AE.c_len _) (by have := (he _ (Nat.lt_of_lt_of_le hil hj2)).1; rw [AE.c_len]; omega) (AE.c_one _) ?_; intro w HS) | refine y13 ?_ | refine y14 ?_ | refine y15 ?_ | refine y16 ?_ | (refine y17 ?_ ?_; all_goals intro h) | (refine y18 ?_ ?_; all_goals intro h) | with_reducible apply OW.app | with_reducible apply OW.app0 | with_reducible apply QW.app | with_reducible apply QW.app0 | with_reducible apply OW.nil | (with_reducible apply QW.nil; intro w hcl; replace H := H.ext hcl; clear hcl) | refine y19 ?_ | with_reducible apply thn_n | with_reducible apply CW.seq | with_reducible apply CW.region | refine y20 mixed ?_ | with_reducible apply CW.block | with_reducible apply CW.ret | with_reducible apply CW.exit | with_reducible apply CW.skip | with_reducible apply thn_r | with_reducible apply thn_e | with_reducible apply blk_n | with_reducible apply blk_r | refine y24 ?_ | refine y25 ?_ | refine y21 ?_ | refine y22 ?_ | fail)
          have hin : (kp p j).length < n := Nat.lt_of_lt_of_le hil hj2
          have hkp : kp p (j + 1) = kp p j ++ [j] := by rw [kp_succ, if_neg (by simpa using h2)]
          have hkl : (kp p (j + 1)).length = (kp p j).length + 1 := by rw [hkp, List.length_append, List.length_singleton]
          refine Again.mk (j + 1, upd d2 (kp p j).length (d2 j), wr cs2 (0 + (kp p j).length * 9) (d2 j).c) rfl ⟨by show Value.int .i64 _ = Value.int .i64 ((kp p (j + 1)).length : Int); rw [hkl]; exact vsucc (by omega), vsucc (by omega), trivial⟩
            ⟨by show k + 1 ≤ j + 1; omega, hjn, fun t ht => ?_, fun t ht => ?_, ?_, ?_, HS.sub (List.Sublist.cons_cons _ (List.sublist_cons_self _ _))⟩ (by show n - (j + 1) < n - j; omega)
          · replace ht : t < (kp p (j + 1)).length := ht
            rw [hkl] at ht
            show upd d2 (kp p j).length (d2 j) t = kept p (j + 1) d t
            unfold upd kept
            rw [hkp, List.getD_eq_getElem?_getD]
            by_cases ht2 : t = (kp p j).length
            · rw [if_pos ht2, ht2, List.getElem?_append_right (Nat.le_refl _), Nat.sub_self, hdj]; rfl
            · rw [if_neg ht2, List.getElem?_append_left (by omega), hj3 t (by omega)]
              unfold kept; rw [List.getD_eq_getElem?_getD]
          · replace ht : j + 1 ≤ t := ht
            show upd d2 (kp p j).length (d2 j) t = d t
            unfold upd
            rw [if_neg (by omega), hj4 t (by omega)]
          · show Els (wr cs2 (0 + (kp p j).length * 9) (d2 j).c) 9 n _
            rw [Nat.zero_add]
            exact (he.wr hin (AE.c_len _)).congr (fun t _ => by show (if t = _ then _ else _) = (upd _ _ _ t).c; unfold upd; split <;> rfl)
          · show (wr _ _ _).length = _; rw [wr_len (by have := (he _ hin).1; rw [AE.c_len]; omega)]; exact hl
        · repeat' (first | refine y1 sg ?_ | refine y2 sg ?_ | refine y3 ?_ | refine y4 ?_ | refine y5 sg ?_ | refine y6 sg ?_ | refine y7 sg H ?_ | refine y8 sg H ?_ | (refine y9 H ?_; intro b w H) | (refine y10 sg H ?_; intro b w H) | (refine y11 sg H ?_; intro w H) | refine y12 ?_ | refine y13 ?_ | refine y14 ?_ | refine y15 ?_ | refine y16 ?_ | (refine y17 ?_ ?_; all_goals intro h) | (refine y18 ?_ ?_; all_goals intro h) | with_reducible apply OW.app | with_reducible apply OW.app0 | with_reducible apply QW.app | with_reducible apply QW.app0 | with_reducible apply OW.nil | (with_reducible apply QW.nil; intro w hcl; replace H := H.ext hcl; clear hcl) | refine y19 ?_ | with_reducible apply thn_n | with_reducible apply CW.seq | with_reducible apply CW.region | refine y20 mixed ?_ | with_reducible apply CW.block | with_reducible apply CW.ret | with_reducible apply CW.exit | with_reducible apply CW.skip | with_reducible apply thn_r | with_reducible apply thn_e | with_reducible apply blk_n | with_reducible apply blk_r | refine y24 ?_ | refine y25 ?_ | refine y21 ?_ | refine y22 ?_ | fail)
          have hkp : kp p (j + 1) = kp p j := by rw [kp_succ, if_pos (by simpa using h2)]
          refine Again.mk (j + 1, d2, cs2) rfl ⟨by show Value.int .i64 _ = Value.int .i64 ((kp p (j + 1)).length : Int); rw [hkp], vsucc (by omega), trivial⟩
            ⟨by show k + 1 ≤ j + 1; omega, hjn, fun t ht => ?_, fun t ht => hj4 t (by replace ht : j + 1 ≤ t := ht; omega), he, hl, H.sub (List.sublist_cons_self _ _)⟩ (by show n - (j + 1) < n - j; omega)
          replace ht : t < (kp p (j + 1)).length := ht
          show d2 t = kept p (j + 1) d t
          unfold kept; rw [hkp]
          rw [hkp] at ht
          exact hj3 t ht
      · have hjn : j = n := by simp at h; omega
        subst hjn
        repeat' (first | refine y1 sg ?_ | refine y2 sg ?_ | refine y3 ?_ | refine y4 ?_ | refine y5 sg ?_ | refine y6 sg ?_ | refine y7 sg H ?_ | refine y8 sg H ?_ | (refine y9 H ?_; intro b w H) | (refine y10 sg H ?_; intro b w H) | (refine y11 sg H ?_; intro w H) | refine y12 ?_ | (refine OX.val rfl rfl (Yq.sliceLoB sg rfl rfl rfl rfl rfl rfl (Int.toNat_natCast _) (by omega) (by omega) hnc) ?_) | (refine OX.clearP sg H (by omega) rfl rfl rfl rfl rfl rfl rfl rfl rfl (by have := (he (j - 1) (by omega)).1; show 0 + (kp p j).length * 9 + (j - (kp p j).length) * 9 ≤ cs2.length; omega) ?_; intro cs3 w hl3 hk3 H) | (refine OX.val rfl rfl (Yq.sliceHi sg rfl rfl rfl rfl rfl rfl (Int.toNat_natCast _) (by omega) (by omega)) ?_) | refine y13 ?_ | refine y14 ?_ | refine y15 ?_ | refine y16 ?_ | (refine y17 ?_ ?_; all_goals intro h) | (refine y18 ?_ ?_; all_goals intro h) | with_reducible apply OW.app | with_reducible apply OW.app0 | with_reducible apply QW.app | with_reducible apply QW.app0 | with_reducible apply OW.nil | (with_reducible apply QW.nil; intro w hcl; replace H := H.ext hcl; clear hcl) | refine y19 ?_ | with_reducible apply thn_n | with_reducible apply CW.seq | with_reducible apply CW.region | refine y20 mixed ?_ | with_reducible apply CW.block | with_reducible apply CW.ret | with_reducible apply CW.exit | with_reducible apply CW.skip | with_reducible apply thn_r | with_reducible apply thn_e | with_reducible apply blk_n | with_reducible apply blk_r | refine y24 ?_ | refine y25 ?_ | refine y21 ?_ | refine y22 ?_ | fail)
        exact retVF (vs := [_]) (M := _) ⟨rdvT rfl, trivial⟩ H ⟨rfl, cs3, rfl, hl3.trans hl, (he.keep (Nat.le_of_lt hil) hl3 (fun q hq => hk3 q (by show q < 0 + (kp p j).length * 9; omega))).congr (fun t ht => by show (d2 t).c = _; rw [hj3 t ht])⟩
    · rw [hix] at h; exact absurd h (by decide)
end Go.Proofs.Ytkcoemikglbomaa
