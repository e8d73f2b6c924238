/- Texts of ours, joined: the steps of the proof, or the claim's theorem. -/
import Derived.Test.YtggolnppckpdlaaGreatT04
import Derived.Test.YtggolnppckpdlaaGreatT06
import Derived.Test.YtggolnppckpdlaaGreatT09
import Derived.Test.YtggolnppckpdlaaGreatT13
import Derived.Test.YtggolnppckpdlaaGreatT19
import Derived.Test.YtggolnppckpdlaaGreatT23
import Derived.Test.YtggolnppckpdlaaGreatT25
set_option linter.unusedSimpArgs false
set_option linter.unusedVariables false
namespace Go.Proofs.YtggolnppckpdlaaGreat
open Go Go.Sk Go.RowKit
attribute [local irreducible] Go.Calls
abbrev au_ (l : List Auc) (k : Nat) : Auc := l.getD k default
def zGa (s : Sta) (l : List Bid) (k : Nat) : Bool := !(zAh s.accts (l.getD k default).acct).2
def zDR (s : Sta) (l : List Bid) : Bool := decide (idx (zGa s l) l.length ≥ 0)
def zB8 (s : Sta) (x : Auc) : Bool := decide (x.id ≥ s.nextA) || !(zAh s.accts x.seller).2 || !(zBN s.insts x.inst).2 || zDR s x.bids
def zBq (s : Sta) : Bool := zAi s.aucs && !decide (idx (fun j => zB8 s (au_ s.aucs j)) s.aucs.length ≥ 0)
theorem zH4 {b : Nat} {T : TypeId} {fr : Nat × Nat} {F : zI} (s : Sta) (p : SPt) (d : Bid) (w0 : World) (hF : Mem w0 F) (hs0 : StaM F s p) (hm : (b, Obj.cells (s.cells p).toArray T fr) ∈ F) :
  Calls Tryz.prog 243 [.agg d.cells.toArray, .pointer (some ⟨b, 0, none⟩)].toArray w0 (Ret (.bool (!(zAh s.accts d.acct).2)) w0) := by
 obtain ⟨ac, ok, hac⟩ : ∃ ac ok, zAh s.accts d.acct = (ac, ok) := ⟨_, _, rfl⟩
 have opn : ∀ {w : World}, Mem w F → Calls Tryz.prog 235 [.agg (s.cells p).toArray, .int .i64 d.acct].toArray w (Ret (.bool ok) w) := fun hF => by
  have := zHr s p d.acct _ hF hs0
  rw [hac] at this
  exact this
 rw [hac]
 refine enter [.tmp 3] Tryz.func243 rfl Tryz.ntmps243 rfl rfl ?_
 have H := zE w0
 repeat' (first | refine y1 sg ?_ | refine y3 ?_ | refine y7 sg H ?_ | (refine y9 H ?_; intro b w H) | refine z13 (zJ sg rfl rfl (H.memF hF) hm rfl rfl) ?_ | (refine' y30 zHm ?_ ?_; rotate_left; exact opn (H.memF hF); intro w hcl; replace H := H.ext hcl; clear hcl) | (with_reducible first | apply zB | apply zD | apply zC | apply zG) | refine zA ?_ | fail)
 all_goals exact zO rfl H.cl rfl
theorem zIp {b : Nat} {T : TypeId} {fr : Nat × Nat} {F : zI} {ba : Option Addr} {bc : Nat} (s : Sta) (p : SPt) (x : Auc) (w0 : World) (hF : Mem w0 F) (hb : Bids F ba bc x.bids) (hs0 : StaM F s p) (hm : (b, Obj.cells (s.cells p).toArray T fr) ∈ F) :
  Calls Tryz.prog 242 [.agg (x.cells ba bc).toArray, .pointer (some ⟨b, 0, none⟩)].toArray w0 (Ret (.bool (zB8 s x)) w0) := by
 obtain ⟨ac, ok, hac⟩ : ∃ ac ok, zAh s.accts x.seller = (ac, ok) := ⟨_, _, rfl⟩
 obtain ⟨ins, is, his⟩ : ∃ ac ok, zBN s.insts x.inst = (ac, ok) := ⟨_, _, rfl⟩
 obtain ⟨bb, hbb⟩ : ∃ bb, zDR s x.bids = bb := ⟨_, rfl⟩
 have opn : ∀ {w : World}, Mem w F → Calls Tryz.prog 235 [.agg (s.cells p).toArray, .int .i64 x.seller].toArray w (Ret (.bool ok) w) := fun hF => by
  have := zHr s p x.seller _ hF hs0
  rw [hac] at this
  exact this
 have inst : ∀ {w : World}, Mem w F → Calls Tryz.prog 244 [.agg (s.cells p).toArray, .int .i64 x.inst].toArray w (Ret (.bool is) w) := fun hF => by
  have := zPB s p x.inst _ hF hs0
  rw [his] at this
  exact this
 have cont : ∀ {w : World}, Mem w F → Calls Tryz.prog 245 [.slice ba x.bids.length bc, .func (.func 243) #[] #[.pointer (some ⟨b, 0, none⟩)]].toArray w (Ret (.bool bb) w) := fun hM =>
  hbb ▸ zEC (caps := [.pointer (some ⟨_, 0, none⟩)]) (zGa s x.bids) _ hM hb ent243 (fun j _ w hw => zH4 s p (x.bids.getD j default) w (hM.ext hw) hs0 hm)
 have hso : zB8 s x = (decide (x.id ≥ s.nextA) || !ok || !is || bb) := by unfold zB8; rw [hac, his, hbb]
 rw [hso]
 refine enter [.tmp 3] Tryz.func242 rfl Tryz.ntmps242 rfl rfl ?_
 have H := zE w0
 repeat' (first | refine y1 sg ?_ | refine y3 ?_ | refine y5 sg ?_ | refine y7 sg H ?_ | (refine y9 H ?_; intro b w H) | refine z13 (zJ sg rfl rfl (H.memF hF) hm rfl rfl) ?_ | (refine' y30 zHm ?_ ?_; rotate_left; exact opn (H.memF hF); intro w hcl; replace H := H.ext hcl; clear hcl) | (refine' y30 ent244 ?_ ?_; rotate_left; exact inst (H.memF hF); intro w hcl; replace H := H.ext hcl; clear hcl) | (refine' y30 zM6 ?_ ?_; rotate_left; exact cont (H.memF hF); intro w hcl; replace H := H.ext hcl; clear hcl) | refine y13 ?_ | refine y14 ?_ | (refine y17 ?_ ?_; all_goals intro h) | (with_reducible first | apply zB | apply zD | apply zC | apply zG) | refine zA ?_ | fail)
 all_goals simp only [Bool.not_eq_true', Bool.not_eq_false', decide_eq_true_eq, decide_eq_false_iff_not] at *
 all_goals exact zO rfl H.cl (congrArg Value.bool (by simp only [*, decide_true, decide_false, Bool.true_or, Bool.or_true, Bool.false_or, Bool.or_false, Bool.not_true, Bool.not_false]))
theorem zJu {F : zI} (s : Sta) (p : SPt) (w0 : World) (hF : Mem w0 F) (hs0 : StaM F s p) :
  Calls Tryz.prog 211 [.agg (s.cells p).toArray].toArray w0 (Ret (.bool (zBq s)) w0) := by
 have cont : ∀ {b : Nat} {w : World}, Mem w (cb b (s.cells p) 29 :: F) → Calls Tryz.prog 247 [.slice p.auA s.aucs.length p.auC, .func (.func 242) #[] #[.pointer (some ⟨b, 0, none⟩)]].toArray w (Ret (.bool (decide (idx (fun j => zB8 s (au_ s.aucs j)) s.aucs.length ≥ 0))) w) := fun hM =>
  zGy (caps := [.pointer (some ⟨_, 0, none⟩)]) (fun j => zB8 s (au_ s.aucs j)) _ hM (SlA.mono hs0.au.1 (List.subset_cons_self _ _)) ent242 (fun j hj w hw => zIp s p (au_ s.aucs j) w (hM.ext hw) (SlA.mono (hs0.au.2 j hj) (List.subset_cons_self _ _)) (hs0.mono (List.subset_cons_self _ _)) (List.Mem.head _))
 have fin : zAi s.aucs = true → (!decide (idx (fun j => zB8 s (au_ s.aucs j)) s.aucs.length ≥ 0)) = zBq s := fun hR => by
  unfold zBq; rw [hR, Bool.true_and]
 refine enter [.tmp 2] Tryz.func211 rfl Tryz.ntmps211 rfl rfl ?_
 have H := zE w0
 repeat' (first | refine y1 sg ?_ | refine y3 ?_ | refine y5 sg ?_ | refine y7 sg H ?_ | (refine y9 H ?_; intro b w H) | (refine' y30 ent246 ?_ ?_; rotate_left; exact zNe s.aucs p.ad _ (H.memF hF) hs0.au; intro w hcl; replace H := H.ext hcl; clear hcl) | (refine' y30 ent247 ?_ ?_; rotate_left; exact cont (H.all hF); intro w hcl; replace H := H.ext hcl; clear hcl) | refine y13 ?_ | refine y14 ?_ | (refine y17 ?_ ?_; all_goals intro h) | (with_reducible first | apply zB | apply zD | apply zC | apply zG) | refine zA ?_ | fail)
 all_goals first
  | (have h : zAi s.aucs = true := by assumption
     exact zO rfl H.cl (congrArg Value.bool (fin h)))
  | (have h : zAi s.aucs = false := by assumption
     refine zO rfl H.cl (congrArg Value.bool ?_)
     unfold zBq
     rw [h, Bool.false_and])
  | fail
end Go.Proofs.YtggolnppckpdlaaGreat
set_option linter.unusedSimpArgs false
set_option linter.unusedVariables false
namespace Go.Proofs.YtggolnppckpdlaaGreat
open Go Go.Sk Go.RowKit
attribute [local irreducible] Go.Calls
def zGb : List Value := [.string ⟨#[110, 117, 109, 98, 101, 114, 115]⟩, .func (.func 206) #[] #[], .string ⟨#[97, 99, 99, 111, 117, 110, 116, 115]⟩, .func (.func 207) #[] #[], .string ⟨#[105, 110, 115, 116, 114, 117, 109, 101, 110, 116, 115]⟩, .func (.func 208) #[] #[], .string ⟨#[114, 111, 119, 115]⟩, .func (.func 209) #[] #[], .string ⟨#[111, 114, 100, 101, 114, 115]⟩, .func (.func 210) #[] #[], .string ⟨#[97, 117, 99, 116, 105, 111, 110, 115]⟩, .func (.func 211) #[] #[], .string ⟨#[104, 101, 108, 100]⟩, .func (.func 212) #[] #[]]
theorem zPn (w0 : World) :
  Calls Tryz.prog 168 [].toArray w0 (zy (fun M v => ∃ b T fr, v = .slice (some ⟨b, 0, none⟩) 7 7 ∧ M = [(b, Obj.cells zGb.toArray T fr)]) w0) := by
 refine enter [.tmp 0] Tryz.func168 rfl Tryz.ntmps168 rfl rfl ?_
 have H := zE w0
 repeat' (first | refine y1 sg ?_ | refine y3 ?_ | (refine z14 sg H ?_; intro b w H) | (with_reducible first | apply zB | apply zD | apply zC | apply zG) | refine zA ?_ | fail)
 exact zEA rfl H ⟨_, _, _, rfl, rfl⟩
end Go.Proofs.YtggolnppckpdlaaGreat
set_option linter.unusedSimpArgs false
set_option linter.unusedVariables false
namespace Go.Proofs.YtggolnppckpdlaaGreat
open Go Go.Sk Go.RowKit
attribute [local irreducible] Go.Calls
def zG4 (k : Nat) : ByteArray := [⟨#[110, 117, 109, 98, 101, 114, 115]⟩, ⟨#[97, 99, 99, 111, 117, 110, 116, 115]⟩, ⟨#[105, 110, 115, 116, 114, 117, 109, 101, 110, 116, 115]⟩, ⟨#[114, 111, 119, 115]⟩, ⟨#[111, 114, 100, 101, 114, 115]⟩, ⟨#[97, 117, 99, 116, 105, 111, 110, 115]⟩, ⟨#[104, 101, 108, 100]⟩].getD k ⟨#[]⟩
def rulG (k : Nat) : FuncId := [206, 207, 208, 209, 210, 211, 212].getD k 0
def rulE (k : Nat) : List Value := [.string (zG4 k), .func (.func (rulG k)) #[] #[]]
theorem rul_sl {b : Nat} {T : TypeId} {fr : Nat × Nat} {F : zI} (hm : (b, Obj.cells zGb.toArray T fr) ∈ F) : SlB F 2 (some ⟨b, 0, none⟩) 7 b 0 zGb T fr rulE := fun _ => ⟨rfl, hm, fun j hj => by
 match j, hj with
 | 0, _ => exact ⟨by decide, rfl⟩
 | 1, _ => exact ⟨by decide, rfl⟩
 | 2, _ => exact ⟨by decide, rfl⟩
 | 3, _ => exact ⟨by decide, rfl⟩
 | 4, _ => exact ⟨by decide, rfl⟩
 | 5, _ => exact ⟨by decide, rfl⟩
 | 6, _ => exact ⟨by decide, rfl⟩⟩
theorem zPo {k : Nat} (hk : k < 7) : Ent Tryz.prog (rulG k) := by
 match k, hk with
 | 0, _ => exact ent206
 | 1, _ => exact ent207
 | 2, _ => exact ent208
 | 3, _ => exact ent209
 | 4, _ => exact ent210
 | 5, _ => exact ent211
 | 6, _ => exact ent212
def zBJ (ok : Nat → Bool) : ByteArray := if idx (fun k => !ok k) 7 < 0 then ⟨#[]⟩ else zG4 (idx (fun k => !ok k) 7).toNat
theorem zL8 {F : zI} (s : Sta) (p : SPt) (ok : Nat → Bool) (hr : ∀ k, k < 7 → (∀ j, j < k → ok j = true) → ∀ w, Mem w F → Calls Tryz.prog (rulG k) [.agg (s.cells p).toArray].toArray w (Ret (.bool (ok k)) w)) (w0 : World) (hF : Mem w0 F) :
  Calls Tryz.prog 83 [.agg (s.cells p).toArray].toArray w0 (Ret (.string (zBJ ok)) w0) := by
 refine enter [.tmp 2] Tryz.func83 rfl Tryz.ntmps83 rfl rfl ?_
 have H := zE w0
 repeat' (first | refine y1 sg ?_ | refine y3 ?_ | (refine y9 H ?_; intro b w H) | (refine' y32 ent168 ?_ ?_; rotate_left; exact zPn _; intro v M w hR hS; replace H := H.addR hS; clear hS; (try simp only [List.cons_append, List.nil_append] at H); obtain ⟨br, TR, fr, rfl, rfl⟩ := hR) | (with_reducible first | apply zB | apply zD | apply zC | apply zF) | refine zA ?_ | fail)
 refine zK [(2, 2), (4, 4), (7, 18)] (fun k : Nat => [(7, .int .i64 (k : Int))]) (fun k w => k ≤ 7 ∧ (∀ j, j < k → (!ok j) = false) ∧ St w0 [cb _ (s.cells p) 29, (br, Obj.cells zGb.toArray TR fr)] w) (fun k => 7 - k) 0 ⟨rfl, trivial⟩ ⟨Nat.zero_le _, fun j hj => absurd hj (Nat.not_lt_zero _), H⟩ ?_
 clear H
 rintro k gh w ⟨hk, hn, H⟩
 have hs1 := fun {F : zI} (hm : (br, Obj.cells zGb.toArray TR fr) ∈ F) => rul_sl hm
 repeat' (first | refine y1 sg ?_ | (with_reducible first | apply zB | apply zD | apply zC) | refine zA ?_ | fail)
 refine zL rfl (fun h => ?_) (fun h => ?_)
 ·have hlt : k < 7 := by have := of_decide_eq_true h; omega
  clear h
  obtain ⟨okk, hok⟩ : ∃ b, ok k = b := ⟨_, rfl⟩
  have hrk := hr k hlt fun j hj => by have := hn j hj; simpa using this
  rw [hok] at hrk
  repeat' (first | refine y1 sg ?_ | refine y3 ?_ | refine y7 sg H ?_ | (refine y10 sg H ?_; intro b w H) | (refine y11 sg H ?_; intro w H) | (refine y40 sg (hs1 (List.Mem.head [])) ?_ ?_ ?_; (omega); (omega)) | (refine zf rfl rfl (zCD sg (hs1 (by first | exact List.Mem.head _ | exact List.Mem.tail _ (List.Mem.head _))) H.mem rfl rfl rfl rfl rfl hlt) ?_) | (refine OX.call rfl rfl (zAK (zPo hlt) rfl rfl rfl) (hrk _ (H.memF hF)) ?_; intro w hcl; replace H := H.ext hcl; clear hcl) | (with_reducible first | apply zB | apply zD | apply zC | apply zF | apply zG | apply zH | apply zP | apply za) | refine zA ?_ | (refine y23 ?_ ?_; all_goals intro h) | fail)
  all_goals rw [← hok] at h
  all_goals first
   | exact zO rfl H.cl (congrArg Value.string (by unfold zBJ; rw [zA7 hlt hn h, if_neg (by omega), Int.toNat_natCast]))
   | (refine zM (k + 1) rfl ⟨zV (by omega), trivial⟩ ⟨hlt, fun j hj => ?_, H.sub (List.sublist_cons_self _ _)⟩ (by omega)
      rcases (show j < k ∨ j = k by omega) with g | rfl
      ·exact hn j g
      ·exact h)
   | fail
 ·obtain rfl : k = 7 := by have := of_decide_eq_false h; omega
  repeat' (first | refine y1 sg ?_ | (with_reducible first | apply zB | apply zD | apply zC | apply zG | apply zN | apply zW) | refine zA ?_ | refine y24 ?_ | fail)
  exact zO rfl H.cl (congrArg Value.string (by unfold zBJ; rw [zAq hn]; rfl))
end Go.Proofs.YtggolnppckpdlaaGreat
set_option linter.unusedSimpArgs false
set_option linter.unusedVariables false
namespace Go.Proofs.YtggolnppckpdlaaGreat
open Go Go.Sk Go.RowKit
attribute [local irreducible] Go.Calls
def zDf (s : Sta) (k : Nat) : Bool := [zEH s, zCd s.accts, zBp s.insts, zCN s, zAs s, zBq s, zDq s].getD k true
structure StaW (s : Sta) : Prop where
 ac : s.accts.length ≤ 10000
 acN : ∀ k, k < s.accts.length → (ac_ s.accts k).name.size ≤ 140737488355328
 ins : s.insts.length ≤ 10000
 insN : ∀ k, k < s.insts.length → (in_ s.insts k).name.size ≤ 140737488355328
 rw : ∀ j, j < s.rows.length → (rw_ s.rows j).wf
theorem zPp {F : zI} (s : Sta) (p : SPt) (hW : StaW s) (w0 : World) (hF : Mem w0 F) (hs : StaM F s p) :
  Calls Tryz.prog 83 [.agg (s.cells p).toArray].toArray w0 (Ret (.string (zBJ (zDf s))) w0) := by
 refine zL8 s p (zDf s) (fun k hk hj w hM => ?_) w0 hF
 match k, hk with
 | 0, _ => exact zL5 s p w
 | 1, _ => exact zJs s p hW.ac hW.acN w hM hs
 | 2, _ => exact zG3 s p hW.ins hW.insN w hM hs
 | 3, _ => exact c_rows s p hW.rw w hM hs
 | 4, _ => exact zN0 s p (hj 2 (by omega)) w hM hs
 | 5, _ => exact zJu s p w hM hs
 | 6, _ => exact c_held s p w hM hs
def zC8 (s : Sta) : Bool := (List.range 7).all (zDf s)
theorem zE4 (ok : Nat → Bool) : ((zBJ ok).toList == (ByteArray.mk #[]).toList) = (List.range 7).all ok := by
 rcases zAC (fun k => !ok k) 7 with ⟨k, hk, _, hp, h2⟩ | ⟨h1, h2⟩
 ·unfold zBJ
  rw [h2, if_neg (by omega), Int.toNat_natCast]
  have hf : (List.range 7).all ok = false := List.all_eq_false.2 ⟨k, List.mem_range.2 hk, by simpa using hp⟩
  rw [hf]
  match k, hk with
  | 0, _ => rw [ByteArray.toList_eq, ByteArray.toList_eq]; decide
  | 1, _ => rw [ByteArray.toList_eq, ByteArray.toList_eq]; decide
  | 2, _ => rw [ByteArray.toList_eq, ByteArray.toList_eq]; decide
  | 3, _ => rw [ByteArray.toList_eq, ByteArray.toList_eq]; decide
  | 4, _ => rw [ByteArray.toList_eq, ByteArray.toList_eq]; decide
  | 5, _ => rw [ByteArray.toList_eq, ByteArray.toList_eq]; decide
  | 6, _ => rw [ByteArray.toList_eq, ByteArray.toList_eq]; decide
 ·unfold zBJ
  rw [h2, if_pos (by omega)]
  have hf : (List.range 7).all ok = true := List.all_eq_true.2 fun k hk => by have := h1 k (List.mem_range.1 hk); simpa using this
  rw [hf, ByteArray.toList_eq]; decide
theorem zK7 {F : zI} (s : Sta) (p : SPt) (hW : StaW s) (w0 : World) (hF : Mem w0 F) (hs : StaM F s p) :
  Calls Tryz.prog 32 [.agg (s.cells p).toArray].toArray w0 (Ret (.bool (zC8 s)) w0) := by
 have hc := fun w hM => zPp s p hW w hM hs
 have he := zE4 (zDf s)
 obtain ⟨c, hcc⟩ : ∃ c, zBJ (zDf s) = c := ⟨_, rfl⟩
 rw [hcc] at hc he
 refine enter [.tmp 2] Tryz.func32 rfl Tryz.ntmps32 rfl rfl ?_
 have H := zE w0
 repeat' (first | refine y1 sg ?_ | refine y3 ?_ | refine y7 sg H ?_ | (refine y9 H ?_; intro b w H) | (refine' y30 ent83 ?_ ?_; rotate_left; exact hc _ (H.memF hF); intro w hcl; replace H := H.ext hcl; clear hcl) | (with_reducible first | apply zB | apply zD | apply zC | apply zG) | refine zA ?_ | fail)
 all_goals exact zO rfl H.cl (congrArg Value.bool he)
end Go.Proofs.YtggolnppckpdlaaGreat
set_option linter.unusedSimpArgs false
set_option linter.unusedVariables false
namespace Go.Proofs.YtggolnppckpdlaaGreat
open Go Go.Sk Go.RowKit
attribute [local irreducible] Go.Calls
theorem zIq (n m : Int) (w : World) : Calls Tryz.prog 216 [.int .i64 n, .int .i64 m].toArray w (Ret (.bool (zd n 1 m)) w) := by
 refine enter [.tmp 4] Tryz.func216 rfl Tryz.ntmps216 rfl rfl ?_
 have H := zE w
 repeat' (first | refine y1 sg ?_ | refine y5 sg ?_ | refine y13 ?_ | refine y14 ?_ | (refine y17 ?_ ?_; all_goals intro h) | (with_reducible first | apply zB | apply zD | apply zC | apply zG) | refine zA ?_ | fail)
 all_goals simp only [decide_eq_true_eq, decide_eq_false_iff_not, ge_iff_le] at *
 all_goals exact zO rfl H.cl (congrArg Value.bool (by unfold zd; simp only [*, decide_true, decide_false, Bool.true_and, Bool.and_true, Bool.false_and, Bool.and_false]))
theorem zHO (n m : Int) (w : World) : Calls Tryz.prog 217 [.int .i64 n, .int .i64 m].toArray w (Ret (.bool (zd n 1 m)) w) := by
 refine enter [.tmp 4] Tryz.func217 rfl Tryz.ntmps217 rfl rfl ?_
 have H := zE w
 repeat' (first | refine y1 sg ?_ | refine y5 sg ?_ | refine y13 ?_ | refine y14 ?_ | (refine y17 ?_ ?_; all_goals intro h) | (with_reducible first | apply zB | apply zD | apply zC | apply zG) | refine zA ?_ | fail)
 all_goals simp only [decide_eq_true_eq, decide_eq_false_iff_not, ge_iff_le] at *
 all_goals exact zO rfl H.cl (congrArg Value.bool (by unfold zd; simp only [*, decide_true, decide_false, Bool.true_and, Bool.and_true, Bool.false_and, Bool.and_false]))
def zBr (o : Opn) : Bool := zd o.acct 1 64 && (zd o.id 1 1099511627776 && (zd o.inst 1 16 && ((o.side == 1 || o.side == 2) && (zd o.price 1 1073741824 && zd o.left 1 1048576))))
def zCg (l : Lt) : Bool := zd l.id 1 1099511627776 && (zd l.seller 1 64 && (zd l.inst 1 16 && zd l.qty 1 1048576))
set_option maxHeartbeats 2000000 in
theorem zN1 (o : Opn) (w : World) : Calls Tryz.prog 173 [.agg o.cells.toArray].toArray w (Ret (.bool (zBr o)) w) := by
 refine enter [.tmp 2] Tryz.func173 rfl Tryz.ntmps173 rfl rfl ?_
 have H := zE w
 repeat' (first | refine y1 sg ?_ | refine y3 ?_ | refine y5 sg ?_ | refine y7 sg H ?_ | (refine y9 H ?_; intro b w H) | (refine' y30 zMz ?_ ?_; rotate_left; exact zIq _ _ _; intro w hcl; replace H := H.ext hcl; clear hcl) | (refine' y30 zM0 ?_ ?_; rotate_left; exact zHO _ _ _; intro w hcl; replace H := H.ext hcl; clear hcl) | refine y13 ?_ | refine y14 ?_ | (refine y17 ?_ ?_; all_goals intro h) | (with_reducible first | apply zB | apply zD | apply zC | apply zG) | refine zA ?_ | fail)
 all_goals exact zO rfl H.cl (congrArg Value.bool (by unfold zBr; simp only [*, Bool.true_and, Bool.and_true, Bool.false_and, Bool.and_false, Bool.true_or, Bool.or_true, Bool.false_or, Bool.or_false]))
theorem zPq (l : Lt) (w : World) : Calls Tryz.prog 178 [.agg l.cells.toArray].toArray w (Ret (.bool (zCg l)) w) := by
 refine enter [.tmp 2] Tryz.func178 rfl Tryz.ntmps178 rfl rfl ?_
 have H := zE w
 repeat' (first | refine y1 sg ?_ | refine y3 ?_ | refine y5 sg ?_ | refine y7 sg H ?_ | (refine y9 H ?_; intro b w H) | (refine' y30 zMz ?_ ?_; rotate_left; exact zIq _ _ _; intro w hcl; replace H := H.ext hcl; clear hcl) | (refine' y30 zM0 ?_ ?_; rotate_left; exact zHO _ _ _; intro w hcl; replace H := H.ext hcl; clear hcl) | refine y13 ?_ | refine y14 ?_ | (refine y17 ?_ ?_; all_goals intro h) | (with_reducible first | apply zB | apply zD | apply zC | apply zG) | refine zA ?_ | fail)
 all_goals exact zO rfl H.cl (congrArg Value.bool (by unfold zCg; simp only [*, Bool.true_and, Bool.and_true, Bool.false_and, Bool.and_false]))
theorem zPr (l : Lt) (w : World) : Calls Tryz.prog 177 [.agg l.cells.toArray].toArray w (Ret (.bool (!zCg l)) w) := by
 refine enter [.tmp 2] Tryz.func177 rfl Tryz.ntmps177 rfl rfl ?_
 have H := zE w
 repeat' (first | refine y1 sg ?_ | refine y3 ?_ | refine y7 sg H ?_ | (refine y9 H ?_; intro b w H) | (refine' y30 ent178 ?_ ?_; rotate_left; exact zPq l _; intro w hcl; replace H := H.ext hcl; clear hcl) | (with_reducible first | apply zB | apply zD | apply zC | apply zG) | refine zA ?_ | fail)
 all_goals exact zO rfl H.cl rfl
def cmpO (a b : Opn) : Int := zJb a.acct a.id b.acct b.id
set_option maxHeartbeats 2000000 in
theorem c_orow (a b : Opn) (w0 : World) : Calls Tryz.prog 170 [.agg a.cells.toArray, .agg b.cells.toArray].toArray w0 (Ret (.int .i64 (cmpO a b)) w0) := by
 refine enter [.tmp 4] Tryz.func170 rfl Tryz.ntmps170 rfl rfl ?_
 have H := zE w0
 repeat' (first | refine y1 sg ?_ | refine y2 sg ?_ | refine y3 ?_ | refine y4 ?_ | refine y8 sg H ?_ | (refine y9 H ?_; intro b w H) | refine y12 ?_ | (refine CW.regionR zZ ?_; intro w hcl; replace H := H.ext hcl; clear hcl; (with_reducible apply RW.quiet 10); exact rfl; decide +kernel; simp only [List.append_eq, List.cons_append, List.nil_append, List.take_succ_cons, List.take_zero, List.drop_zero]) | (refine' y31 zJP ?_ ?_; rotate_left; exact (fun _ hcl => zEQ _ _ _)) | (refine' y31 zJQ ?_ ?_; rotate_left; exact (fun _ hcl => zFI _ _ _)) | (refine z14 sg H ?_; intro b w H) | (refine' y30 zJO ?_ ?_; rotate_left; exact zNX _ _ _ (H.mem) (List.Mem.head _); intro w hcl; replace H := H.ext hcl; clear hcl) | (with_reducible first | apply zB | apply zD | apply zC | apply zG) | (with_reducible apply zb; intro w hcl; replace H := H.ext hcl; clear hcl) | refine y19 ?_ | refine zA ?_ | fail)
 exact zO rfl H.cl rfl
def cmpT (a b : Lt) : Int := zFH a.id b.id
theorem zPs (a b : Lt) (w0 : World) : Calls Tryz.prog 172 [.agg a.cells.toArray, .agg b.cells.toArray].toArray w0 (Ret (.int .i64 (cmpT a b)) w0) := by
 refine enter [.tmp 4] Tryz.func172 rfl Tryz.ntmps172 rfl rfl ?_
 have H := zE w0
 repeat' (first | refine y1 sg ?_ | refine y3 ?_ | refine y7 sg H ?_ | (refine y9 H ?_; intro b w H) | (refine' y30 zJQ ?_ ?_; rotate_left; exact zFI _ _ _; intro w hcl; replace H := H.ext hcl; clear hcl) | (with_reducible first | apply zB | apply zD | apply zC | apply zG) | refine zA ?_ | fail)
 exact zO rfl H.cl rfl
def zGc (l : List Opn) : Bool := (List.range l.length).all fun k => k == 0 || decide (cmpO (op_ l (k - 1)) (op_ l k) < 0)
theorem zD2 {l : List Opn} : zGc l = true ↔ ∀ k, k < l.length → 0 < k → cmpO (op_ l (k - 1)) (op_ l k) < 0 := by
 unfold zGc
 rw [List.all_eq_true]
 simp only [List.mem_range, Bool.or_eq_true, beq_iff_eq, decide_eq_true_eq]
 constructor
 ·intro h k hk h0
  exact (h k hk).resolve_left (by omega)
 ·intro h k hk
  rcases Nat.eq_zero_or_pos k with g | g
  ·exact .inl g
  ·exact .inr (h k hk g)
theorem zPt {F : zI} {a : Option Addr} {cap : Nat} (l : List Opn) (w0 : World) (hF : Mem w0 F) (hs : SlA F 6 a l.length cap (opl l)) :
  Calls Tryz.prog 169 [.slice a l.length cap, .func (.func 170) #[] #[]].toArray w0 (Ret (.bool (zGc l)) w0) := by
 obtain ⟨hnc, hcb, b0, off, cs, T, fr, hs⟩ := hs
 refine enter [.tmp 4] Tryz.func169 rfl Tryz.ntmps169 rfl rfl ?_
 have H := zE w0
 repeat' (first | refine y1 sg ?_ | (with_reducible first | apply zB | apply zD | apply zC | apply zF) | refine zA ?_ | fail)
 refine zK [(4, 23)] (fun j : Nat => [(5, .int .i64 ((j + 1 : Nat) : Int))]) (fun j w => j ≤ l.length ∧ (∀ i, i < l.length → 0 < i → i < j + 1 → cmpO (op_ l (i - 1)) (op_ l i) < 0) ∧ St w0 [] w) (fun j => l.length - j) 0 ⟨rfl, trivial⟩ ⟨Nat.zero_le _, fun i _ h1 h2 => absurd h1 (by omega), H⟩ ?_
 clear H
 rintro j gh w ⟨hj, hP, H⟩
 repeat' (first | refine y1 sg ?_ | (with_reducible first | apply zB | apply zD | apply zC) | refine zA ?_ | fail)
 refine zL rfl (fun h => ?_) (fun h => ?_)
 ·have hlt : j + 1 < l.length := by have := of_decide_eq_true h; omega
  clear h
  repeat' (first | refine y2 sg ?_ | refine y4 ?_ | (refine y41 sg (hs) ?_ ?_ ?_; (first | omega | (rw [w64 (by omega) (by omega)]; omega)); (first | omega | (rw [w64 (by omega) (by omega)]; omega))) | (refine y43 sg (hs) ((H.memF hF)) ?_ ?_; (omega)) | (refine' y35 ent170 ?_ ?_; rotate_left; exact (fun _ hcl => c_orow (op_ l j) (op_ l (j + 1)) _)) | (with_reducible apply zb; intro w hcl; replace H := H.ext hcl; clear hcl) | (with_reducible first | apply zD | apply zC | apply zF | apply zH) | refine y20 zZ ?_ | fail)
  refine zL rfl (fun h => ?_) (fun h => ?_)
  ·have hge := of_decide_eq_true h
   repeat' (first | refine y1 sg ?_ | (with_reducible first | apply zB | apply zD | apply zC | apply zG | apply zP | apply za) | refine zA ?_ | fail)
   refine zO rfl H.cl (congrArg Value.bool (noB fun q => ?_))
   have := zD2.1 q (j + 1) hlt (by omega)
   simp only [Nat.add_sub_cancel] at this
   omega
  ·have hlt2 := of_decide_eq_false h
   repeat' (first | refine y1 sg ?_ | (with_reducible first | apply zB | apply zD | apply zH) | refine zA ?_ | fail)
   refine zM (j + 1) rfl ⟨zV (by omega), trivial⟩ ⟨by omega, fun i h1 h2 h3 => ?_, H⟩ (by omega)
   rcases (show i < j + 1 ∨ i = j + 1 by omega) with g | rfl
   ·exact hP i h1 h2 g
   ·simp only [Nat.add_sub_cancel]; omega
 ·have hge : l.length ≤ j + 1 := by have := of_decide_eq_false h; omega
  repeat' (first | refine y1 sg ?_ | (with_reducible first | apply zB | apply zD | apply zC | apply zG | apply zN | apply zW) | refine zA ?_ | refine y24 ?_ | fail)
  exact zO rfl H.cl (congrArg Value.bool (zD2.2 fun i h1 h2 => hP i h1 h2 (by omega)).symm)
def zFf (l : List Lt) : Bool := (List.range l.length).all fun k => k == 0 || decide (cmpT (lt_ l (k - 1)) (lt_ l k) < 0)
theorem zD3 {l : List Lt} : zFf l = true ↔ ∀ k, k < l.length → 0 < k → cmpT (lt_ l (k - 1)) (lt_ l k) < 0 := by
 unfold zFf
 rw [List.all_eq_true]
 simp only [List.mem_range, Bool.or_eq_true, beq_iff_eq, decide_eq_true_eq]
 constructor
 ·intro h k hk h0
  exact (h k hk).resolve_left (by omega)
 ·intro h k hk
  rcases Nat.eq_zero_or_pos k with g | g
  ·exact .inl g
  ·exact .inr (h k hk g)
theorem zPu {F : zI} {a : Option Addr} {cap : Nat} (l : List Lt) (w0 : World) (hF : Mem w0 F) (hs : SlA F 4 a l.length cap (ltl l)) :
  Calls Tryz.prog 171 [.slice a l.length cap, .func (.func 172) #[] #[]].toArray w0 (Ret (.bool (zFf l)) w0) := by
 obtain ⟨hnc, hcb, b0, off, cs, T, fr, hs⟩ := hs
 refine enter [.tmp 4] Tryz.func171 rfl Tryz.ntmps171 rfl rfl ?_
 have H := zE w0
 repeat' (first | refine y1 sg ?_ | (with_reducible first | apply zB | apply zD | apply zC | apply zF) | refine zA ?_ | fail)
 refine zK [(4, 23)] (fun j : Nat => [(5, .int .i64 ((j + 1 : Nat) : Int))]) (fun j w => j ≤ l.length ∧ (∀ i, i < l.length → 0 < i → i < j + 1 → cmpT (lt_ l (i - 1)) (lt_ l i) < 0) ∧ St w0 [] w) (fun j => l.length - j) 0 ⟨rfl, trivial⟩ ⟨Nat.zero_le _, fun i _ h1 h2 => absurd h1 (by omega), H⟩ ?_
 clear H
 rintro j gh w ⟨hj, hP, H⟩
 repeat' (first | refine y1 sg ?_ | (with_reducible first | apply zB | apply zD | apply zC) | refine zA ?_ | fail)
 refine zL rfl (fun h => ?_) (fun h => ?_)
 ·have hlt : j + 1 < l.length := by have := of_decide_eq_true h; omega
  clear h
  repeat' (first | refine y2 sg ?_ | refine y4 ?_ | (refine y41 sg (hs) ?_ ?_ ?_; (first | omega | (rw [w64 (by omega) (by omega)]; omega)); (first | omega | (rw [w64 (by omega) (by omega)]; omega))) | (refine y43 sg (hs) ((H.memF hF)) ?_ ?_; (omega)) | (refine' y35 ent172 ?_ ?_; rotate_left; exact (fun _ hcl => zPs (lt_ l j) (lt_ l (j + 1)) _)) | (with_reducible apply zb; intro w hcl; replace H := H.ext hcl; clear hcl) | (with_reducible first | apply zD | apply zC | apply zF | apply zH) | refine y20 zZ ?_ | fail)
  refine zL rfl (fun h => ?_) (fun h => ?_)
  ·have hge := of_decide_eq_true h
   repeat' (first | refine y1 sg ?_ | (with_reducible first | apply zB | apply zD | apply zC | apply zG | apply zP | apply za) | refine zA ?_ | fail)
   refine zO rfl H.cl (congrArg Value.bool (noB fun q => ?_))
   have := zD3.1 q (j + 1) hlt (by omega)
   simp only [Nat.add_sub_cancel] at this
   omega
  ·have hlt2 := of_decide_eq_false h
   repeat' (first | refine y1 sg ?_ | (with_reducible first | apply zB | apply zD | apply zH) | refine zA ?_ | fail)
   refine zM (j + 1) rfl ⟨zV (by omega), trivial⟩ ⟨by omega, fun i h1 h2 h3 => ?_, H⟩ (by omega)
   rcases (show i < j + 1 ∨ i = j + 1 by omega) with g | rfl
   ·exact hP i h1 h2 g
   ·simp only [Nat.add_sub_cancel]; omega
 ·have hge : l.length ≤ j + 1 := by have := of_decide_eq_false h; omega
  repeat' (first | refine y1 sg ?_ | (with_reducible first | apply zB | apply zD | apply zC | apply zG | apply zN | apply zW) | refine zA ?_ | refine y24 ?_ | fail)
  exact zO rfl H.cl (congrArg Value.bool (zD3.2 fun i h1 h2 => hP i h1 h2 (by omega)).symm)
end Go.Proofs.YtggolnppckpdlaaGreat
set_option linter.unusedSimpArgs false
set_option linter.unusedVariables false
namespace Go.Proofs.YtggolnppckpdlaaGreat
open Go Go.Sk Go.RowKit
attribute [local irreducible] Go.Calls
def zEI (l : List Opn) (m : List Lt) : Bool := decide (l.length ≤ 128) && (decide (m.length ≤ 32) && (zGc l && (zFf m && ((List.range l.length).all (fun k => zBr (op_ l k)) && (decide (l.map (·.id)).Nodup && (List.range m.length).all (fun k => zCg (lt_ m k)))))))
theorem zB9 {l : List Opn} {m : List Lt} : zEI l m = true ↔ l.length ≤ 128 ∧ m.length ≤ 32 ∧ zGc l = true ∧ zFf m = true ∧ (∀ k, k < l.length → zBr (op_ l k) = true) ∧ (l.map (·.id)).Nodup ∧ (∀ k, k < m.length → zCg (lt_ m k) = true) := by
 unfold zEI
 simp only [Bool.and_eq_true, decide_eq_true_eq, List.all_eq_true, List.mem_range]
set_option maxHeartbeats 4000000 in
theorem c_oMay {F : zI} {a a2 : Option Addr} {cap cap2 : Nat} (l : List Opn) (m : List Lt) (w0 : World) (hF : Mem w0 F) (hs : SlA F 6 a l.length cap (opl l)) (ht : SlA F 4 a2 m.length cap2 (ltl m)) :
  Calls Tryz.prog 84 [.slice a l.length cap, .slice a2 m.length cap2].toArray w0 (Ret (.bool (zEI l m)) w0) := by
 have hs0 := hs
 obtain ⟨hnc, hcb, b0, off, cs, T, fr, hs⟩ := hs
 refine enter [.tmp 4] Tryz.func84 rfl Tryz.ntmps84 rfl rfl ?_
 have H := zE w0
 repeat' (first | refine y1 sg ?_ | refine y5 sg ?_ | (refine' y30 ent169 ?_ ?_; rotate_left; exact zPt l _ (H.memF hF) hs0; intro w hcl; replace H := H.ext hcl; clear hcl) | (refine' y30 ent171 ?_ ?_; rotate_left; exact zPu m _ (H.memF hF) ht; intro w hcl; replace H := H.ext hcl; clear hcl) | refine y13 ?_ | refine y14 ?_ | (refine y17 ?_ ?_; all_goals intro h) | (with_reducible first | apply zB | apply zD | apply zC | apply zG | apply zP) | refine zA ?_ | refine y21 ?_ | fail)
 all_goals first
  | (simp only [decide_eq_true_eq, decide_eq_false_iff_not, Bool.not_eq_true'] at *
     exact zO rfl H.cl (congrArg Value.bool (noB fun q => by
      obtain ⟨q1, q2, q3, q4, _⟩ := zB9.1 q
      first | omega | (cases q3.symm.trans ‹zGc l = false›) | (cases q4.symm.trans ‹zFf m = false›))))
  | skip
 rename_i hl1 hl2 _
 have hlen1 : l.length ≤ 128 := by have := of_decide_eq_false hl1; omega
 have hlen2 : m.length ≤ 32 := by have := of_decide_eq_false hl2; omega
 have hrO : zGc l = true := by simpa using h
 clear hl1 hl2 h
 refine zL rfl (fun h => ?_) (fun h => ?_)
 ·have hbad : zFf m = false := by simpa using h
  repeat' (first | refine y1 sg ?_ | (with_reducible first | apply zB | apply zD | apply zC | apply zG | apply zP) | refine zA ?_ | fail)
  exact zO rfl H.cl (congrArg Value.bool (noB fun q => by
   obtain ⟨_, _, _, q4, _⟩ := zB9.1 q
   cases q4.symm.trans hbad))
 have hrL : zFf m = true := by simpa using h
 clear h
 repeat' (first | refine y1 sg ?_ | (with_reducible first | apply zB | apply zD | apply zC | apply zF | apply zH) | refine zA ?_ | fail)
 refine zK [(4, 5), (7, 7), (28, 40)] (fun x : Gr => [(28, .int .i64 (x.k : Int)), (5, .slice x.a x.k x.cap)]) (fun x w => x.k ≤ l.length ∧ (∀ j, j < x.k → zBr (op_ l j) = true) ∧ Go.Sk.Own x.M 2 1 x.a x.k x.cap ((l.take x.k).map fun y => Value.int .i64 y.id) ∧ St w0 (x.M ++ []) w) (fun x => l.length - x.k) ⟨0, none, 0, []⟩ ⟨rfl, rfl, trivial⟩ ⟨Nat.zero_le _, fun j hj => absurd hj (Nat.not_lt_zero _), zAL _ _ _, H⟩ ?_
 clear H
 rintro ⟨k, ao, co, M⟩ gh w ⟨hk, hr, hO, H⟩
 simp only at hk hr hO H ⊢
 repeat' (first | refine y1 sg ?_ | (with_reducible first | apply zB | apply zD | apply zC) | refine zA ?_ | fail)
 refine zL rfl (fun h => ?_) (fun h => ?_)
 ·have hlt : k < l.length := by have := of_decide_eq_true h; omega
  clear h
  repeat' (first | refine y1 sg ?_ | refine y3 ?_ | refine y7 sg H ?_ | (refine y10 sg H ?_; intro b w H) | (refine y11 sg H ?_; intro w H) | (refine y40 sg (hs) ?_ ?_ ?_; (omega); (omega)) | (refine y42 sg (hs) ((H.memF hF)) ?_ ?_; (omega)) | (refine' y30 ent173 ?_ ?_; rotate_left; exact zN1 (op_ l k) _; intro w hcl; replace H := H.ext hcl; clear hcl) | (with_reducible first | apply zB | apply zD | apply zC | apply zF | apply zH) | refine zA ?_ | fail)
  refine zL rfl (fun h => ?_) (fun h => ?_)
  ·have hbad : zBr (op_ l k) = false := by simpa using h
   repeat' (first | refine y1 sg ?_ | (with_reducible first | apply zB | apply zD | apply zC | apply zG | apply zP | apply za) | refine zA ?_ | fail)
   exact zO rfl H.cl (congrArg Value.bool (noB fun q => by
    obtain ⟨_, _, _, _, q5, _⟩ := zB9.1 q
    cases (q5 k hlt).symm.trans hbad))
  ·have hok : zBr (op_ l k) = true := by simpa using h
   clear h
   repeat' (first | refine y1 sg ?_ | refine y3 ?_ | refine y7 sg H ?_ | (refine z14 sg H ?_; intro b w H) | (have hp := H.perm (zw M []); refine zm sg 1 8 (M := M) hp rfl rfl rfl rfl rfl rfl rfl rfl rfl rfl rfl hO (zAZ hp.mem (List.mem_append_right _ (List.Mem.head _))) rfl (zAd rfl) (by unfold maxLen; omega) (by omega) ?_; clear hp hO; intro ao co M w hO H; replace H := H.perm (zw M []).symm) | (with_reducible first | apply zB | apply zD | apply zH) | refine zA ?_ | fail)
   exact zM ⟨k + 1, ao, co, M⟩ rfl ⟨zV (by omega), rfl, trivial⟩ ⟨hlt, fun j hj => by
    rcases (show j < k ∨ j = k by have : j < k + 1 := hj; omega) with g | rfl
    ·exact hr j g
    ·exact hok, by show Go.Sk.Own M _ 1 ao (k + 1) co _; rw [← zGZ (fun y : Opn => Value.int .i64 y.id) l default hlt]; exact hO, (H.sub (List.sublist_cons_self _ _)).sub (List.sublist_cons_self _ _)⟩ (by show l.length - (k + 1) < l.length - k; omega)
 ·obtain rfl : k = l.length := by have := of_decide_eq_false h; omega
  clear h
  rw [List.take_length] at hO
  have hln : (l.map (·.id)).length = l.length := by simp
  have hO2 : Go.Sk.Own M 2 1 ao (l.map (·.id)).length co ((l.map (·.id)).map (Value.int .i64)) := by rw [hln]; simpa [Function.comp_def] using hO
  have hcmp := zIm (l.map (·.id))
  obtain ⟨S, hS⟩ : ∃ S, ((l.map (·.id)).mergeSort fun x y => decide (x ≤ y)) = S := ⟨_, rfl⟩
  have hSl : S.length = (l.map (·.id)).length := by rw [← hS]; exact (List.mergeSort_perm _ _).length_eq
  have hso := fun {w : World} => zPj (w0 := w0) (w := w) (M := M) (G := []) (a := ao) (cap := co) (l.map (·.id)) (by omega)
  rw [hS] at hcmp hso
  rw [hln] at hcmp hso hSl hO2
  have hall : (List.range l.length).all (fun k => zBr (op_ l k)) = true := List.all_eq_true.2 fun k hk => hr k (List.mem_range.1 hk)
  repeat' (first | refine y1 sg ?_ | refine y3 ?_ | (refine' y33 ent174 ?_ ?_; rotate_left 2; exact hso H hO2; rintro v N w ⟨rfl, M, rfl, hO⟩ H) | (with_reducible first | apply zB | apply zD | apply zC | apply zN | apply zW) | refine zA ?_ | refine y24 ?_ | fail)
  rw [← hSl] at hO
  have hco := fun {w : World} => zPk (w0 := w0) (w := w) (M := M) (G := []) (a := ao) (cap := co) S (by omega)
  rw [hSl] at hco hO
  repeat' (first | refine y1 sg ?_ | refine y5 sg ?_ | (refine' y33 ent175 ?_ ?_; rotate_left 2; exact hco H hO; rintro v N w ⟨rfl, a4, c4, rfl⟩ H) | (refine' y30 ent176 ?_ ?_; rotate_left; exact zGx (caps := []) (fun j => !zCg (lt_ m j)) _ (H.memF hF) ht ent177 (fun j hj w' _ => zPr (lt_ m j) w'); intro w hcl; replace H := H.ext hcl; clear hcl) | refine y13 ?_ | refine y14 ?_ | (refine y17 ?_ ?_; all_goals intro h) | (with_reducible first | apply zB | apply zD | apply zG) | fail)
  ·have hnd : (l.map (·.id)).Nodup := hcmp.1 (by have := eqI h; omega)
   refine zO rfl H.cl (congrArg Value.bool ?_)
   unfold zEI
   rw [hall, hrO, hrL, decide_eq_true hlen1, decide_eq_true hlen2, decide_eq_true hnd]
   simp only [Bool.true_and]
   rcases zAC (fun j => !zCg (lt_ m j)) m.length with ⟨j, hj, _, hp, h2⟩ | ⟨h1, h2⟩
   ·rw [h2, decide_eq_true (by omega)]
    have : (List.range m.length).all (fun k => zCg (lt_ m k)) = false := List.all_eq_false.2 ⟨j, List.mem_range.2 hj, by simpa using hp⟩
    rw [this]; rfl
   ·rw [h2, decide_eq_false (by omega)]
    have : (List.range m.length).all (fun k => zCg (lt_ m k)) = true := List.all_eq_true.2 fun k hk => by simpa using h1 k (List.mem_range.1 hk)
    rw [this]; rfl
  ·refine zO rfl H.cl (congrArg Value.bool (noB fun q => ?_))
   obtain ⟨_, _, _, _, _, q6, _⟩ := zB9.1 q
   have := neI h
   have := hcmp.2 q6
   omega
end Go.Proofs.YtggolnppckpdlaaGreat
