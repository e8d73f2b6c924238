/- The money's layer, walked: numbers of 128 bits, sums. -/
import Derived.Test.YtkcoemikglbomaaBase
set_option linter.unusedSimpArgs false
set_option linter.unusedVariables false
namespace Go.Proofs.Ytkcoemikglbomaa
open Go Go.Sk Go.RowKit
/-- A number of 128 bits. -/
def wcells (z : Int) : List Value := [.int .i64 (z / 18446744073709551616), .int .u64 (z % 18446744073709551616)]
theorem ext_add64 (x y : Int) (hx : 0 ≤ x) (hy : 0 ≤ y) (w : World) : (callFunc 98 [Value.int .u64 x, Value.int .u64 y, Value.int .u64 0].toArray).run Try.prog w =
    .ok (.value (.tuple #[.int .u64 ((x + y + 0) % 18446744073709551616), .int .u64 ((x + y + 0) / 18446744073709551616)])) w := by
  rw [run_callFunc_extern (e := add64Entry) Try.func98 (by kernel_rfl) (by kernel_rfl) (by kernel_rfl) (by kernel_rfl)]
  rw [run_add64 x y 0 hx hy (Int.le_refl 0) (by omega)]
  rfl
theorem u64w (n : Int) : IntKind.u64.wrap n = n % 18446744073709551616 := rfl
theorem shr63 (n : Int) : n.fdiv (2 ^ min 63 IntKind.i64.bits) = n / 9223372036854775808 := by
  have : ((2 : Int) ^ min 63 IntKind.i64.bits) = 9223372036854775808 := by decide
  rw [this, Int.fdiv_eq_ediv_of_nonneg _ (by omega)]
theorem wide_high (z n : Int) (h1 : -1267650600228229401496703205376 ≤ z) (h2 : z ≤ 1267650600228229401496703205376) (h3 : -9223372036854775808 ≤ n) (h4 : n ≤ 9223372036854775807) :
    IntKind.i64.wrap (IntKind.i64.wrap (z / 18446744073709551616 + n.fdiv (2 ^ min 63 IntKind.i64.bits)) + IntKind.i64.wrap ((z % 18446744073709551616 + IntKind.u64.wrap n + 0) / 18446744073709551616)) = (z + n) / 18446744073709551616 := by
  rw [shr63, u64w, w64 (x := z / 18446744073709551616 + n / 9223372036854775808) (by omega) (by omega), w64 (x := (z % 18446744073709551616 + n % 18446744073709551616 + 0) / 18446744073709551616) (by omega) (by omega), w64 (by omega) (by omega)]
  omega
theorem wide_low (z n : Int) : (z % 18446744073709551616 + IntKind.u64.wrap n + 0) % 18446744073709551616 = (z + n) % 18446744073709551616 := by
  rw [u64w]; omega
theorem c_plus (z n : Int) (w0 : World) (h1 : -1267650600228229401496703205376 ≤ z) (h2 : z ≤ 1267650600228229401496703205376) (h3 : -9223372036854775808 ≤ n) (h4 : n ≤ 9223372036854775807) :
    Calls Try.prog 96 [.agg (wcells z).toArray, .int .i64 n].toArray w0 (Ret (.agg (wcells (z + n)).toArray) w0) := by
  refine enter [.cell 4 104] Try.func96 rfl Try.ntmps96 rfl rfl ?_
  have H := St.start w0
  repeat' (first | refine y1 sg ?_ | refine y2 sg ?_ | refine y3 ?_ | refine y4 ?_ | refine y5 sg ?_ | refine y6 sg ?_ | refine y7 sg H ?_ | refine y8 sg H ?_ | (refine y9 H ?_; intro b w H) | (refine y10 sg H ?_; intro b w H) | (refine y11 sg H ?_; intro w H) | refine y12 ?_ | ((with_reducible apply OX.val); exact rfl; exact rfl; exact Yq.ext rfl rfl (ext_add64 (z % 18446744073709551616) (IntKind.u64.wrap n) (by omega) (by rw [u64w]; omega))) | ((with_reducible apply QX.val); exact rfl; exact rfl; exact Yq.ext rfl rfl (ext_add64 (z % 18446744073709551616) (IntKind.u64.wrap n) (by omega) (by rw [u64w]; omega))) | refine y13 ?_ | refine y14 ?_ | refine y15 ?_ | refine y16 ?_ | (refine y17 ?_ ?_; all_goals intro h) | (refine y18 ?_ ?_; all_goals intro h) | with_reducible apply OW.app | with_reducible apply OW.app0 | with_reducible apply QW.app | with_reducible apply QW.app0 | with_reducible apply OW.nil | (with_reducible apply QW.nil; intro w hcl; replace H := H.ext hcl; clear hcl) | refine y19 ?_ | with_reducible apply thn_n | with_reducible apply CW.seq | with_reducible apply CW.region | refine y20 mixed ?_ | with_reducible apply CW.block | with_reducible apply CW.ret | with_reducible apply CW.exit | with_reducible apply CW.skip | with_reducible apply thn_r | with_reducible apply thn_e | with_reducible apply blk_n | with_reducible apply blk_r | refine y24 ?_ | refine y25 ?_ | refine y21 ?_ | refine y22 ?_ | (refine y23 ?_ ?_; all_goals intro h) | fail)
  refine retV (vs := [_]) ⟨rdvC sg rfl H.mem (List.Mem.head _) rfl rfl, trivial⟩ H.cl ?_
  rw [wide_high z n h1 h2 h3 h4, wide_low]
  rfl
/-- The sum of the first numbers. -/
def sumTo (l : List Int) : Nat → Int
  | 0 => 0
  | k + 1 => sumTo l k + l.getD k 0
def iel (l : List Int) (j : Nat) : List Value := [.int .i64 (l.getD j 0)]
def Ints (F : Frag) (a : Option Addr) (cap : Nat) (l : List Int) : Prop := SlA F 1 a l.length cap (iel l)
def I64 (l : List Int) : Prop := ∀ j, -9223372036854775808 ≤ l.getD j 0 ∧ l.getD j 0 ≤ 9223372036854775807
theorem sumTo_bd (l : List Int) (h : I64 l) (k : Nat) : -9223372036854775808 * k ≤ sumTo l k ∧ sumTo l k ≤ 9223372036854775807 * k := by
  induction k with
  | zero => exact ⟨by simp [sumTo], by simp [sumTo]⟩
  | succ k ih => have := h k; simp only [sumTo]; constructor <;> omega
/-- A sum that is not too far. -/
def toldF (z : Int) : Int × Int := if z > 4611686018427387904 ∨ z < -4611686018427387904 then (0, 41) else (z, 0)
theorem toldF_far (z : Int) (h : ¬ (-9223372036854775808 ≤ z ∧ z ≤ 9223372036854775807)) : toldF z = (0, 41) := by
  rw [toldF, if_pos (by omega)]
theorem vlow (z : Int) : (z / 18446744073709551616 = (IntKind.i64.wrap (z % 18446744073709551616)).fdiv (2 ^ min 63 IntKind.i64.bits) ↔ -9223372036854775808 ≤ z ∧ z ≤ 9223372036854775807) ∧
    ((-9223372036854775808 ≤ z ∧ z ≤ 9223372036854775807) → IntKind.i64.wrap (z % 18446744073709551616) = z) := by
  rw [shr63, IntKind.wrap_i64]
  constructor
  · constructor <;> intro h <;> omega
  · intro h; omega
theorem c_told (z : Int) (w0 : World) :
    Calls Try.prog 97 [.agg (wcells z).toArray].toArray w0 (Ret (.tuple #[.int .i64 (toldF z).1, .int .i64 (toldF z).2]) w0) := by
  refine enter [.tmp 2, .tmp 3] Try.func97 rfl Try.ntmps97 rfl rfl ?_
  have H := St.start w0
  repeat' (first | refine y1 sg ?_ | refine y2 sg ?_ | refine y3 ?_ | refine y4 ?_ | refine y5 sg ?_ | refine y6 sg ?_ | refine y7 sg H ?_ | refine y8 sg H ?_ | (refine y9 H ?_; intro b w H) | (refine y10 sg H ?_; intro b w H) | (refine y11 sg H ?_; intro w H) | refine y12 ?_ | refine y13 ?_ | refine y14 ?_ | refine y15 ?_ | refine y16 ?_ | (refine y17 ?_ ?_; all_goals intro h) | (refine y18 ?_ ?_; all_goals intro h) | with_reducible apply OW.app | with_reducible apply OW.app0 | with_reducible apply QW.app | with_reducible apply QW.app0 | with_reducible apply OW.nil | (with_reducible apply QW.nil; intro w hcl; replace H := H.ext hcl; clear hcl) | refine y19 ?_ | with_reducible apply thn_n | with_reducible apply CW.seq | with_reducible apply CW.region | refine y20 mixed ?_ | with_reducible apply CW.block | with_reducible apply CW.ret | with_reducible apply CW.exit | with_reducible apply CW.skip | with_reducible apply thn_r | with_reducible apply thn_e | with_reducible apply blk_n | with_reducible apply blk_r | refine y24 ?_ | refine y25 ?_ | refine y21 ?_ | refine y22 ?_ | (refine y23 ?_ ?_; all_goals intro h) | fail)
  · rw [toldF_far z (fun h1 => by rw [(vlow z).1.2 h1] at h; simp at h)]; exact ret2 rfl rfl H.cl rfl
  all_goals
    have hz := (vlow z).1.1 (by simpa using ‹(z / 18446744073709551616 != (IntKind.i64.wrap (z % 18446744073709551616)).fdiv (2 ^ min 63 IntKind.i64.bits)) = false›)
    have hv := (vlow z).2 hz
    simp only [hv] at *
  · exact ret2 rfl rfl H.cl (by rw [toldF, if_pos (.inl (of_decide_eq_true h))])
  · exact ret2 rfl rfl H.cl (by rw [toldF, if_pos (.inr (of_decide_eq_true h))])
  · refine ret2 rfl rfl H.cl ?_
    rw [toldF, if_neg (fun hc => hc.elim (fun h3 => absurd h3 (of_decide_eq_false ‹decide (z > 4611686018427387904) = false›)) (fun h3 => absurd h3 (of_decide_eq_false ‹decide (z < -4611686018427387904) = false›)))]
theorem c_Sum {a : Option Addr} {cap : Nat} (l : List Int) (hl : I64 l) (hlen : l.length ≤ 1048576) {F : Frag} (w0 : World) (hF : Mem w0 F) (hs : Ints F a cap l) :
    Calls Try.prog 95 [.slice a l.length cap].toArray w0 (Ret (.tuple #[.int .i64 (toldF (sumTo l l.length)).1, .int .i64 (toldF (sumTo l l.length)).2]) w0) := by
  obtain ⟨hn, hc, b0, off, cs, T, fr, hs⟩ := hs
  refine enter [.tmp 2, .tmp 3] Try.func95 rfl Try.ntmps95 rfl rfl ?_
  have H := St.start w0
  repeat' (first | refine y1 sg ?_ | refine y2 sg ?_ | refine y3 ?_ | refine y4 ?_ | refine y5 sg ?_ | refine y6 sg ?_ | refine y7 sg H ?_ | refine y8 sg H ?_ | (refine y9 H ?_; intro b w H) | (refine y10 sg H ?_; intro b w H) | (refine y11 sg H ?_; intro w H) | refine y12 ?_ | refine y13 ?_ | refine y14 ?_ | refine y15 ?_ | refine y16 ?_ | (refine y17 ?_ ?_; all_goals intro h) | (refine y18 ?_ ?_; all_goals intro h) | with_reducible apply OW.app | with_reducible apply OW.app0 | with_reducible apply QW.app | with_reducible apply QW.app0 | with_reducible apply OW.nil | (with_reducible apply QW.nil; intro w hcl; replace H := H.ext hcl; clear hcl) | refine y19 ?_ | with_reducible apply thn_n | with_reducible apply CW.seq | with_reducible apply CW.region | refine y20 mixed ?_ | with_reducible apply CW.block | with_reducible apply CW.ret | with_reducible apply CW.exit | with_reducible apply CW.skip | with_reducible apply thn_r | with_reducible apply thn_e | with_reducible apply blk_n | with_reducible apply blk_r | refine y24 ?_ | refine y25 ?_ | refine y21 ?_ | refine y22 ?_ | fail)
  refine CW.loopI [(6, 6), (9, 16)] (fun k : Nat => [(9, .int .i64 (k : Int))]) (fun k w => k ≤ l.length ∧ St w0 [cb _ (wcells (sumTo l k)) 104] w) (fun k => l.length - k) 0 ⟨rfl, trivial⟩ ⟨Nat.zero_le _, H⟩ ?_
  clear H
  rintro k g w ⟨hk, H⟩
  have hb := sumTo_bd l hl k
  have hb2 := hl k
  repeat' (first | refine y1 sg ?_ | refine y2 sg ?_ | refine y3 ?_ | refine y4 ?_ | refine y5 sg ?_ | refine y6 sg ?_ | refine y7 sg H ?_ | refine y8 sg H ?_ | (refine y9 H ?_; intro b w H) | (refine y10 sg H ?_; intro b w H) | (refine y11 sg H ?_; intro w H) | refine y12 ?_ | refine y13 ?_ | refine y14 ?_ | refine y15 ?_ | refine y16 ?_ | (refine y17 ?_ ?_; all_goals intro h) | (refine y18 ?_ ?_; all_goals intro h) | with_reducible apply OW.app | with_reducible apply OW.app0 | with_reducible apply QW.app | with_reducible apply QW.app0 | with_reducible apply OW.nil | (with_reducible apply QW.nil; intro w hcl; replace H := H.ext hcl; clear hcl) | refine y19 ?_ | with_reducible apply thn_n | with_reducible apply CW.seq | with_reducible apply CW.region | refine y20 mixed ?_ | with_reducible apply CW.block | with_reducible apply CW.ret | with_reducible apply CW.exit | with_reducible apply CW.skip | with_reducible apply thn_r | with_reducible apply thn_e | with_reducible apply blk_n | with_reducible apply blk_r | refine y24 ?_ | refine y25 ?_ | refine y21 ?_ | refine y22 ?_ | fail)
  refine CW.cond rfl (fun h => ?_) (fun h => ?_)
  · have hlt : k < l.length := by simpa using h
    repeat' (first | refine y1 sg ?_ | refine y2 sg ?_ | refine y3 ?_ | refine y4 ?_ | refine y5 sg ?_ | refine y6 sg ?_ | refine y7 sg H ?_ | refine y8 sg H ?_ | (refine y9 H ?_; intro b w H) | (refine y10 sg H ?_; intro b w H) | (refine y11 sg H ?_; intro w H) | refine y12 ?_ | (refine y40 sg (hs) ?_ ?_ ?_; omega; omega) | (refine y41 sg (hs) ?_ ?_ ?_; omega; omega) | ((with_reducible apply OX.val); exact rfl; exact rfl; exact Yq.loadB1 sg hs (H.memF hF) rfl rfl rfl rfl hlt rfl) | ((with_reducible apply QX.val); exact rfl; exact rfl; exact Yq.loadB1 sg hs (H.memF hF) rfl rfl rfl rfl hlt rfl) | (refine' y30 ent96 ?_ ?_; rotate_left; exact c_plus (sumTo l k) (l.getD k 0) _ (by omega) (by omega) hb2.1 hb2.2; intro w hcl; replace H := H.ext hcl; clear hcl) | (refine' y31 ent96 ?_ ?_; rotate_left; exact (fun _ hcl => c_plus (sumTo l k) (l.getD k 0) _ (by omega) (by omega) hb2.1 hb2.2)) | refine y13 ?_ | refine y14 ?_ | refine y15 ?_ | refine y16 ?_ | (refine y17 ?_ ?_; all_goals intro h) | (refine y18 ?_ ?_; all_goals intro h) | with_reducible apply OW.app | with_reducible apply OW.app0 | with_reducible apply QW.app | with_reducible apply QW.app0 | with_reducible apply OW.nil | (with_reducible apply QW.nil; intro w hcl; replace H := H.ext hcl; clear hcl) | refine y19 ?_ | with_reducible apply thn_n | with_reducible apply CW.seq | with_reducible apply CW.region | refine y20 mixed ?_ | with_reducible apply CW.block | with_reducible apply CW.ret | with_reducible apply CW.exit | with_reducible apply CW.skip | with_reducible apply thn_r | with_reducible apply thn_e | with_reducible apply blk_n | with_reducible apply blk_r | refine y24 ?_ | refine y25 ?_ | refine y21 ?_ | refine y22 ?_ | (refine y23 ?_ ?_; all_goals intro h) | fail)
    refine Again.mk (k + 1) rfl ⟨vsucc (by omega), trivial⟩ ⟨hlt, H⟩ (by omega)
  · have hkn : k = l.length := by simp at h; omega
    subst hkn
    repeat' (first | refine y1 sg ?_ | refine y2 sg ?_ | refine y3 ?_ | refine y4 ?_ | refine y5 sg ?_ | refine y6 sg ?_ | refine y7 sg H ?_ | refine y8 sg H ?_ | (refine y9 H ?_; intro b w H) | (refine y10 sg H ?_; intro b w H) | (refine y11 sg H ?_; intro w H) | refine y12 ?_ | (refine' y30 ent97 ?_ ?_; rotate_left; exact c_told (sumTo l l.length) _; intro w hcl; replace H := H.ext hcl; clear hcl) | (refine' y31 ent97 ?_ ?_; rotate_left; exact (fun _ hcl => c_told (sumTo l l.length) _)) | refine y13 ?_ | refine y14 ?_ | refine y15 ?_ | refine y16 ?_ | (refine y17 ?_ ?_; all_goals intro h) | (refine y18 ?_ ?_; all_goals intro h) | with_reducible apply OW.app | with_reducible apply OW.app0 | with_reducible apply QW.app | with_reducible apply QW.app0 | with_reducible apply OW.nil | (with_reducible apply QW.nil; intro w hcl; replace H := H.ext hcl; clear hcl) | refine y19 ?_ | with_reducible apply thn_n | with_reducible apply CW.seq | with_reducible apply CW.region | refine y20 mixed ?_ | with_reducible apply CW.block | with_reducible apply CW.ret | with_reducible apply CW.exit | with_reducible apply CW.skip | with_reducible apply thn_r | with_reducible apply thn_e | with_reducible apply blk_n | with_reducible apply blk_r | refine y24 ?_ | refine y25 ?_ | refine y21 ?_ | refine y22 ?_ | (refine y23 ?_ ?_; all_goals intro h) | fail)
    exact ret2 rfl rfl H.cl rfl
def addF (a b : Int) : Int × Int := toldF (a + b)
theorem Ints.two {F : Frag} {b : Nat} {x y : Int} {T : TypeId} {fr : Nat × Nat} (h : (b, Obj.cells [Value.int .i64 x, Value.int .i64 y].toArray T fr) ∈ F) : Ints F (some ⟨b, 0, none⟩) 2 [x, y] :=
  ⟨Nat.le_refl _, (by show 2 ≤ 140737488355328; omega), b, 0, _, T, fr, fun _ => ⟨rfl, h, fun j hj => by
    have : j = 0 ∨ j = 1 := by simp at hj; omega
    rcases this with rfl | rfl <;> exact ⟨by simp, rfl⟩⟩⟩
theorem c_Add (x y : Int) (w0 : World) (h1 : -9223372036854775808 ≤ x) (h2 : x ≤ 9223372036854775807) (h3 : -9223372036854775808 ≤ y) (h4 : y ≤ 9223372036854775807) :
    Calls Try.prog 94 [.int .i64 x, .int .i64 y].toArray w0 (Ret (.tuple #[.int .i64 (addF x y).1, .int .i64 (addF x y).2]) w0) := by
  have hI : I64 [x, y] := by
    intro j
    rcases j with _ | _ | j
    · exact ⟨h1, h2⟩
    · exact ⟨h3, h4⟩
    · simp
  have e : sumTo [x, y] [x, y].length = x + y := by simp [sumTo]
  refine enter [.tmp 4, .tmp 5] Try.func94 rfl Try.ntmps94 rfl rfl ?_
  have H := St.start w0
  repeat' (first | refine y1 sg ?_ | refine y2 sg ?_ | refine y3 ?_ | refine y4 ?_ | refine y5 sg ?_ | refine y6 sg ?_ | refine y7 sg H ?_ | refine y8 sg H ?_ | (refine y9 H ?_; intro b w H) | (refine y10 sg H ?_; intro b w H) | (refine y11 sg H ?_; intro w H) | refine y12 ?_ | ((with_reducible apply OX.buildS sg H); exact rfl; exact rfl; exact rfl; exact rfl; exact rfl; exact rfl; exact rfl; exact rfl; exact rfl; exact rfl; intro b w H _) | (refine' y30 ent95 ?_ ?_; rotate_left; exact c_Sum [x, y] hI (by show 2 ≤ 1048576; omega) _ (H.mem) (Ints.two (List.Mem.head _)); intro w hcl; replace H := H.ext hcl; clear hcl) | (refine' y31 ent95 ?_ ?_; rotate_left; exact (fun _ hcl => c_Sum [x, y] hI (by show 2 ≤ 1048576; omega) _ ((H.ext hcl).mem) (Ints.two (List.Mem.head _)))) | refine y13 ?_ | refine y14 ?_ | refine y15 ?_ | refine y16 ?_ | (refine y17 ?_ ?_; all_goals intro h) | (refine y18 ?_ ?_; all_goals intro h) | with_reducible apply OW.app | with_reducible apply OW.app0 | with_reducible apply QW.app | with_reducible apply QW.app0 | with_reducible apply OW.nil | (with_reducible apply QW.nil; intro w hcl; replace H := H.ext hcl; clear hcl) | refine y19 ?_ | with_reducible apply thn_n | with_reducible apply CW.seq | with_reducible apply CW.region | refine y20 mixed ?_ | with_reducible apply CW.block | with_reducible apply CW.ret | with_reducible apply CW.exit | with_reducible apply CW.skip | with_reducible apply thn_r | with_reducible apply thn_e | with_reducible apply blk_n | with_reducible apply blk_r | refine y24 ?_ | refine y25 ?_ | refine y21 ?_ | refine y22 ?_ | (refine y23 ?_ ?_; all_goals intro h) | fail)
  refine ret2 rfl rfl H.cl ?_
  rw [e]; rfl
end Go.Proofs.Ytkcoemikglbomaa
