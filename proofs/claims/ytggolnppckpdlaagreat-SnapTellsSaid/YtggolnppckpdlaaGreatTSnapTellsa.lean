/- The statement SnapTellsSaid, proved: for every state, projections and number the law answers true, and all read behind the call as they read before; no condition. -/
import Derived.Test.YtggolnppckpdlaaGreatChecked
import Derived.Test.YtggolnppckpdlaaGreatRows
import Derived.Test.YtggolnppckpdlaaGreatT38
import Derived.Test.YtggolnppckpdlaaGreatT52
set_option linter.unusedSimpArgs false
set_option linter.unusedVariables false
namespace Go.Proofs.YtggolnppckpdlaaGreat
open Go Go.Sk Go.RowKit Go.ChangeShapes Go.WideShapes
set_option maxRecDepth 100000 in
theorem snapTells_calls {H : Type} {enc : TypeId × Value → H} {W : World} {args : Array Value} {ds : List (DataW H)} {p : List MemPlace}
  (hA : DataW.TrodAll enc Tryz.prog W 0 (fun _ => true) true [29, 35, 2] args.toList ds p) (hz : ∀ (j : Nat) t d, ([29, 35, 2] : List TypeId)[j]? = some t → ds[j]? = some d → ∀ n ∈ d.weights Tryz.prog t, n ≤ reachBytes) (hv : ∀ (j : Nat) t v, ([29, 35, 2] : List TypeId)[j]? = some t → args[j]? = some v → Value.okWide Tryz.prog W .any 0 t v) :
  Calls Tryz.prog 4 args W (Ret (.bool true) W) := by
 obtain ⟨v0, v1, v2, d0, d1, d2, p0, p1, p2, rfl, rfl, rfl, h0, h1, h2⟩ := trodAll_three hA
 obtain ⟨x0, q0, rfl, hM0, hA0⟩ := zQQ h0 (hz 0 _ _ rfl rfl) (hv 0 _ _ rfl rfl)
 obtain ⟨x1, q1, rfl, hM1, hA1⟩ := zQR h1 (hz 1 _ _ rfl rfl) (hv 1 _ _ rfl rfl)
 obtain ⟨x2, rfl, hB2⟩ := zQS (sg.desc rfl rfl) h2 (hv 2 _ _ rfl rfl)
 exact zQh x0 q0 x1 q1 x2 hA0 hA1 W (zMg W) hM0 hM1
set_option maxRecDepth 100000 in
theorem snapTells_lifted (os : Os) (started : os.Started) (H : Type) (enc : TypeId × Value → H) :
  ReturnsInHanded {} Tryz.checked os 4 .any (Rows.snapTellsSpec.pre6 enc Tryz.prog Tryz.f4 Rows.snapTellsRow.domain false) (Rows.snapTellsSpec.post enc Tryz.prog Tryz.f4 false true false false) := by
 refine returnsInHanded_of_change_sized (C := Tryz.checked) (by kernel_rfl) started (by kernel_rfl) Tryz.func4
  (ChangeSpec.witness6 (enc := enc) (C := Tryz.checked) false ⟨#[], #[.agg #[.int .i64 0, .int .i64 0, .int .i64 0, .int .i64 0, .slice none 0 0, .slice none 0 0, .slice none 0 0, .slice none 0 0, .slice none 0 0], .agg #[.slice none 0 0, .slice none 0 0, .slice none 0 0, .slice none 0 0], .int .i64 0], []⟩ 8 (by kernel_rfl) (by kernel_rfl) (by kernel_rfl) (by kernel_rfl)) ?_
 intro W base args ds gs before hval hW _ hsz _
 have hA : DataW.TrodAll enc Tryz.prog W 0 (fun _ => true) true [29, 35, 2] args.toList ds hW.choose := hW.choose_spec.choose_spec.1
 refine (snapTells_calls hA (fun j t d h1 h2 => zMh hsz (Eq.trans ?_ h1) h2) (fun j t v h1 h2 => ?_)).mono fun e W' ⟨he, hc⟩ => ?_
 ·exact congrArg (fun l : List TypeId => l[j]?) (by kernel_rfl)
 ·refine hval j t v (Eq.trans ?_ h1) h2
  rw [← Array.getElem?_toList]
  exact congrArg (fun l : List TypeId => l[j]?) (by kernel_rfl)
 ·have hds : ∃ q, hW.choose = q := ⟨_, rfl⟩
  obtain ⟨q, hq⟩ := hds
  rw [hq] at hA
  refine ⟨_, he, zMf (tb := 4) (by kernel_rfl) rfl (by kernel_rfl) rfl (sg.desc rfl rfl) ?_ hW hc⟩
  clear hq
  obtain ⟨v0, v1, v2, d0, d1, d2, p0, p1, p2, _, rfl, _⟩ := trodAll_three hA
  rfl
end Go.Proofs.YtggolnppckpdlaaGreat
