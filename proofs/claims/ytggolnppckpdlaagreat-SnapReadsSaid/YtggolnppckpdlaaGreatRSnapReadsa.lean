/- The statement SnapReadsSaid, proved: for every bytes the law answers true, and all read behind the call as they read before; no condition. -/
import Derived.Test.YtggolnppckpdlaaGreatChecked
import Derived.Test.YtggolnppckpdlaaGreatRows
import Derived.Test.YtggolnppckpdlaaGreatR37
import Derived.Test.YtggolnppckpdlaaGreatR51
set_option linter.unusedSimpArgs false
set_option linter.unusedVariables false
namespace Go.Proofs.YtggolnppckpdlaaGreat
open Go Go.Sk Go.RowKit Go.ChangeShapes Go.WideShapes
set_option maxRecDepth 100000 in
theorem snapReads_calls {H : Type} {enc : TypeId × Value → H} {W : World} {args : Array Value} {ds : List (DataW H)} {p : List MemPlace}
  (hA : DataW.TrodAll enc Tryz.prog W 0 (fun _ => true) true [9] args.toList ds p) (hz : ∀ (j : Nat) t d, ([9] : List TypeId)[j]? = some t → ds[j]? = some d → ∀ n ∈ d.weights Tryz.prog t, n ≤ reachBytes) (hv : ∀ (j : Nat) t v, ([9] : List TypeId)[j]? = some t → args[j]? = some v → Value.okWide Tryz.prog W .any 0 t v) :
  Calls Tryz.prog 5 args W (Ret (.bool true) W) := by
 obtain ⟨v0, d0, rfl, rfl, h0⟩ := trodAll_one hA
 obtain ⟨x0, rfl, hB0⟩ := zQd (sg.desc rfl rfl) h0 (hz 0 _ _ rfl rfl) (hv 0 _ _ rfl rfl)
 exact zQ6 x0 W
set_option maxRecDepth 100000 in
theorem snapReads_lifted (os : Os) (started : os.Started) (H : Type) (enc : TypeId × Value → H) :
  ReturnsInHanded {} Tryz.checked os 5 .any (Rows.snapReadsSpec.pre6 enc Tryz.prog Tryz.f5 Rows.snapReadsRow.domain false) (Rows.snapReadsSpec.post enc Tryz.prog Tryz.f5 false true false false) := by
 refine returnsInHanded_of_change_sized (C := Tryz.checked) (by kernel_rfl) started (by kernel_rfl) Tryz.func5
  (ChangeSpec.witness6 (enc := enc) (C := Tryz.checked) false ⟨#[], #[.string ⟨#[]⟩], []⟩ 8 (by kernel_rfl) (by kernel_rfl) (by kernel_rfl) (by kernel_rfl)) ?_
 intro W base args ds gs before hval hW _ hsz _
 have hA : DataW.TrodAll enc Tryz.prog W 0 (fun _ => true) true [9] args.toList ds hW.choose := hW.choose_spec.choose_spec.1
 refine (snapReads_calls hA (fun j t d h1 h2 => zMj hsz (Eq.trans ?_ h1) h2) (fun j t v h1 h2 => ?_)).mono fun e W' ⟨he, hc⟩ => ?_
 ·exact congrArg (fun l : List TypeId => l[j]?) (by kernel_rfl)
 ·refine hval j t v (Eq.trans ?_ h1) h2
  rw [← Array.getElem?_toList]
  exact congrArg (fun l : List TypeId => l[j]?) (by kernel_rfl)
 ·have hds : ∃ q, hW.choose = q := ⟨_, rfl⟩
  obtain ⟨q, hq⟩ := hds
  rw [hq] at hA
  refine ⟨_, he, zMi (tb := 4) (by kernel_rfl) rfl (by kernel_rfl) rfl (sg.desc rfl rfl) ?_ hW hc⟩
  clear hq
  obtain ⟨v0, d0, _, rfl, _⟩ := trodAll_one hA
  rfl
end Go.Proofs.YtggolnppckpdlaaGreat
