/- The statement SnapNamesSaid, proved: the law answers true, and all read behind the call as they read before; no condition (a closed statement). -/
import Derived.Test.YtggolnppckpdlaaGreatChecked
import Derived.Test.YtggolnppckpdlaaGreatRows
import Derived.Test.YtggolnppckpdlaaGreatQ48
import Derived.Test.YtggolnppckpdlaaGreatQ51
set_option linter.unusedSimpArgs false
set_option linter.unusedVariables false
namespace Go.Proofs.YtggolnppckpdlaaGreat
open Go Go.Sk Go.RowKit Go.ChangeShapes Go.WideShapes
set_option maxRecDepth 100000 in
theorem snapNames_calls {H : Type} {enc : TypeId × Value → H} {W : World} {args : Array Value} {ds : List (DataW H)} {p : List MemPlace}
    (hA : DataW.TrodAll enc Tryz.prog W 0 (fun _ => true) true [] args.toList ds p) (hz : ∀ (j : Nat) t d, ([] : List TypeId)[j]? = some t → ds[j]? = some d → ∀ n ∈ d.weights Tryz.prog t, n ≤ reachBytes) (hv : ∀ (j : Nat) t v, ([] : List TypeId)[j]? = some t → args[j]? = some v → Value.okWide Tryz.prog W .any 0 t v) :
    Calls Tryz.prog 3 args W (Ret (.bool true) W) := by
  obtain ⟨rfl, rfl, rfl⟩ := trodAll_none hA
  
  exact c_Names W
set_option maxRecDepth 100000 in
theorem snapNames_lifted (os : Os) (started : os.Started) (H : Type) (enc : TypeId × Value → H) :
    ReturnsInHanded {} Tryz.checked os 3 .any (Rows.snapNamesSpec.pre6 enc Tryz.prog Tryz.f3 Rows.snapNamesRow.domain false) (Rows.snapNamesSpec.post enc Tryz.prog Tryz.f3 false true false false) := by
  refine returnsInHanded_of_change_sized (C := Tryz.checked) (by kernel_rfl) started (by kernel_rfl) Tryz.func3
    (ChangeSpec.witness6 (enc := enc) (C := Tryz.checked) false ⟨#[], #[], []⟩ 8 (by kernel_rfl) (by kernel_rfl) (by kernel_rfl) (by kernel_rfl)) ?_
  intro W base args ds gs before hval hW _ hsz _
  have hA : DataW.TrodAll enc Tryz.prog W 0 (fun _ => true) true [] args.toList ds hW.choose := hW.choose_spec.choose_spec.1
  refine (snapNames_calls hA (fun j t d h1 h2 => sized_at hsz (Eq.trans ?_ h1) h2) (fun j t v h1 h2 => ?_)).mono fun e W' ⟨he, hc⟩ => ?_
  · exact congrArg (fun l : List TypeId => l[j]?) (by kernel_rfl)
  · refine hval j t v (Eq.trans ?_ h1) h2
    rw [← Array.getElem?_toList]
    exact congrArg (fun l : List TypeId => l[j]?) (by kernel_rfl)
  · have hds : ∃ q, hW.choose = q := ⟨_, rfl⟩
    obtain ⟨q, hq⟩ := hds
    rw [hq] at hA
    refine ⟨_, he, law_post (tb := 4) (by kernel_rfl) rfl (by kernel_rfl) rfl (sg.desc rfl rfl) ?_ hW hc⟩
    clear hq
    obtain ⟨_, rfl, _⟩ := trodAll_none hA
    rfl
end Go.Proofs.YtggolnppckpdlaaGreat
