/- The statement AuctionNamesSaid, proved: the law answers true; no parameter, no condition. -/
import Derived.Test.YtkcoemikglbomaaR1
import Derived.Test.YtkcoemikglbomaaL9
set_option linter.unusedSimpArgs false
set_option linter.unusedVariables false
namespace Go.Proofs.Ytkcoemikglbomaa
open Go Go.Sk Go.RowKit Go.ChangeShapes Go.WideShapes
theorem auctionNames_calls {H : Type} {enc : TypeId × Value → H} {W : World} {args : Array Value} {ds : List (DataW H)} {p : List MemPlace}
    (hA : DataW.TrodAll enc Try.prog W 0 (fun _ => true) true [] args.toList ds p) (hv : ∀ (j : Nat) t v, [][j]? = some t → args[j]? = some v → Value.okWide Try.prog W .any 0 t v) :
    Calls Try.prog 9 args W (Ret (.bool true) W) := by
  obtain ⟨rfl, rfl, rfl⟩ := trodAll_none hA
  
  exact c_Names W
set_option maxRecDepth 100000 in
theorem auctionNames_lifted (os : Os) (started : os.Started) (H : Type) (enc : TypeId × Value → H) :
    ReturnsInHanded {} Try.checked os 9 .any (Rows.auctionNamesSpec.pre6 enc Try.prog Try.f9 Rows.auctionNamesRow.domain false) (Rows.auctionNamesSpec.post enc Try.prog Try.f9 false true false false) := by
  refine returnsInHanded_of_change (C := Try.checked) (by kernel_rfl) started (by kernel_rfl) Try.func9
    (ChangeSpec.witness6 (enc := enc) (C := Try.checked) false ⟨#[], #[], []⟩ 8 (by kernel_rfl) (by kernel_rfl) (by kernel_rfl) (by kernel_rfl)) ?_
  intro W base args ds gs before hval hW _ _
  have hA : DataW.TrodAll enc Try.prog W 0 (fun _ => true) true [] args.toList ds hW.choose := hW.choose_spec.choose_spec.1
  refine (auctionNames_calls hA (fun j t v h1 h2 => ?_)).mono fun e W' ⟨he, hc⟩ => ?_
  · refine hval j t v (Eq.trans ?_ h1) h2
    rw [← Array.getElem?_toList]
    exact congrArg (fun l : List TypeId => l[j]?) (by kernel_rfl)
  · have hds : ∃ q, hW.choose = q := ⟨_, rfl⟩
    obtain ⟨q, hq⟩ := hds
    rw [hq] at hA
    refine ⟨_, he, law_post (tb := 4) (by kernel_rfl) rfl (by kernel_rfl) rfl (sg.desc rfl rfl) ?_ hW hc⟩
    clear hq
    obtain ⟨_, rfl, _⟩ := trodAll_none hA
    rfl
theorem auctionNames_holds : Rows.AuctionNamesSaid :=
  OpenClaim.holds_of_wide 9 Try.f9 rfl rfl rfl rfl rfl rfl rfl ⟨rfl, rfl, rfl, rfl, rfl⟩ rfl rfl rfl rfl rfl (by kernel_rfl) Try.func9 (by kernel_rfl)
    (of_decide_eq_true (by kernel_rfl)) (by unfold Func.isWrapper; first | (rw [if_pos (by decide +kernel)]; kernel_rfl) | (rw [if_neg (by decide +kernel)]; exact ⟨rfl, rfl⟩))
    (fun os started H enc _ => auctionNames_lifted os started H enc)
end Go.Proofs.Ytkcoemikglbomaa
