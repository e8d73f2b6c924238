/- The statement AuctionTurnedSaid, proved: for every auction and place the law answers true, and both read behind the call as they read before; no condition. -/
import Derived.Test.YtkcoemikglbomaaR1
import Derived.Test.YtkcoemikglbomaaL6
set_option linter.unusedSimpArgs false
set_option linter.unusedVariables false
namespace Go.Proofs.Ytkcoemikglbomaa
open Go Go.Sk Go.RowKit Go.ChangeShapes Go.WideShapes
theorem auctionTurned_calls {H : Type} {enc : TypeId × Value → H} {W : World} {args : Array Value} {ds : List (DataW H)} {p : List MemPlace}
    (hA : DataW.TrodAll enc Try.prog W 0 (fun _ => true) true [24, 3] args.toList ds p) (hv : ∀ (j : Nat) t v, [24, 3][j]? = some t → args[j]? = some v → Value.okWide Try.prog W .any 0 t v) :
    Calls Try.prog 7 args W (Ret (.bool true) W) := by
  obtain ⟨v0, v1, d0, d1, p0, p1, rfl, rfl, rfl, h0, h1⟩ := trodAll_two hA
  obtain ⟨x0, a0, cap0, rfl, hB0⟩ := arg_auc h0 (hv 0 _ _ rfl rfl)
  obtain ⟨x1, rfl, hB1⟩ := arg_int (sg.desc rfl rfl) h1 (hv 1 _ _ rfl rfl)
  exact c_Turned x0 x1 W (allF_mem W) (fun h => hB0 (by omega))
set_option maxRecDepth 100000 in
theorem auctionTurned_lifted (os : Os) (started : os.Started) (H : Type) (enc : TypeId × Value → H) :
    ReturnsInHanded {} Try.checked os 7 .any (Rows.auctionTurnedSpec.pre6 enc Try.prog Try.f7 Rows.auctionTurnedRow.domain false) (Rows.auctionTurnedSpec.post enc Try.prog Try.f7 false true false false) := by
  refine returnsInHanded_of_change (C := Try.checked) (by kernel_rfl) started (by kernel_rfl) Try.func7
    (ChangeSpec.witness6 (enc := enc) (C := Try.checked) false ⟨#[], #[.agg #[.int .i64 0, .int .i64 0, .int .i64 0, .bool false, .int .i64 0, .int .i64 0, .int .i64 0, .int .i64 0, .slice none 0 0], .int .i64 0], []⟩ 8 (by kernel_rfl) (by kernel_rfl) (by kernel_rfl) (by kernel_rfl)) ?_
  intro W base args ds gs before hval hW _ _
  have hA : DataW.TrodAll enc Try.prog W 0 (fun _ => true) true [24, 3] args.toList ds hW.choose := hW.choose_spec.choose_spec.1
  refine (auctionTurned_calls hA (fun j t v h1 h2 => ?_)).mono fun e W' ⟨he, hc⟩ => ?_
  · refine hval j t v (Eq.trans ?_ h1) h2
    rw [← Array.getElem?_toList]
    exact congrArg (fun l : List TypeId => l[j]?) (by kernel_rfl)
  · have hds : ∃ q, hW.choose = q := ⟨_, rfl⟩
    obtain ⟨q, hq⟩ := hds
    rw [hq] at hA
    refine ⟨_, he, law_post (tb := 4) (by kernel_rfl) rfl (by kernel_rfl) rfl (sg.desc rfl rfl) ?_ hW hc⟩
    clear hq
    obtain ⟨v0, v1, d0, d1, p0, p1, _, rfl, _⟩ := trodAll_two hA
    rfl
theorem auctionTurned_holds : Rows.AuctionTurnedSaid :=
  OpenClaim.holds_of_wide 7 Try.f7 rfl rfl rfl rfl rfl rfl rfl ⟨rfl, rfl, rfl, rfl, rfl⟩ rfl rfl rfl rfl rfl (by kernel_rfl) Try.func7 (by kernel_rfl)
    (of_decide_eq_true (by kernel_rfl)) (by unfold Func.isWrapper; first | (rw [if_pos (by decide +kernel)]; kernel_rfl) | (rw [if_neg (by decide +kernel)]; exact ⟨rfl, rfl⟩))
    (fun os started H enc _ => auctionTurned_lifted os started H enc)
end Go.Proofs.Ytkcoemikglbomaa
