/- The statement AuctionWinsSaid, proved: for every auctions, one more, and a clock the law answers true, and all read behind the call as they read before; no condition. -/
import Derived.Test.YtkcoemikglbomaaR1
import Derived.Test.YtkcoemikglbomaaL10
set_option linter.unusedSimpArgs false
set_option linter.unusedVariables false
namespace Go.Proofs.Ytkcoemikglbomaa
open Go Go.Sk Go.RowKit Go.ChangeShapes Go.WideShapes
theorem auctionWins_calls {H : Type} {enc : TypeId × Value → H} {W : World} {args : Array Value} {ds : List (DataW H)} {p : List MemPlace}
    (hA : DataW.TrodAll enc Try.prog W 0 (fun _ => true) true [39, 24, 2] args.toList ds p) (hv : ∀ (j : Nat) t v, [39, 24, 2][j]? = some t → args[j]? = some v → Value.okWide Try.prog W .any 0 t v) :
    Calls Try.prog 5 args W (Ret (.bool true) W) := by
  obtain ⟨v0, v1, v2, d0, d1, d2, p0, p1, p2, rfl, rfl, rfl, h0, h1, h2⟩ := trodAll_three hA
  obtain ⟨x0, ad0, a0, cap0, rfl, hB0⟩ := arg_aucs h0 (hv 0 _ _ rfl rfl)
  obtain ⟨x1, a1, cap1, rfl, hB1⟩ := arg_auc h1 (hv 1 _ _ rfl rfl)
  obtain ⟨x2, rfl, hB2⟩ := arg_int (sg.desc rfl rfl) h2 (hv 2 _ _ rfl rfl)
  exact c_WinsLaw x0 ad0 x1 x2 W hB0 hB1
set_option maxRecDepth 100000 in
theorem auctionWins_lifted (os : Os) (started : os.Started) (H : Type) (enc : TypeId × Value → H) :
    ReturnsInHanded {} Try.checked os 5 .any (Rows.auctionWinsSpec.pre6 enc Try.prog Try.f5 Rows.auctionWinsRow.domain false) (Rows.auctionWinsSpec.post enc Try.prog Try.f5 false true false false) := by
  refine returnsInHanded_of_change (C := Try.checked) (by kernel_rfl) started (by kernel_rfl) Try.func5
    (ChangeSpec.witness6 (enc := enc) (C := Try.checked) false ⟨#[], #[.slice none 0 0, .agg #[.int .i64 0, .int .i64 0, .int .i64 0, .bool false, .int .i64 0, .int .i64 0, .int .i64 0, .int .i64 0, .slice none 0 0], .int .i64 0], []⟩ 8 (by kernel_rfl) (by kernel_rfl) (by kernel_rfl) (by kernel_rfl)) ?_
  intro W base args ds gs before hval hW _ _
  have hA : DataW.TrodAll enc Try.prog W 0 (fun _ => true) true [39, 24, 2] args.toList ds hW.choose := hW.choose_spec.choose_spec.1
  refine (auctionWins_calls hA (fun j t v h1 h2 => ?_)).mono fun e W' ⟨he, hc⟩ => ?_
  · refine hval j t v (Eq.trans ?_ h1) h2
    rw [← Array.getElem?_toList]
    exact congrArg (fun l : List TypeId => l[j]?) (by kernel_rfl)
  · have hds : ∃ q, hW.choose = q := ⟨_, rfl⟩
    obtain ⟨q, hq⟩ := hds
    rw [hq] at hA
    refine ⟨_, he, law_post (tb := 4) (by kernel_rfl) rfl (by kernel_rfl) rfl (sg.desc rfl rfl) ?_ hW hc⟩
    clear hq
    obtain ⟨v0, v1, v2, d0, d1, d2, p0, p1, p2, _, rfl, _⟩ := trodAll_three hA
    rfl
theorem auctionWins_holds : Rows.AuctionWinsSaid :=
  OpenClaim.holds_of_wide 5 Try.f5 rfl rfl rfl rfl rfl rfl rfl ⟨rfl, rfl, rfl, rfl, rfl⟩ rfl rfl rfl rfl rfl (by kernel_rfl) Try.func5 (by kernel_rfl)
    (of_decide_eq_true (by kernel_rfl)) (by unfold Func.isWrapper; first | (rw [if_pos (by decide +kernel)]; kernel_rfl) | (rw [if_neg (by decide +kernel)]; exact ⟨rfl, rfl⟩))
    (fun os started H enc _ => auctionWins_lifted os started H enc)
end Go.Proofs.Ytkcoemikglbomaa
