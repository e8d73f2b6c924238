/- The statement AuctionBestSaid, proved: for every auction the law answers true, and the auction reads behind the call as it read before; no condition. -/
import Derived.Test.YtkcoemikglbomaaR1
import Derived.Test.YtkcoemikglbomaaL2
namespace Go.Proofs.Ytkcoemikglbomaa
open Go Go.Sk Go.RowKit Go.ChangeShapes Go.WideShapes
theorem best_calls {H : Type} {enc : TypeId × Value → H} {W : World} {args : Array Value} {ds : List (DataW H)} {p : List MemPlace}
    (hA : DataW.TrodAll enc Try.prog W 0 (fun _ => true) true [24] args.toList ds p) (hv : ∀ v, args[0]? = some v → Value.okWide Try.prog W .any 0 24 v) :
    Calls Try.prog 6 args W (Ret (.bool true) W) := by
  obtain ⟨v, d, rfl, rfl, h0⟩ := trodAll_one hA
  obtain ⟨cs, rfl, _⟩ := okWide_struct (sg.desc rfl rfl) (hv v rfl)
  obtain ⟨x, a, cap, e, hB⟩ := rd_auc (Rd.of h0)
  obtain rfl : cs = (x.cells a cap).toArray := by
    have : cs.toList = x.cells a cap := e
    rw [← this]
  exact c_Best x W (allF_mem W) (fun h => hB (by omega))
set_option maxRecDepth 100000 in
theorem best_lifted (os : Os) (started : os.Started) (H : Type) (enc : TypeId × Value → H) :
    ReturnsInHanded {} Try.checked os 6 .any (Rows.auctionBestSpec.pre6 enc Try.prog Try.f6 Rows.auctionBestRow.domain false) (Rows.auctionBestSpec.post enc Try.prog Try.f6 false true false false) := by
  refine returnsInHanded_of_change (C := Try.checked) (by kernel_rfl) started (by kernel_rfl) Try.func6
    (ChangeSpec.witness6 (enc := enc) (C := Try.checked) false ⟨#[], #[.agg #[.int .i64 0, .int .i64 0, .int .i64 0, .bool false, .int .i64 0, .int .i64 0, .int .i64 0, .int .i64 0, .slice none 0 0]], []⟩ 8 (by kernel_rfl) (by kernel_rfl) (by kernel_rfl) (by kernel_rfl)) ?_
  intro W base args ds gs before hval hW _ _
  obtain ⟨p, q, hA, hV, e1, e2, e3⟩ := id hW
  refine (best_calls (p := p) hA (fun v h => ?_)).mono fun e W' ⟨he, hc⟩ => ?_
  · have := hval 0 24 v rfl h
    exact this
  · obtain ⟨v, d, rfl, rfl, _⟩ := trodAll_one (t := 24) hA
    exact ⟨_, he, law_post (tb := 4) (by kernel_rfl) rfl (by kernel_rfl) rfl (sg.desc rfl rfl) rfl hW hc⟩
theorem best_holds : Rows.AuctionBestSaid :=
  OpenClaim.holds_of_wide 6 Try.f6 rfl rfl rfl rfl rfl rfl rfl ⟨rfl, rfl, rfl, rfl, rfl⟩ rfl rfl rfl rfl rfl (by kernel_rfl) Try.func6 (by kernel_rfl)
    (of_decide_eq_true (by kernel_rfl)) (by unfold Func.isWrapper; first | (rw [if_pos (by decide +kernel)]; kernel_rfl) | (rw [if_neg (by decide +kernel)]; exact ⟨rfl, rfl⟩))
    (fun os started H enc _ => best_lifted os started H enc)
end Go.Proofs.Ytkcoemikglbomaa
