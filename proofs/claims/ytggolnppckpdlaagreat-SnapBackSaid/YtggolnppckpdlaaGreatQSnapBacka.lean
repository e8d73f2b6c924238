/- The statement SnapBackSaid, proved: for every two states, projections and bytes the law answers true, and all read behind the call as they read before; no condition. -/
import Derived.Test.YtggolnppckpdlaaGreatChecked
import Derived.Test.YtggolnppckpdlaaGreatRows
import Derived.Test.YtggolnppckpdlaaGreatQ48
import Derived.Test.YtggolnppckpdlaaGreatQ49
set_option linter.unusedSimpArgs false
set_option linter.unusedVariables false
namespace Go.Proofs.YtggolnppckpdlaaGreat
open Go Go.Sk Go.RowKit Go.ChangeShapes Go.WideShapes
set_option maxRecDepth 100000 in
theorem snapBack_calls {H : Type} {enc : TypeId × Value → H} {W : World} {args : Array Value} {ds : List (DataW H)} {p : List MemPlace}
    (hA : DataW.TrodAll enc Tryz.prog W 0 (fun _ => true) true [29, 29, 35, 35, 9] args.toList ds p) (hz : ∀ (j : Nat) t d, ([29, 29, 35, 35, 9] : List TypeId)[j]? = some t → ds[j]? = some d → ∀ n ∈ d.weights Tryz.prog t, n ≤ reachBytes) (hv : ∀ (j : Nat) t v, ([29, 29, 35, 35, 9] : List TypeId)[j]? = some t → args[j]? = some v → Value.okWide Tryz.prog W .any 0 t v) :
    Calls Tryz.prog 6 args W (Ret (.bool true) W) := by
  obtain ⟨v0, v1, v2, v3, v4, d0, d1, d2, d3, d4, p0, p1, p2, p3, p4, rfl, rfl, rfl, h0, h1, h2, h3, h4⟩ := trodZ_five hA
  obtain ⟨x0, q0, rfl, hM0, hA0⟩ := arg_sta h0 (hz 0 _ _ rfl rfl) (hv 0 _ _ rfl rfl)
  obtain ⟨x1, q1, rfl, hM1, hA1⟩ := arg_sta h1 (hz 1 _ _ rfl rfl) (hv 1 _ _ rfl rfl)
  obtain ⟨x2, q2, rfl, hM2, hA2⟩ := arg_vws h2 (hz 2 _ _ rfl rfl) (hv 2 _ _ rfl rfl)
  obtain ⟨x3, q3, rfl, hM3, hA3⟩ := arg_vws h3 (hz 3 _ _ rfl rfl) (hv 3 _ _ rfl rfl)
  obtain ⟨x4, rfl, hB4⟩ := arg_str (sg.desc rfl rfl) h4 (hz 4 _ _ rfl rfl) (hv 4 _ _ rfl rfl)
  exact c_Back x0 q0 x1 q1 x2 q2 x3 q3 x4 hB4 hA0 hA1 hA2 hA3 W (allF_mem W) hM0 hM1 hM2 hM3
set_option maxRecDepth 100000 in
theorem snapBack_lifted (os : Os) (started : os.Started) (H : Type) (enc : TypeId × Value → H) :
    ReturnsInHanded {} Tryz.checked os 6 .any (Rows.snapBackSpec.pre6 enc Tryz.prog Tryz.f6 Rows.snapBackRow.domain false) (Rows.snapBackSpec.post enc Tryz.prog Tryz.f6 false true false false) := by
  refine returnsInHanded_of_change_sized (C := Tryz.checked) (by kernel_rfl) started (by kernel_rfl) Tryz.func6
    (ChangeSpec.witness6 (enc := enc) (C := Tryz.checked) false ⟨#[], #[.agg #[.int .i64 0, .int .i64 0, .int .i64 0, .int .i64 0, .slice none 0 0, .slice none 0 0, .slice none 0 0, .slice none 0 0, .slice none 0 0], .agg #[.int .i64 0, .int .i64 0, .int .i64 0, .int .i64 0, .slice none 0 0, .slice none 0 0, .slice none 0 0, .slice none 0 0, .slice none 0 0], .agg #[.slice none 0 0, .slice none 0 0, .slice none 0 0, .slice none 0 0], .agg #[.slice none 0 0, .slice none 0 0, .slice none 0 0, .slice none 0 0], .string ⟨#[]⟩], []⟩ 8 (by kernel_rfl) (by kernel_rfl) (by kernel_rfl) (by kernel_rfl)) ?_
  intro W base args ds gs before hval hW _ hsz _
  have hA : DataW.TrodAll enc Tryz.prog W 0 (fun _ => true) true [29, 29, 35, 35, 9] args.toList ds hW.choose := hW.choose_spec.choose_spec.1
  refine (snapBack_calls hA (fun j t d h1 h2 => sized_at hsz (Eq.trans ?_ h1) h2) (fun j t v h1 h2 => ?_)).mono fun e W' ⟨he, hc⟩ => ?_
  · exact congrArg (fun l : List TypeId => l[j]?) (by kernel_rfl)
  · refine hval j t v (Eq.trans ?_ h1) h2
    rw [← Array.getElem?_toList]
    exact congrArg (fun l : List TypeId => l[j]?) (by kernel_rfl)
  · have hds : ∃ q, hW.choose = q := ⟨_, rfl⟩
    obtain ⟨q, hq⟩ := hds
    rw [hq] at hA
    refine ⟨_, he, law_post (tb := 4) (by kernel_rfl) rfl (by kernel_rfl) rfl (sg.desc rfl rfl) ?_ hW hc⟩
    clear hq
    obtain ⟨v0, v1, v2, v3, v4, d0, d1, d2, d3, d4, p0, p1, p2, p3, p4, _, rfl, _⟩ := trodZ_five hA
    rfl
end Go.Proofs.YtggolnppckpdlaaGreat
