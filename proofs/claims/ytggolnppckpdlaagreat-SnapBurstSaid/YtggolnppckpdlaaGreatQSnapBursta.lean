/- The statement SnapBurstSaid, proved: for every state, projections, number, place, bits and bytes the law answers true, and all read behind the call as they read before; no condition. -/
import Derived.Test.YtggolnppckpdlaaGreatChecked
import Derived.Test.YtggolnppckpdlaaGreatRows
import Derived.Test.YtggolnppckpdlaaGreatQ48
import Derived.Test.YtggolnppckpdlaaGreatQ50
set_option linter.unusedSimpArgs false
set_option linter.unusedVariables false
namespace Go.Proofs.YtggolnppckpdlaaGreat
open Go Go.Sk Go.RowKit Go.ChangeShapes Go.WideShapes
set_option maxRecDepth 100000 in
theorem snapBurst_calls {H : Type} {enc : TypeId × Value → H} {W : World} {args : Array Value} {ds : List (DataW H)} {p : List MemPlace}
    (hA : DataW.TrodAll enc Tryz.prog W 0 (fun _ => true) true [29, 35, 2, 3, 65, 9] args.toList ds p) (hz : ∀ (j : Nat) t d, ([29, 35, 2, 3, 65, 9] : List TypeId)[j]? = some t → ds[j]? = some d → ∀ n ∈ d.weights Tryz.prog t, n ≤ reachBytes) (hv : ∀ (j : Nat) t v, ([29, 35, 2, 3, 65, 9] : List TypeId)[j]? = some t → args[j]? = some v → Value.okWide Tryz.prog W .any 0 t v) :
    Calls Tryz.prog 7 args W (Ret (.bool true) W) := by
  obtain ⟨v0, v1, v2, v3, v4, v5, d0, d1, d2, d3, d4, d5, p0, p1, p2, p3, p4, p5, rfl, rfl, rfl, h0, h1, h2, h3, h4, h5⟩ := trodZ_six hA
  obtain ⟨x0, q0, rfl, hM0, hA0⟩ := arg_sta h0 (hz 0 _ _ rfl rfl) (hv 0 _ _ rfl rfl)
  obtain ⟨x1, q1, rfl, hM1, hA1⟩ := arg_vws h1 (hz 1 _ _ rfl rfl) (hv 1 _ _ rfl rfl)
  obtain ⟨x2, rfl, hB2⟩ := arg_int (sg.desc rfl rfl) h2 (hv 2 _ _ rfl rfl)
  obtain ⟨x3, rfl, hB3⟩ := arg_int (sg.desc rfl rfl) h3 (hv 3 _ _ rfl rfl)
  obtain ⟨x4, rfl, hB4⟩ := arg_u32 (sg.desc rfl rfl) h4 (hv 4 _ _ rfl rfl)
  obtain ⟨x5, rfl, hB5⟩ := arg_str (sg.desc rfl rfl) h5 (hz 5 _ _ rfl rfl) (hv 5 _ _ rfl rfl)
  exact (by obtain ⟨n, rfl⟩ : ∃ n : Nat, x4 = (n : Int) := ⟨x4.toNat, by omega⟩; exact c_Burst x0 q0 x1 q1 x2 x3 n (by omega) x5 hB5 hA0 hA1 W (allF_mem W) hM0 hM1)
set_option maxRecDepth 100000 in
theorem snapBurst_lifted (os : Os) (started : os.Started) (H : Type) (enc : TypeId × Value → H) :
    ReturnsInHanded {} Tryz.checked os 7 .any (Rows.snapBurstSpec.pre6 enc Tryz.prog Tryz.f7 Rows.snapBurstRow.domain false) (Rows.snapBurstSpec.post enc Tryz.prog Tryz.f7 false true false false) := by
  refine returnsInHanded_of_change_sized (C := Tryz.checked) (by kernel_rfl) started (by kernel_rfl) Tryz.func7
    (ChangeSpec.witness6 (enc := enc) (C := Tryz.checked) false ⟨#[], #[.agg #[.int .i64 0, .int .i64 0, .int .i64 0, .int .i64 0, .slice none 0 0, .slice none 0 0, .slice none 0 0, .slice none 0 0, .slice none 0 0], .agg #[.slice none 0 0, .slice none 0 0, .slice none 0 0, .slice none 0 0], .int .i64 0, .int .i64 0, .int .u32 0, .string ⟨#[]⟩], []⟩ 8 (by kernel_rfl) (by kernel_rfl) (by kernel_rfl) (by kernel_rfl)) ?_
  intro W base args ds gs before hval hW _ hsz _
  have hA : DataW.TrodAll enc Tryz.prog W 0 (fun _ => true) true [29, 35, 2, 3, 65, 9] args.toList ds hW.choose := hW.choose_spec.choose_spec.1
  refine (snapBurst_calls hA (fun j t d h1 h2 => sized_at hsz (Eq.trans ?_ h1) h2) (fun j t v h1 h2 => ?_)).mono fun e W' ⟨he, hc⟩ => ?_
  · exact congrArg (fun l : List TypeId => l[j]?) (by kernel_rfl)
  · refine hval j t v (Eq.trans ?_ h1) h2
    rw [← Array.getElem?_toList]
    exact congrArg (fun l : List TypeId => l[j]?) (by kernel_rfl)
  · have hds : ∃ q, hW.choose = q := ⟨_, rfl⟩
    obtain ⟨q, hq⟩ := hds
    rw [hq] at hA
    refine ⟨_, he, law_post (tb := 4) (by kernel_rfl) rfl (by kernel_rfl) rfl (sg.desc rfl rfl) ?_ hW hc⟩
    clear hq
    obtain ⟨v0, v1, v2, v3, v4, v5, d0, d1, d2, d3, d4, d5, p0, p1, p2, p3, p4, p5, _, rfl, _⟩ := trodZ_six hA
    rfl
end Go.Proofs.YtggolnppckpdlaaGreat
