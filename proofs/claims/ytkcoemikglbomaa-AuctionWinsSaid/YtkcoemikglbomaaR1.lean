/- The arguments of the auction's laws, read: a bid, an auction, rows of them. -/
import Derived.Test.YtkcoemikglbomaaA6
import Derived.Test.YtkcoemikglbomaaLaw
set_option linter.unusedSimpArgs false
set_option linter.unusedVariables false
namespace Go.Proofs.Ytkcoemikglbomaa
open Go Go.Sk Go.RowKit Go.ChangeShapes
section
variable {H : Type} {enc : TypeId × Value → H} {w : World}
theorem rd_bid {cs : List Value} (h : Rd enc Try.prog w 26 cs) : ∃ x : Bid, cs = x.cells := by
  have h := h.struct (sg.desc rfl rfl) (by kernel_rfl)
  obtain ⟨x0, cs, rfl, _, h⟩ := h.int (sg.desc rfl rfl) (sg.ncells rfl rfl)
  obtain ⟨x1, cs, rfl, _, h⟩ := h.int (sg.desc rfl rfl) (sg.ncells rfl rfl)
  obtain rfl := h.nil
  exact ⟨⟨x0, x1⟩, rfl⟩
/-- Bids that lie in a world's memory. -/
def BidsW (w : World) (a : Option Addr) (cap : Nat) (l : List Bid) : Prop := l.length ≤ 140737488355328 → Bids (allF w) a cap l
theorem rd_auc {cs : List Value} (h : Rd enc Try.prog w 24 cs) : ∃ (x : Auc) (a : Option Addr) (cap : Nat), cs = x.cells a cap ∧ BidsW w a cap x.bids := by
  have h := h.struct (sg.desc rfl rfl) (by kernel_rfl)
  obtain ⟨x0, cs, rfl, _, h⟩ := h.int (sg.desc rfl rfl) (sg.ncells rfl rfl)
  obtain ⟨x1, cs, rfl, _, h⟩ := h.int (sg.desc rfl rfl) (sg.ncells rfl rfl)
  obtain ⟨x2, cs, rfl, _, h⟩ := h.int (sg.desc rfl rfl) (sg.ncells rfl rfl)
  obtain ⟨x3, cs, rfl, _, h⟩ := h.bool (sg.desc rfl rfl) (sg.ncells rfl rfl)
  obtain ⟨x4, cs, rfl, _, h⟩ := h.int (sg.desc rfl rfl) (sg.ncells rfl rfl)
  obtain ⟨x5, cs, rfl, _, h⟩ := h.int (sg.desc rfl rfl) (sg.ncells rfl rfl)
  obtain ⟨x6, cs, rfl, _, h⟩ := h.int (sg.desc rfl rfl) (sg.ncells rfl rfl)
  obtain ⟨x7, cs, rfl, _, h⟩ := h.int (sg.desc rfl rfl) (sg.ncells rfl rfl)
  obtain ⟨a, len, cap, cs, rfl, hs, h⟩ := h.slice (sg.desc rfl rfl) (sg.ncells rfl rfl) (sg.ncells rfl rfl)
  obtain rfl := h.nil
  obtain ⟨l, rfl, hl⟩ := hs.named (el := Bid.cells) (fun _ => rd_bid)
  exact ⟨⟨x0, x1, x2, x3, x4, x5, x6, x7, l⟩, a, cap, rfl, hl⟩
theorem arg_auc {v : Value} {d : DataW H} {p : List MemPlace} (h : DataW.Trod enc Try.prog w 0 (fun _ => true) true 24 v d p) (hv : Value.okWide Try.prog w .any 0 24 v) :
    ∃ (x : Auc) (a : Option Addr) (cap : Nat), v = .agg (x.cells a cap).toArray ∧ BidsW w a cap x.bids := by
  obtain ⟨cs, rfl, _⟩ := Go.WideShapes.okWide_struct (sg.desc rfl rfl) hv
  obtain ⟨x, a, cap, e, hB⟩ := rd_auc (Rd.of h)
  refine ⟨x, a, cap, ?_, hB⟩
  have : cs.toList = x.cells a cap := e
  rw [← this]
theorem arg_bid {v : Value} {d : DataW H} {p : List MemPlace} (h : DataW.Trod enc Try.prog w 0 (fun _ => true) true 26 v d p) (hv : Value.okWide Try.prog w .any 0 26 v) :
    ∃ x : Bid, v = .agg x.cells.toArray := by
  obtain ⟨cs, rfl, _⟩ := Go.WideShapes.okWide_struct (sg.desc rfl rfl) hv
  obtain ⟨x, e⟩ := rd_bid (Rd.of h)
  refine ⟨x, ?_⟩
  have : cs.toList = x.cells := e
  rw [← this]
theorem arg_int {t : TypeId} {v : Value} {d : DataW H} {p : List MemPlace} (ht : Try.prog.underlying t = some (.int .i64)) (h : DataW.Trod enc Try.prog w 0 (fun _ => true) true t v d p) (hv : Value.okWide Try.prog w .any 0 t v) :
    ∃ i : Int, v = .int .i64 i ∧ -9223372036854775808 ≤ i ∧ i ≤ 9223372036854775807 := by
  obtain ⟨i, rfl, _, _, hw⟩ := open_int ht hv h
  refine ⟨i, rfl, ?_⟩
  simpa [Lit.wf, IntKind.min, IntKind.max, IntKind.signed, IntKind.bits] using hw
/-- Auctions that lie in a world's memory. -/
def AucsW (w : World) (a : Option Addr) (cap : Nat) (l : List Auc) (ad : Nat → Option Addr × Nat) : Prop :=
  l.length ≤ cap ∧ (∃ b off cs T fr, SlB (allF w) 9 a l.length b off cs T fr (ael l ad)) ∧ ∀ j, j < l.length → BidsW w (ad j).1 (ad j).2 (l.getD j default).bids
theorem arg_aucs {v : Value} {d : DataW H} {p : List MemPlace} (h : DataW.Trod enc Try.prog w 0 (fun _ => true) true 39 v d p) (hv : Value.okWide Try.prog w .any 0 39 v) :
    ∃ (l : List Auc) (ad : Nat → Option Addr × Nat) (a : Option Addr) (cap : Nat), v = .slice a l.length cap ∧ AucsW w a cap l ad := by
  obtain ⟨a0, n0, c0, rfl⟩ := Go.WideShapes.okWide_slice (sg.desc rfl rfl) hv
  obtain ⟨a, len, cap, e, hs⟩ := (Rd.of h).slice (sg.desc rfl rfl) (sg.ncells rfl rfl)
  cases e
  obtain ⟨h1, h2, b, off, cs, T, fr, h3, h4⟩ := hs
  obtain ⟨X, hX⟩ := Go.Deep.choose_lt (α := Auc × Option Addr × Nat) (p := fun j x => (cs.drop (off + j * 9)).take 9 = x.1.cells x.2.1 x.2.2 ∧ BidsW w x.2.1 x.2.2 x.1.bids) (fun j hj => by
    obtain ⟨x, a, cap, e, hB⟩ := rd_auc (h4 j hj)
    exact ⟨(x, a, cap), e, hB⟩)
  have hg : ∀ j, j < n0 → ((List.range n0).map fun j => (X j).1).getD j default = (X j).1 := fun j hj => by simp [List.getD, hj]
  refine ⟨(List.range n0).map fun j => (X j).1, fun j => (X j).2, a0, c0, by simp, by simpa using h1, ?_, ?_⟩
  · rw [List.length_map, List.length_range]
    refine ⟨b, off, cs, T, fr, fun h0 => ⟨(h3 h0).1, (h3 h0).2.1, fun j hj => ⟨((h3 h0).2.2 j hj).1, ?_⟩⟩⟩
    refine ((h3 h0).2.2 j hj).2.trans ?_
    show List.take 9 (List.drop (off + j * 9) cs) = Auc.cells _ _ _
    rw [hg j hj]
    exact (hX j hj).1
  · intro j hj
    rw [List.length_map, List.length_range] at hj
    rw [hg j hj]
    exact (hX j hj).2
end
end Go.Proofs.Ytkcoemikglbomaa
