/- The arguments of the auction's laws, read: a bid, an auction, rows of them. -/
import Derived.Test.YtkcoemikglbomaaA6
import Derived.Test.YtkcoemikglbomaaLaw
namespace Go.Proofs.Ytkcoemikglbomaa
open Go Go.Sk Go.RowKit
section
variable {H : Type} {enc : TypeId × Value → H} {w : World}
theorem rd_bid {cs : List Value} (h : Rd enc Try.prog w 26 cs) : ∃ x : Bid, cs = x.cells := by
  have h := h.struct (sg.desc rfl rfl) (by kernel_rfl)
  obtain ⟨x0, cs, rfl, _, h⟩ := h.int (sg.desc rfl rfl) (sg.ncells rfl rfl)
  obtain ⟨x1, cs, rfl, _, h⟩ := h.int (sg.desc rfl rfl) (sg.ncells rfl rfl)
  obtain rfl := h.nil
  exact ⟨⟨x0, x1⟩, rfl⟩
/-- Bids that lie in a world's memory. -/
def BidsW (w : World) (a : Option Addr) (cap : Nat) (l : List Bid) : Prop := l.length ≤ 140737488355328 → Bids (allF w) a cap l
theorem rd_auc {cs : List Value} (h : Rd enc Try.prog w 24 cs) : ∃ (x : Auc) (a : Option Addr) (cap : Nat), cs = x.cells a cap ∧ BidsW w a cap x.bids := by
  have h := h.struct (sg.desc rfl rfl) (by kernel_rfl)
  obtain ⟨x0, cs, rfl, _, h⟩ := h.int (sg.desc rfl rfl) (sg.ncells rfl rfl)
  obtain ⟨x1, cs, rfl, _, h⟩ := h.int (sg.desc rfl rfl) (sg.ncells rfl rfl)
  obtain ⟨x2, cs, rfl, _, h⟩ := h.int (sg.desc rfl rfl) (sg.ncells rfl rfl)
  obtain ⟨x3, cs, rfl, _, h⟩ := h.bool (sg.desc rfl rfl) (sg.ncells rfl rfl)
  obtain ⟨x4, cs, rfl, _, h⟩ := h.int (sg.desc rfl rfl) (sg.ncells rfl rfl)
  obtain ⟨x5, cs, rfl, _, h⟩ := h.int (sg.desc rfl rfl) (sg.ncells rfl rfl)
  obtain ⟨x6, cs, rfl, _, h⟩ := h.int (sg.desc rfl rfl) (sg.ncells rfl rfl)
  obtain ⟨x7, cs, rfl, _, h⟩ := h.int (sg.desc rfl rfl) (sg.ncells rfl rfl)
  obtain ⟨a, len, cap, cs, rfl, hs, h⟩ := h.slice (sg.desc rfl rfl) (sg.ncells rfl rfl) (sg.ncells rfl rfl)
  obtain rfl := h.nil
  obtain ⟨l, rfl, hl⟩ := hs.named (el := Bid.cells) (fun _ => rd_bid)
  exact ⟨⟨x0, x1, x2, x3, x4, x5, x6, x7, l⟩, a, cap, rfl, hl⟩
end
end Go.Proofs.Ytkcoemikglbomaa
