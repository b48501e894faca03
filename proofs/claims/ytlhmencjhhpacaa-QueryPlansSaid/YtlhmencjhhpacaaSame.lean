/- cahierref20.Same of a plan and itself is true. -/
import Derived.Test.YtlhmencjhhpacaaGreat
namespace Go.Proofs.Ytlhmencjhhpacaa
open Go.RowKit

set_option maxRecDepth 100000 in
set_option maxHeartbeats 1000000 in
theorem same_any (p : Pl) (w : World) : Calls Try.prog 31 #[p.agg, p.agg] w fun e w' => e = .returned (.bool true) ∧ Below w.heap.size w w' := by
  obtain ⟨way, nm, ⟨lk, ln, ls⟩, ⟨uk, un, us⟩⟩ := p
  simp only [Pl.agg]
  go_enter Try.func31, Try.ntmps31
  have hbb := Below.refl w.heap.size w
  go_wp2_with fail
  go_ret
  exact ⟨rfl, by go_grown⟩
end Go.Proofs.Ytlhmencjhhpacaa
