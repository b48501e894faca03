/- cahierlaw20.great's and cahierref20.Same's walks. -/
import Derived.Test.YtlhmencjhhpacaaDoorPlanP
namespace Go.Proofs.YtlhmencjhhpacaaDoor
open Go.RowKit

set_option maxRecDepth 100000 in
set_option maxHeartbeats 1000000 in
theorem num_any (n : Int) (w : World) : Calls Tryd.prog 8 #[.int .i64 n] w fun e w' => e = .returned (.agg #[.int .i64 1, .int .i64 n, .string ⟨#[]⟩]) ∧ Below w.heap.size w w' := by
  go_enter Tryd.func8, Tryd.ntmps8
  go_wp2_with fail
  have hbb := Below.refl w.heap.size w
  exact bodyPost_ret (v := .agg #[.int .i64 1, .int .i64 n, .string ⟨#[]⟩]) (by simp [results, Tryd.results8, go_sem]) rfl ⟨rfl, by go_grown⟩
theorem text_any (s : ByteArray) (w : World) : Calls Tryd.prog 9 #[.string s] w fun e w' => e = .returned (.agg #[.int .i64 2, .int .i64 0, .string s]) ∧ Below w.heap.size w w' := by
  go_enter Tryd.func9, Tryd.ntmps9
  go_wp2_with fail
  have hbb := Below.refl w.heap.size w
  exact bodyPost_ret (v := .agg #[.int .i64 2, .int .i64 0, .string s]) (by simp [results, Tryd.results9, go_sem]) rfl ⟨rfl, by go_grown⟩
end Go.Proofs.YtlhmencjhhpacaaDoor
