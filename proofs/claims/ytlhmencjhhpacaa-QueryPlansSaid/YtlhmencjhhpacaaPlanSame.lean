/- cahierlaw20.great's and cahierref20.Same's walks. -/
import Derived.Test.YtlhmencjhhpacaaPlanP
namespace Go.Proofs.Ytlhmencjhhpacaa
open Go.RowKit

set_option maxRecDepth 100000 in
set_option maxHeartbeats 1000000 in
theorem num_any (n : Int) (w : World) : Calls Try.prog 50 #[.int .i64 n] w fun e w' => e = .returned (.agg #[.int .i64 1, .int .i64 n, .string ⟨#[]⟩]) ∧ Below w.heap.size w w' := by
  go_enter Try.func50, Try.ntmps50
  go_wp2_with fail
  have hbb := Below.refl w.heap.size w
  exact bodyPost_ret (v := .agg #[.int .i64 1, .int .i64 n, .string ⟨#[]⟩]) (by simp [results, Try.results50, go_sem]) rfl ⟨rfl, by go_grown⟩
theorem text_any (s : ByteArray) (w : World) : Calls Try.prog 51 #[.string s] w fun e w' => e = .returned (.agg #[.int .i64 2, .int .i64 0, .string s]) ∧ Below w.heap.size w w' := by
  go_enter Try.func51, Try.ntmps51
  go_wp2_with fail
  have hbb := Below.refl w.heap.size w
  exact bodyPost_ret (v := .agg #[.int .i64 2, .int .i64 0, .string s]) (by simp [results, Try.results51, go_sem]) rfl ⟨rfl, by go_grown⟩
end Go.Proofs.Ytlhmencjhhpacaa
