/- cmp.Or of values. -/
import Derived.Test.YtlhmencjhhpacaaDoorPlanEq
namespace Go.Proofs.YtlhmencjhhpacaaDoor
open Go.RowKit

def V.isZ (x : V) : Bool := decide (x.k = 0 ∧ x.n = 0 ∧ x.s.toList = [])
def orV : List V → V
  | [] => vZero
  | x :: xs => if x.isZ = true then orV xs else x
theorem orV_skip {x y : V} {xs : List V} (h : x.isZ = true) (hx : orV (x :: xs) = y) : orV xs = y := by rw [← hx]; show _ = if _ then _ else _; rw [if_pos h]
theorem orV_take {x y : V} {xs : List V} (h : x.isZ = false) (hx : orV (x :: xs) = y) : x = y := by rw [← hx]; show _ = if _ then _ else _; rw [if_neg (by rw [h]; simp)]

set_option maxRecDepth 100000 in
set_option maxHeartbeats 1000000 in
theorem orVal_any (v : Value) (xs : List V) (w : World) (hs : Sl V.cells 3 w v xs) (hl : xs.length ≤ 1000000) :
    Calls Tryd.prog 34 #[v] w fun e w' => e = .returned (orV xs).agg ∧ Below w.heap.size w w' := by
  obtain ⟨A, c, rfl⟩ := Sl.len' hs
  have HS := Lib.hid hs
  clear hs
  go_enter Tryd.func34, Tryd.ntmps34
  go_wp2_with fail
  go_loopw [8] (fun i wr => ∃ k : Nat, k ≤ xs.length ∧ i = .int .i64 k ∧ Below w.heap.size w wr ∧ orV (xs.drop k) = orV xs ∧ Sl V.cells 3 wr (.slice A xs.length c) xs ∧
    wr.heap[w.heap.size]? = some (.cells #[.int .i64 0, .int .i64 0, .string ⟨#[]⟩] 25 (0, 0)) ∧
    wr.heap[w.heap.size + 1]? = some (.cells #[.int .i64 0, .int .i64 0, .string ⟨#[]⟩] 25 (0, 0))) (fun i _ => xs.length - (intOf i).toNat)
  case atStart => exact ⟨0, Nat.zero_le _, rfl, ((Below.refl _ w).alloc (Nat.le_refl _) _).alloc (by simp) _, rfl, (HS.out.alloc _).alloc _, blk_alloc (blk_new rfl) _, blk_new (by simp)⟩
  case round =>
    obtain ⟨k, hk, rfl, hb, he, hcv, hQ, hG⟩ := hrel
    have HW := Lib.hid hb
    have HE := Lib.hid he
    clear HS
    have HS := Lib.hid hcv
    have HQ := Lib.hid hQ
    have HG := Lib.hid hG
    have hzq := blk_lt hQ
    have hzg := blk_lt hG
    have hcq := blk_cell hQ
    have hcg := blk_cell hG
    have hfq := blk_frozen hQ
    clear hb he hcv hQ hG
    by_cases hkl : k < xs.length
    rotate_left
    · have hr := Lib.hid ((congrArg orV (drop_end hkl)).symm.trans HE.out)
      go_wp2_with fail
      have hbb := HW.out
      have q0 : wr.cell? ⟨w.heap.size, 0, none⟩ = some (.int .i64 0) := hcq 0
      have q1 : wr.cell? ⟨w.heap.size, 1, none⟩ = some (.int .i64 0) := hcq 1
      have q2 : wr.cell? ⟨w.heap.size, 2, none⟩ = some (.string ⟨#[]⟩) := hcq 2
      exact bodyPost_ret (v := .agg #[.int .i64 0, .int .i64 0, .string ⟨#[]⟩]) (by simp [results, Tryd.results34, go_sem, q0, q1, q2]) rfl ⟨ret_v (x := orV xs) hr.out, by go_grown⟩
    rcases HS.out.cases with ⟨A', c', he, rfl⟩ | ⟨b, off, c', he, -, hbl, hcv'⟩
    · simp at hkl
    injection he with he1 he2 he3
    subst he1 he3
    obtain ⟨-, hcells⟩ := hcv'.cells hkl
    obtain ⟨e1, e2, e3⟩ := V.row hcells
    have HE2 := Lib.hid ((congrArg orV (drop_at hkl)).symm.trans HE.out)
    clear hcells hcv'
    generalize hx : xs[k] = x at *
    clear hx
    obtain ⟨xk, xn, s⟩ := x
    simp only at e1 e2 e3
    rcases Bool.eq_false_or_eq_true (V.isZ ⟨xk, xn, s⟩) with hB | hB
    · have HR := Lib.hid (orV_skip hB HE2.out)
      simp only [V.isZ, decide_eq_true_eq] at hB
      obtain ⟨rfl, rfl, h2⟩ := hB
      go_wp2_with fail
      go_roundw
      case rel => exact ⟨k + 1, by omega, by go_num, HW.out.alloc HW.out.size _, HR.out, HS.out.alloc _, blk_alloc HQ.out _, blk_alloc HG.out _⟩
      case measure => simp [intOf]; omega
    · have HR := Lib.hid (orV_take hB HE2.out)
      have hbb := HW.out
      have q0 : wr.cell? ⟨w.heap.size, 0, none⟩ = some (.int .i64 0) := hcq 0
      have q1 : wr.cell? ⟨w.heap.size, 1, none⟩ = some (.int .i64 0) := hcq 1
      have q2 : wr.cell? ⟨w.heap.size, 2, none⟩ = some (.string ⟨#[]⟩) := hcq 2
      have Q0 := Lib.hid q0
      have Q1 := Lib.hid q1
      have Q2 := Lib.hid q2
      clear q0 q1 q2
      have hB2 : ¬ (xk = 0 ∧ xn = 0 ∧ s.toList = []) := by simpa [V.isZ] using hB
      clear hB
      by_cases h0 : xk = 0
      rotate_left
      · clear hB2
        go_wp2_with fail
        exact bodyPost_ret (v := .agg #[.int .i64 xk, .int .i64 xn, .string s]) (by simp [results, Tryd.results34, go_sem, World.cell?_alloc_lt, hzq, Q0.out, Q1.out, Q2.out]) rfl ⟨ret_v HR.out, by go_grown⟩
      by_cases h1 : xn = 0
      rotate_left
      · clear hB2
        subst h0
        go_wp2_with fail
        exact bodyPost_ret (v := .agg #[.int .i64 0, .int .i64 xn, .string s]) (by simp [results, Tryd.results34, go_sem, World.cell?_alloc_lt, hzq, Q0.out, Q1.out, Q2.out]) rfl ⟨ret_v HR.out, by go_grown⟩
      have h2 : ¬ s.toList = [] := fun h => hB2 ⟨h0, h1, h⟩
      clear hB2
      subst h0 h1
      go_wp2_with fail
      exact bodyPost_ret (v := .agg #[.int .i64 0, .int .i64 0, .string s]) (by simp [results, Tryd.results34, go_sem, World.cell?_alloc_lt, hzq, Q0.out, Q1.out, Q2.out]) rfl ⟨ret_v HR.out, by go_grown⟩
end Go.Proofs.YtlhmencjhhpacaaDoor
