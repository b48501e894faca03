/- query.equal and cahierref20.equal: the value of the first condition that a column be it. -/
import Derived.Test.YtlhmencjhhpacaaDoorChk
namespace Go.Proofs.YtlhmencjhhpacaaDoor
open Go.RowKit

def V.agg (x : V) : Value := .agg #[.int .i64 x.k, .int .i64 x.n, .string x.s]
def eqB (col : Int) (c : Cnd) : Bool := c.col == col && (c.op == 1 && c.v.k != 0)
def eqV : List Cnd → Int → V
  | [], _ => vZero
  | c :: cs, col => if eqB col c = true then c.v else eqV cs col
theorem drop_at {α : Type} {xs : List α} {k : Nat} (h : k < xs.length) : xs.drop k = xs[k] :: xs.drop (k + 1) := List.drop_eq_getElem_cons h
theorem drop_end {α : Type} {xs : List α} {k : Nat} (h : ¬ k < xs.length) : xs.drop k = [] := List.drop_eq_nil_of_le (by omega)
theorem eqV_no {c : Cnd} {cs : List Cnd} {col : Int} {x : V} (h : eqB col c = false) (hx : eqV (c :: cs) col = x) : eqV cs col = x := by
  rw [← hx]; unfold eqV; rw [if_neg (by rw [h]; simp)]; cases cs <;> rfl
theorem eqV_yes {c : Cnd} {cs : List Cnd} {col : Int} {x : V} (h : eqB col c = true) (hx : eqV (c :: cs) col = x) : c.v = x := by
  rw [← hx]; unfold eqV; rw [if_pos h]
theorem ret_v {k n : Int} {s : ByteArray} {x : V} (h : (⟨k, n, s⟩ : V) = x) : Ending.returned (.agg #[.int .i64 k, .int .i64 n, .string s]) = .returned x.agg := by subst h; rfl

set_option maxRecDepth 100000 in
set_option maxHeartbeats 1000000 in
theorem equal_any (t : Int) (cv lv : Value) (conds : List Cnd) (ord : Int) (down : Bool) (lim col : Int) (w : World) (hcv : Sl Cnd.cells 5 w cv conds) (hl : conds.length ≤ 1000000) :
    Calls Tryd.prog 21 #[.agg #[.int .i64 t, cv, lv, .int .i64 ord, .bool down, .int .i64 lim], .int .i64 col] w fun e w' => e = .returned (eqV conds col).agg ∧ Below w.heap.size w w' := by
  obtain ⟨Ac, cc, rfl⟩ := Sl.len' hcv
  have HCV := Lib.hid hcv
  clear hcv
  go_enter Tryd.func21, Tryd.ntmps21
  go_wp2_with fail
  go_loopw [10] (fun i wr => ∃ k : Nat, k ≤ conds.length ∧ i = .int .i64 k ∧ Below w.heap.size w wr ∧ eqV (conds.drop k) col = eqV conds col ∧ Sl Cnd.cells 5 wr (.slice Ac conds.length cc) conds ∧
    wr.heap[w.heap.size]? = some (.cells #[.int .i64 t, .slice Ac conds.length cc, lv, .int .i64 ord, .bool down, .int .i64 lim] 40 (0, 0)) ∧
    wr.heap[w.heap.size + 1]? = some (.cells #[.int .i64 0, .int .i64 0, .string ⟨#[]⟩] 25 (0, 0))) (fun i _ => conds.length - (intOf i).toNat)
  case atStart => exact ⟨0, Nat.zero_le _, rfl, ((Below.refl _ w).alloc (Nat.le_refl _) _).alloc (by simp) _, rfl, (HCV.out.alloc _).alloc _, blk_alloc (blk_new rfl) _, blk_new (by simp)⟩
  case round =>
    obtain ⟨k, hk, rfl, hb, he, hcv, hQ, hG⟩ := hrel
    have HW := Lib.hid hb
    have HE := Lib.hid he
    clear HCV
    have HCV := Lib.hid hcv
    have HQ := Lib.hid hQ
    have HG := Lib.hid hG
    have hzq := blk_lt hQ
    have hzg := blk_lt hG
    have hcq := blk_cell hQ
    have hcg := blk_cell hG
    have hfg := blk_frozen hG
    clear hb he hcv hQ hG
    by_cases hkl : k < conds.length
    rotate_left
    · have hr := Lib.hid ((congrArg (eqV · col) (drop_end hkl)).symm.trans HE.out)
      go_wp2_with fail
      have hbb := HW.out
      have q0 : wr.cell? ⟨w.heap.size + 1, 0, none⟩ = some (.int .i64 0) := hcg 0
      have q1 : wr.cell? ⟨w.heap.size + 1, 1, none⟩ = some (.int .i64 0) := hcg 1
      have q2 : wr.cell? ⟨w.heap.size + 1, 2, none⟩ = some (.string ⟨#[]⟩) := hcg 2
      exact bodyPost_ret (v := .agg #[.int .i64 0, .int .i64 0, .string ⟨#[]⟩]) (by simp [results, Tryd.results21, go_sem, q0, q1, q2]) rfl ⟨ret_v (x := eqV conds col) hr.out, by go_grown⟩
    rcases HCV.out.cases with ⟨A, c, he, rfl⟩ | ⟨b, off, c, he, -, hbl, hcv'⟩
    · simp at hkl
    injection he with he1 he2 he3
    subst he1 he3
    obtain ⟨-, hcells⟩ := hcv'.cells hkl
    obtain ⟨e1, e2, e3, e4, e5⟩ := Cnd.row hcells
    have HE2 := Lib.hid ((congrArg (eqV · col) (drop_at hkl)).symm.trans HE.out)
    clear hcells hcv'
    generalize hx : conds[k] = x at *
    clear hx
    obtain ⟨xc, xo, ⟨xk, xn, xs⟩⟩ := x
    simp only at e1 e2 e3 e4 e5
    rcases Bool.eq_false_or_eq_true (eqB col ⟨xc, xo, ⟨xk, xn, xs⟩⟩) with hB | hB
    · have HR := Lib.hid (eqV_yes hB HE2.out)
      simp only [eqB, Bool.and_eq_true, beq_iff_eq, bne_iff_ne, ne_eq] at hB
      obtain ⟨h1, h2, h3⟩ := hB
      go_wp2_with fail
      have hbb := HW.out
      have q0 : wr.cell? ⟨w.heap.size + 1, 0, none⟩ = some (.int .i64 0) := hcg 0
      have q1 : wr.cell? ⟨w.heap.size + 1, 1, none⟩ = some (.int .i64 0) := hcg 1
      have q2 : wr.cell? ⟨w.heap.size + 1, 2, none⟩ = some (.string ⟨#[]⟩) := hcg 2
      exact bodyPost_ret (v := .agg #[.int .i64 xk, .int .i64 xn, .string xs]) (by simp [results, Tryd.results21, go_sem, World.cell?_alloc_lt, hzg, q0, q1, q2]) rfl ⟨ret_v HR.out, by go_grown⟩
    · have HN := Lib.hid (eqV_no hB HE2.out)
      simp only [eqB] at hB
      by_cases h1 : xc = col
      · by_cases h2 : xo = 1
        · have h3 : xk = 0 := by subst h1 h2; simpa using hB
          clear hB
          go_wp2_with fail
          go_roundw
          case rel => exact ⟨k + 1, by omega, by go_num, HW.out.alloc HW.out.size _, HN.out, HCV.out.alloc _, blk_alloc HQ.out _, blk_alloc HG.out _⟩
          case measure => simp [intOf]; omega
        · clear hB
          go_wp2_with fail
          go_roundw
          case rel => exact ⟨k + 1, by omega, by go_num, HW.out.alloc HW.out.size _, HN.out, HCV.out.alloc _, blk_alloc HQ.out _, blk_alloc HG.out _⟩
          case measure => simp [intOf]; omega
      · clear hB
        go_wp2_with fail
        go_roundw
        case rel => exact ⟨k + 1, by omega, by go_num, HW.out.alloc HW.out.size _, HN.out, HCV.out.alloc _, blk_alloc HQ.out _, blk_alloc HG.out _⟩
        case measure => simp [intOf]; omega
end Go.Proofs.YtlhmencjhhpacaaDoor
