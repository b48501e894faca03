/- Arguments of the query laws, read as lists: conditions, columns, indexes, rows. -/
import Derived.Test.YtlhmencjhhpacaaDoorRead
import Derived.Test.YtlhmencjhhpacaaDoorMatch
import Derived.Test.YtlhmencjhhpacaaDoorPlanOver
import Derived.Test.YtlhmencjhhpacaaDoorPick2
namespace Go.Proofs.YtlhmencjhhpacaaDoor
open Go.ChangeShapes Go.WideShapes Go.ChangeAt Go.RowKit Go.Deep Go.Joins

section
variable {H : Type} {enc : TypeId × Value → H} {w : World}
theorem cells_int : Tryd.prog.cellsOf 3 = 1 := by kernel_rfl
theorem cells_str : Tryd.prog.cellsOf 9 = 1 := by kernel_rfl
theorem cells_val : Tryd.prog.cellsOf 25 = 3 := by kernel_rfl
theorem cells_cond : Tryd.prog.cellsOf 27 = 5 := by kernel_rfl
theorem cells_ix : Tryd.prog.cellsOf 45 = 3 := by kernel_rfl
theorem cells_row : Tryd.prog.cellsOf 34 = 1 := by kernel_rfl

/-- a slice, by its elements' reader -/
theorem read_slice {α : Type} {f : α → List Value} {size : Nat} {Q : α → Prop} {t e : TypeId} {fuel : Nat} {cs : List Value} {y : DataW H × List MemPlace} (ht : Tryd.prog.underlying t = some (.slice e)) (hC : Tryd.prog.cellsOf e = size) (hp : 0 < size) (hsz : ∀ x, (f x).length = size)
    (hel : ∀ (n : Nat) (cs' : List Value) (z : DataW H × List MemPlace), DataW.trod enc Tryd.prog w 0 (fun _ => true) true n e cs' = some z → (∀ x ∈ z.2, x.block < w.heap.size) → ∃ x : α, f x = cs' ∧ Q x)
    (h : DataW.trod enc Tryd.prog w 0 (fun _ => true) true fuel t cs = some y) (hlt : ∀ x ∈ y.2, x.block < w.heap.size) : ∃ (v : Value) (xs : List α), cs = [v] ∧ Sl f size w v xs ∧ ∀ x ∈ xs, Q x := by
  rcases open_slice ht h with ⟨h0, _⟩ | ⟨a, len, cap, m, n, D, Pl, hcs, hb, hl, hm, hmm, hx, hi⟩
  · exact ⟨_, [], h0, Sl.nil, fun x hx => by cases hx⟩
  · simp only [if_true] at hmm
    obtain ⟨xs, hxl, hR⟩ := list_of_all (R := fun i (x : α) => (∀ j u, (f x)[j]? = some u → w.cell? (a.add (i * size + j)) = some u) ∧ Q x) len (fun i hil => by
      obtain ⟨cs', hc, ht'⟩ := hi i (by omega)
      rw [hC] at hc
      obtain ⟨_, hcl, hat⟩ := World.cells?_some hc
      obtain ⟨x, hfx, hq⟩ := hel n cs' _ ht' (fun z hz => hlt z (by rw [hx]; exact List.mem_append_right _ (List.mem_flatMap.2 ⟨i, List.mem_range.2 (by omega), hz⟩)))
      refine ⟨x, fun j u hu => ?_, hq⟩
      rw [hfx] at hu
      have hj : j < size := by
        rcases Nat.lt_or_ge j cs'.length with h | h
        · omega
        · rw [List.getElem?_eq_none h] at hu; cases hu
      rw [← Go.Deep.add_add, hat j hj]
      exact hu)
    refine ⟨_, xs, hcs, sl_of_cells hxl hp hsz (fun i h => (hR i h).1) (fun h0 => ?_), fun x hx' => ?_⟩
    · refine hlt (.cell a.block a.off) ?_
      rw [hx]
      refine List.mem_append_left _ ?_
      rw [hC]
      exact List.mem_map.2 ⟨0, List.mem_range.2 (Nat.mul_pos (by omega) hp), rfl⟩
    · obtain ⟨i, hi', rfl⟩ := List.getElem_of_mem hx'
      exact (hR i hi').2

theorem el_int {n : Nat} {cs : List Value} {z : DataW H × List MemPlace} (h : DataW.trod enc Tryd.prog w 0 (fun _ => true) true n 3 cs = some z) : ∃ x : Int, iCells x = cs := by
  obtain ⟨x, hc, _, _⟩ := DataW.trod_int Tryd.underlying3 h
  exact ⟨x, hc.symm⟩
set_option maxRecDepth 100000 in
theorem el_val {n : Nat} {cs : List Value} {z : DataW H × List MemPlace} (h : DataW.trod enc Tryd.prog w 0 (fun _ => true) true n 25 cs = some z) : ∃ x : V, x.cells = cs ∧ x.s.size ≤ maxLen := by
  obtain ⟨ys, n', -, -, hl, hyl, hg⟩ := DataW.trod_struct Tryd.underlying25 h
  rw [cells_val] at hl
  match cs, hl with
  | [c0, c1, c2], _ =>
    match ys, hyl with
    | [y0, y1, y2], _ =>
      have g0 := hg 0 _ rfl
      have g1 := hg 1 _ rfl
      have g2 := hg 2 _ rfl
      simp only [cells_int, cells_str, List.drop_zero, List.drop_succ_cons, List.take_succ_cons, List.take_zero, List.getElem?_cons_zero, List.getElem?_cons_succ, List.getElem_toArray, List.getElem_cons_zero, List.getElem_cons_succ] at g0 g1 g2
      obtain ⟨q0, e0, -, -⟩ := DataW.trod_int Tryd.underlying3 g0
      obtain ⟨q1, e1, -, -⟩ := DataW.trod_int Tryd.underlying3 g1
      obtain ⟨q2, e2, -, w2⟩ := DataW.trod_string Tryd.underlying9 g2
      simp at e0 e1 e2
      subst e0 e1 e2
      exact ⟨⟨q0, q1, q2⟩, rfl, w2⟩
set_option maxRecDepth 100000 in
theorem el_ix {n : Nat} {cs : List Value} {z : DataW H × List MemPlace} (h : DataW.trod enc Tryd.prog w 0 (fun _ => true) true n 45 cs = some z) : ∃ x : Ix, x.cells = cs ∧ x.name.size ≤ maxLen := by
  obtain ⟨ys, n', -, -, hl, hyl, hg⟩ := DataW.trod_struct Tryd.underlying45 h
  rw [cells_ix] at hl
  match cs, hl with
  | [c0, c1, c2], _ =>
    match ys, hyl with
    | [y0, y1, y2], _ =>
      have g0 := hg 0 _ rfl
      have g1 := hg 1 _ rfl
      have g2 := hg 2 _ rfl
      simp only [cells_int, cells_str, List.drop_zero, List.drop_succ_cons, List.take_succ_cons, List.take_zero, List.getElem?_cons_zero, List.getElem?_cons_succ, List.getElem_toArray, List.getElem_cons_zero, List.getElem_cons_succ] at g0 g1 g2
      obtain ⟨q0, e0, -, w0⟩ := DataW.trod_string Tryd.underlying9 g0
      obtain ⟨q1, e1, -, -⟩ := DataW.trod_int Tryd.underlying3 g1
      obtain ⟨q2, e2, -, -⟩ := DataW.trod_int Tryd.underlying3 g2
      simp at e0 e1 e2
      subst e0 e1 e2
      exact ⟨⟨q0, q1, q2⟩, rfl, w0⟩
set_option maxRecDepth 100000 in
theorem el_cond {n : Nat} {cs : List Value} {z : DataW H × List MemPlace} (h : DataW.trod enc Tryd.prog w 0 (fun _ => true) true n 27 cs = some z) : ∃ x : Cnd, x.cells = cs ∧ x.v.s.size ≤ maxLen := by
  obtain ⟨ys, n', -, -, hl, hyl, hg⟩ := DataW.trod_struct Tryd.underlying27 h
  rw [cells_cond] at hl
  match cs, hl with
  | [c0, c1, c2, c3, c4], _ =>
    match ys, hyl with
    | [y0, y1, y2], _ =>
      have g0 := hg 0 _ rfl
      have g1 := hg 1 _ rfl
      have g2 := hg 2 _ rfl
      simp only [cells_int, cells_val, List.drop_zero, List.drop_succ_cons, List.take_succ_cons, List.take_zero, List.getElem?_cons_zero, List.getElem?_cons_succ, List.getElem_toArray, List.getElem_cons_zero, List.getElem_cons_succ] at g0 g1 g2
      obtain ⟨q0, e0, -, -⟩ := DataW.trod_int Tryd.underlying3 g0
      obtain ⟨q1, e1, -, -⟩ := DataW.trod_int Tryd.underlying3 g1
      obtain ⟨x, hx, hs⟩ := el_val g2
      simp at e0 e1
      subst e0 e1
      exact ⟨⟨q0, q1, x⟩, by unfold Cnd.cells; unfold V.cells at hx; simp at hx ⊢; exact hx, hs⟩
theorem el_row {n : Nat} {cs : List Value} {z : DataW H × List MemPlace} (h : DataW.trod enc Tryd.prog w 0 (fun _ => true) true n 34 cs = some z) (hlt : ∀ x ∈ z.2, x.block < w.heap.size) :
    ∃ p : Rr, p.cells = cs ∧ Sl V.cells 3 w p.hd p.row ∧ ∀ x ∈ p.row, x.s.size ≤ maxLen := by
  obtain ⟨v, xs, rfl, hs, hq⟩ := read_slice (f := V.cells) (size := 3) (Q := fun x => x.s.size ≤ maxLen) Tryd.underlying34 cells_val (by omega) V.len (fun n cs' z hz _ => el_val hz) h hlt
  obtain ⟨A, c, rfl⟩ := Sl.len' hs
  exact ⟨⟨A, c, xs⟩, rfl, hs, hq⟩
end

theorem cells_query : Tryd.prog.cellsOf 40 = 6 := by kernel_rfl
theorem cells_bool : Tryd.prog.cellsOf 4 = 1 := by kernel_rfl
theorem cells_conds : Tryd.prog.cellsOf 23 = 1 := by kernel_rfl
theorem cells_ints : Tryd.prog.cellsOf 31 = 1 := by kernel_rfl
set_option maxRecDepth 100000 in
/-- A query by value. -/
theorem read_query {H : Type} {enc : TypeId × Value → H} {w : World} {v : Value} {d : DataW H} {p : List MemPlace} {r : Reach} {b0 : Nat} (hv : Value.okWide Tryd.prog w r b0 40 v) (h : DataW.Trod enc Tryd.prog w 0 (fun _ => true) true 40 v d p) (hlt : ∀ x ∈ p, x.block < w.heap.size) :
    ∃ (t : Int) (cv lv : Value) (ord : Int) (down : Bool) (lim : Int) (conds : List Cnd) (cs : List Int), v = .agg #[.int .i64 t, cv, lv, .int .i64 ord, .bool down, .int .i64 lim] ∧ Sl Cnd.cells 5 w cv conds ∧ Sl iCells 1 w lv cs ∧ (∀ x ∈ conds, x.v.s.size ≤ maxLen) := by
  obtain ⟨cs, rfl, hsz⟩ := okWide_struct Tryd.underlying40 hv
  obtain ⟨l⟩ := cs
  match l, hsz.trans cells_query with
  | [c0, c1, c2, c3, c4, c5], _ =>
    obtain ⟨fuel, hf⟩ := h
    obtain ⟨ys, n', -, hx, -, hyl, hg⟩ := DataW.trod_struct Tryd.underlying40 hf
    match ys, hyl with
    | [y0, y1, y2, y3, y4, y5], _ =>
      have g0 := hg 0 _ rfl
      have g1 := hg 1 _ rfl
      have g2 := hg 2 _ rfl
      have g3 := hg 3 _ rfl
      have g4 := hg 4 _ rfl
      have g5 := hg 5 _ rfl
      simp only [Value.cells, cells_int, cells_bool, cells_conds, cells_ints, List.drop_zero, List.drop_succ_cons, List.take_succ_cons, List.take_zero, List.getElem?_cons_zero, List.getElem?_cons_succ, List.getElem_toArray, List.getElem_cons_zero, List.getElem_cons_succ] at g0 g1 g2 g3 g4 g5
      simp only [Prod.mk.injEq] at hx
      have hp := hx.2
      subst hp
      obtain ⟨q0, e0, -, -⟩ := DataW.trod_int Tryd.underlying3 g0
      obtain ⟨v1, xs1, e1, hs1, hq1⟩ := read_slice (f := Cnd.cells) (size := 5) (Q := fun x => x.v.s.size ≤ maxLen) Tryd.underlying23 cells_cond (by omega) Cnd.len (fun n cs' z hz _ => el_cond hz) g1 (fun x hx => hlt x (by simp [hx]))
      obtain ⟨v2, xs2, e2, hs2, -⟩ := read_slice (f := iCells) (size := 1) (Q := fun _ => True) Tryd.underlying31 cells_int (by omega) iCells_len (fun n cs' z hz _ => by obtain ⟨x, hx⟩ := el_int hz; exact ⟨x, hx, trivial⟩) g2 (fun x hx => hlt x (by simp [hx]))
      obtain ⟨q3, e3, -, -⟩ := DataW.trod_int Tryd.underlying3 g3
      obtain ⟨q4, e4, -⟩ := DataW.trod_bool Tryd.underlying4 g4
      obtain ⟨q5, e5, -, -⟩ := DataW.trod_int Tryd.underlying3 g5
      simp at e0 e1 e2 e3 e4 e5
      subst e0 e1 e2 e3 e4 e5
      exact ⟨q0, c1, c2, q3, q4, q5, xs1, xs2, rfl, hs1, hs2, hq1⟩
theorem read_ixs {H : Type} {enc : TypeId × Value → H} {w : World} {v : Value} {d : DataW H} {p : List MemPlace} (hv : ∃ a len cap, v = .slice a len cap) (h : DataW.Trod enc Tryd.prog w 0 (fun _ => true) true 46 v d p) (hlt : ∀ x ∈ p, x.block < w.heap.size) :
    ∃ xs : List Ix, Sl Ix.cells 3 w v xs ∧ ∀ x ∈ xs, x.name.size ≤ maxLen := by
  obtain ⟨a0, len0, cap0, rfl⟩ := hv
  obtain ⟨fuel, hf⟩ := h
  obtain ⟨v1, xs1, e1, hs1, hq1⟩ := read_slice (f := Ix.cells) (size := 3) (Q := fun x => x.name.size ≤ maxLen) Tryd.underlying46 cells_ix (by omega) Ix.len (fun n cs' z hz _ => el_ix hz) hf hlt
  simp [Value.cells] at e1
  subst e1
  exact ⟨xs1, hs1, hq1⟩
theorem read_rows {H : Type} {enc : TypeId × Value → H} {w : World} {v : Value} {d : DataW H} {p : List MemPlace} (hv : ∃ a len cap, v = .slice a len cap) (h : DataW.Trod enc Tryd.prog w 0 (fun _ => true) true 22 v d p) (hlt : ∀ x ∈ p, x.block < w.heap.size) :
    ∃ R : List Rr, Sl Rr.cells 1 w v R ∧ Lies w R ∧ ∀ p ∈ R, ∀ x ∈ p.row, x.s.size ≤ maxLen := by
  obtain ⟨a0, len0, cap0, rfl⟩ := hv
  obtain ⟨fuel, hf⟩ := h
  obtain ⟨v1, xs1, e1, hs1, hq1⟩ := read_slice (f := Rr.cells) (size := 1) (Q := fun p => Sl V.cells 3 w p.hd p.row ∧ ∀ x ∈ p.row, x.s.size ≤ maxLen) Tryd.underlying22 cells_row (by omega) Rr.len (fun n cs' z hz hl => by obtain ⟨p, h1, h2, h3⟩ := el_row hz hl; exact ⟨p, h1, h2, h3⟩) hf hlt
  simp [Value.cells] at e1
  subst e1
  exact ⟨xs1, hs1, fun p hp => (hq1 p hp).1, fun p hp => (hq1 p hp).2⟩
end Go.Proofs.YtlhmencjhhpacaaDoor
