/- Arguments of the cache laws, read as lists. -/
import Derived.Test.YtjjiclbngoldaaaRead
import Derived.Test.YtjjiclbngoldaaaCaLast
namespace Go.Proofs.Ytjjiclbngoldaaa
open Go.ChangeShapes Go.WideShapes Go.ChangeAt Go.RowKit Go.Deep Go.Joins

section
variable {H : Type} {enc : TypeId × Value → H} {w : World}
theorem cells_int : Try.prog.cellsOf 3 = 1 := by kernel_rfl
theorem cells_str : Try.prog.cellsOf 9 = 1 := by kernel_rfl
theorem cells_bool : Try.prog.cellsOf 4 = 1 := by kernel_rfl
theorem cells_page : Try.prog.cellsOf 29 = 2 := by kernel_rfl
theorem cells_act : Try.prog.cellsOf 43 = 4 := by kernel_rfl

/-- a slice, by its elements' reader -/
theorem read_slice {α : Type} {f : α → List Value} {size : Nat} {Q : α → Prop} {t e : TypeId} {fuel : Nat} {cs : List Value} {y : DataW H × List MemPlace} (ht : Try.prog.underlying t = some (.slice e)) (hC : Try.prog.cellsOf e = size) (hp : 0 < size) (hsz : ∀ x, (f x).length = size)
    (hel : ∀ (n : Nat) (cs' : List Value) (z : DataW H × List MemPlace), DataW.trod enc Try.prog w 0 (fun _ => true) true n e cs' = some z → (∀ x ∈ z.2, x.block < w.heap.size) → ∃ x : α, f x = cs' ∧ Q x)
    (h : DataW.trod enc Try.prog w 0 (fun _ => true) true fuel t cs = some y) (hlt : ∀ x ∈ y.2, x.block < w.heap.size) : ∃ (v : Value) (xs : List α), cs = [v] ∧ Sl f size w v xs ∧ ∀ x ∈ xs, Q x := by
  rcases open_slice ht h with ⟨h0, _⟩ | ⟨a, len, cap, m, n, D, Pl, hcs, hb, hl, hm, hmm, hx, hi⟩
  · exact ⟨_, [], h0, Sl.nil, fun x hx => by cases hx⟩
  · simp only [if_true] at hmm
    obtain ⟨xs, hxl, hR⟩ := list_of_all (R := fun i (x : α) => (∀ j u, (f x)[j]? = some u → w.cell? (a.add (i * size + j)) = some u) ∧ Q x) len (fun i hil => by
      obtain ⟨cs', hc, ht'⟩ := hi i (by omega)
      rw [hC] at hc
      obtain ⟨_, hcl, hat⟩ := World.cells?_some hc
      obtain ⟨x, hfx, hq⟩ := hel n cs' _ ht' (fun z hz => hlt z (by rw [hx]; exact List.mem_append_right _ (List.mem_flatMap.2 ⟨i, List.mem_range.2 (by omega), hz⟩)))
      refine ⟨x, fun j u hu => ?_, hq⟩
      rw [hfx] at hu
      have hj : j < size := by
        rcases Nat.lt_or_ge j cs'.length with h | h
        · omega
        · rw [List.getElem?_eq_none h] at hu; cases hu
      rw [← Go.Deep.add_add, hat j hj]
      exact hu)
    refine ⟨_, xs, hcs, sl_of_cells hxl hp hsz (fun i h => (hR i h).1) (fun h0 => ?_), fun x hx' => ?_⟩
    · refine hlt (.cell a.block a.off) ?_
      rw [hx]
      refine List.mem_append_left _ ?_
      rw [hC]
      exact List.mem_map.2 ⟨0, List.mem_range.2 (Nat.mul_pos (by omega) hp), rfl⟩
    · obtain ⟨i, hi', rfl⟩ := List.getElem_of_mem hx'
      exact (hR i hi').2

/-- A call (cahierlaw12.Act). -/
structure Ac where
  k : Int
  n : Int
  s : ByteArray
  d : Bool
def Ac.cells (x : Ac) : List Value := [.int .i64 x.k, .int .i64 x.n, .string x.s, .bool x.d]
theorem Ac.len (x : Ac) : x.cells.length = 4 := rfl

theorem el_int {n : Nat} {cs : List Value} {z : DataW H × List MemPlace} (h : DataW.trod enc Try.prog w 0 (fun _ => true) true n 3 cs = some z) : ∃ x : Int, iC x = cs ∧ wfI x := by
  obtain ⟨x, hc, _, hw⟩ := DataW.trod_int Try.underlying3 h
  exact ⟨x, hc.symm, hw⟩
set_option maxRecDepth 100000 in
theorem el_page {n : Nat} {cs : List Value} {z : DataW H × List MemPlace} (h : DataW.trod enc Try.prog w 0 (fun _ => true) true n 29 cs = some z) : ∃ x : Pg, x.cells = cs ∧ wfI x.n := by
  obtain ⟨ys, n', -, -, hl, hyl, hg⟩ := DataW.trod_struct Try.underlying29 h
  rw [cells_page] at hl
  match cs, hl with
  | [c0, c1], _ =>
    match ys, hyl with
    | [y0, y1], _ =>
      have g0 := hg 0 _ rfl
      have g1 := hg 1 _ rfl
      simp only [cells_int, cells_str, List.drop_zero, List.drop_succ_cons, List.take_succ_cons, List.take_zero, List.getElem?_cons_zero, List.getElem?_cons_succ, List.getElem_toArray, List.getElem_cons_zero, List.getElem_cons_succ] at g0 g1
      obtain ⟨q0, e0, -, w0⟩ := DataW.trod_int Try.underlying3 g0
      obtain ⟨q1, e1, -, -⟩ := DataW.trod_string Try.underlying9 g1
      simp at e0 e1
      subst e0 e1
      exact ⟨⟨q0, q1⟩, rfl, w0⟩
set_option maxRecDepth 100000 in
theorem el_act {n : Nat} {cs : List Value} {z : DataW H × List MemPlace} (h : DataW.trod enc Try.prog w 0 (fun _ => true) true n 43 cs = some z) : ∃ x : Ac, x.cells = cs ∧ wfI x.n := by
  obtain ⟨ys, n', -, -, hl, hyl, hg⟩ := DataW.trod_struct Try.underlying43 h
  rw [cells_act] at hl
  match cs, hl with
  | [c0, c1, c2, c3], _ =>
    match ys, hyl with
    | [y0, y1, y2, y3], _ =>
      have g0 := hg 0 _ rfl
      have g1 := hg 1 _ rfl
      have g2 := hg 2 _ rfl
      have g3 := hg 3 _ rfl
      simp only [cells_int, cells_str, cells_bool, List.drop_zero, List.drop_succ_cons, List.take_succ_cons, List.take_zero, List.getElem?_cons_zero, List.getElem?_cons_succ, List.getElem_toArray, List.getElem_cons_zero, List.getElem_cons_succ] at g0 g1 g2 g3
      obtain ⟨q0, e0, -, -⟩ := DataW.trod_int Try.underlying3 g0
      obtain ⟨q1, e1, -, w1⟩ := DataW.trod_int Try.underlying3 g1
      obtain ⟨q2, e2, -, -⟩ := DataW.trod_string Try.underlying9 g2
      obtain ⟨q3, e3, -⟩ := DataW.trod_bool Try.underlying4 g3
      simp at e0 e1 e2 e3
      subst e0 e1 e2 e3
      exact ⟨⟨q0, q1, q2, q3⟩, rfl, w1⟩
end
theorem read_ints {H : Type} {enc : TypeId × Value → H} {w : World} {v : Value} {d : DataW H} {p : List MemPlace} (hv : ∃ a len cap, v = .slice a len cap) (h : DataW.Trod enc Try.prog w 0 (fun _ => true) true 23 v d p) (hlt : ∀ x ∈ p, x.block < w.heap.size) :
    ∃ xs : List Int, Sl iC 1 w v xs ∧ ∀ x ∈ xs, wfI x := by
  obtain ⟨a0, len0, cap0, rfl⟩ := hv
  obtain ⟨fuel, hf⟩ := h
  obtain ⟨v1, xs1, e1, hs1, hq1⟩ := read_slice (f := iC) (size := 1) (Q := fun x => wfI x) Try.underlying23 cells_int (by omega) iC_len (fun n cs' z hz _ => el_int hz) hf hlt
  simp [Value.cells] at e1
  subst e1
  exact ⟨xs1, hs1, hq1⟩
theorem read_pages {H : Type} {enc : TypeId × Value → H} {w : World} {v : Value} {d : DataW H} {p : List MemPlace} (hv : ∃ a len cap, v = .slice a len cap) (h : DataW.Trod enc Try.prog w 0 (fun _ => true) true 22 v d p) (hlt : ∀ x ∈ p, x.block < w.heap.size) :
    ∃ xs : List Pg, Sl Pg.cells 2 w v xs ∧ ∀ x ∈ xs, wfI x.n := by
  obtain ⟨a0, len0, cap0, rfl⟩ := hv
  obtain ⟨fuel, hf⟩ := h
  obtain ⟨v1, xs1, e1, hs1, hq1⟩ := read_slice (f := Pg.cells) (size := 2) (Q := fun x => wfI x.n) Try.underlying22 cells_page (by omega) Pg.len (fun n cs' z hz _ => el_page hz) hf hlt
  simp [Value.cells] at e1
  subst e1
  exact ⟨xs1, hs1, hq1⟩
theorem read_acts {H : Type} {enc : TypeId × Value → H} {w : World} {v : Value} {d : DataW H} {p : List MemPlace} (hv : ∃ a len cap, v = .slice a len cap) (h : DataW.Trod enc Try.prog w 0 (fun _ => true) true 39 v d p) (hlt : ∀ x ∈ p, x.block < w.heap.size) :
    ∃ xs : List Ac, Sl Ac.cells 4 w v xs ∧ ∀ x ∈ xs, wfI x.n := by
  obtain ⟨a0, len0, cap0, rfl⟩ := hv
  obtain ⟨fuel, hf⟩ := h
  obtain ⟨v1, xs1, e1, hs1, hq1⟩ := read_slice (f := Ac.cells) (size := 4) (Q := fun x => wfI x.n) Try.underlying39 cells_act (by omega) Ac.len (fun n cs' z hz _ => el_act hz) hf hlt
  simp [Value.cells] at e1
  subst e1
  exact ⟨xs1, hs1, hq1⟩
end Go.Proofs.Ytjjiclbngoldaaa
