/- QueryParts: a condition, its opposite and Null part the rows. The row lists unicode/utf8.acceptRanges and .first; the card ties them to the program's text. No condition beyond the row's own. -/
import Derived.Test.YtlhmencjhhpacaaDoorParts
import Derived.Test.YtlhmencjhhpacaaDoorRead2
import Derived.Test.YtlhmencjhhpacaaDoorLift
import Derived.Test.YtlhmencjhhpacaaDoorCards
import Derived.Test.YtlhmencjhhpacaaDoorTie
import Derived.LaidMore
import Derived.Lay
import Derived.Shelf.Vars
import Derived.SevenTiedAt
import Derived.Stop.Joined
namespace Go.Proofs.YtlhmencjhhpacaaDoor
open Go.ChangeShapes Go.WideShapes Go.ChangeAt Go.RowKit Go.Joins

set_option maxRecDepth 100000 in
theorem read_cond {H : Type} {enc : TypeId × Value → H} {w : World} {v : Value} {d : DataW H} {p : List MemPlace} {r : Reach} {b0 : Nat} (hv : Value.okWide Tryd.prog w r b0 27 v) (h : DataW.Trod enc Tryd.prog w 0 (fun _ => true) true 27 v d p) :
    ∃ c : Cnd, v = .agg #[.int .i64 c.col, .int .i64 c.op, .int .i64 c.v.k, .int .i64 c.v.n, .string c.v.s] ∧ c.v.s.size ≤ maxLen := by
  obtain ⟨cs, rfl, hsz⟩ := okWide_struct Tryd.underlying27 hv
  obtain ⟨fuel, hf⟩ := h
  obtain ⟨x, hx, hs⟩ := el_cond hf
  refine ⟨x, ?_, hs⟩
  obtain ⟨l⟩ := cs
  simp only [Value.cells] at hx
  rw [← hx]
  rfl

def laidQ : List (String × DataW Unit) := Rows.queryPartsRow.laid

/-- the world is shaped, so that the library's own variable holds some integer -/
theorem maxLen_cell {W : World} (h : W.ShapedOpen Tryd.prog) : ∃ m, W.cell? ⟨0, 0, none⟩ = some (.int .i64 m) :=
  cell_of_shapedOpen_int h (g := 0) (t := 3) (zero := #[.int .i64 0]) (of_decide_eq_true (by kernel_rfl)) (by kernel_rfl) rfl (by kernel_rfl) (by kernel_rfl) Tryd.underlying3

set_option maxRecDepth 100000 in
theorem queryParts_lifted (os : Os) (started : os.Started) (H : Type) (enc : TypeId × Value → H) :
    ReturnsInHanded {} Tryd.checked os 3 .any (fun w args => (Rows.queryPartsSpec.pre enc Tryd.prog Tryd.f3 Rows.queryPartsRow.domain false w args ∧ laidMetH Tryd.prog laidQ w) ∧ sizedMet enc Tryd.prog Tryd.f3 (OpenSpec.ofChange Rows.queryPartsSpec) false w args)
      (Rows.queryPartsSpec.post enc Tryd.prog Tryd.f3 false true false false) := by
  refine returnsInHanded_of_calls own0 started (by kernel_rfl)
    (ChangeSpec.witness_shaped (enc := enc) (C := Tryd.checked) (os := os) (X := fun w _ => laidMetH Tryd.prog laidQ w) false (World.laidAll Tryd.prog os laidQ) #[.slice none 0 0, .slice none 0 0, .agg #[.int .i64 0, .int .i64 0, .int .i64 0, .int .i64 0, .string ⟨#[]⟩]] 8 (World.laidAll_os _ _ _)
      (World.shaped_of_ZipB (by kernel_rfl) (by kernel_rfl)) (by kernel_rfl) (by kernel_rfl) (by kernel_rfl)
      (by rw [MakeChecks.laidMetH_plain _ _ _ (by kernel_rfl)]; exact laidMet_laidAll _ (by kernel_rfl) (by kernel_rfl))) ?_
  intro w tape i _ hsh _ hok hpre hholds
  obtain ⟨_, _, _, fn', hfn', _, _, _, _, hval1⟩ := hok
  have e : fn' = Tryd.f3 := Option.some.inj (hfn'.symm.trans Tryd.func3)
  subst e
  obtain ⟨⟨⟨ds, gs, before, hw1, hc⟩, hx⟩, hz⟩ := hpre
  have hW := DataW.Whole.of_heap (w' := w.forCall tape i) (by rfl) hw1
  suffices Calls Tryd.prog 3 i.args (w.forCall tape i) fun e W' => ∃ v, e = .returned v ∧ Rows.queryPartsSpec.post enc Tryd.prog Tryd.f3 false true false false (w.forCall tape i) i.args v W' from
    this.mono fun e W' ⟨v, he, hp⟩ => by subst he; exact ChangeSpec.post_blind hp
  obtain ⟨m, hm⟩ := maxLen_cell hsh
  clear hsh hw1 hz hx hc hholds
  generalize w.forCall tape i = W at *
  generalize i.args = args at *
  have hval : ∀ (j : Nat) t v, Tryd.f3.params[j]? = some t → args[j]? = some v → Value.okWide Tryd.prog W .any w.heap.size t v := hval1
  have hW' := hW
  obtain ⟨p, q, hA0, hV, rfl, hfz, hnd⟩ := hW
  have hA : DataW.TrodAll enc Tryd.prog W 0 (fun _ => true) true Tryd.f3.params.toList args.toList ds p := hA0
  rw [Tryd.params3] at hA hval
  obtain ⟨v0, v1, v2, d0, d1, d2, p0, p1, p2, rfl, rfl, rfl, h0, h1, h2⟩ := trodAll_three hA
  have hlt : ∀ x ∈ p0 ++ p1 ++ p2, x.block < W.heap.size := fun x hx => hW'.lt x (List.mem_append_left _ hx)
  obtain ⟨R, hrv, hL, hs⟩ := read_rows (okWide_slice Tryd.underlying22 (hval 0 22 v0 rfl rfl)) h0 (fun x hx => hlt x (by simp [hx]))
  obtain ⟨a1, n1, c1, rfl⟩ := okWide_slice Tryd.underlying23 (hval 1 23 v1 rfl rfl)
  obtain ⟨fuel, hf⟩ := h1
  obtain ⟨v1', conds, e1, hcv, hcs⟩ := read_slice (f := Cnd.cells) (size := 5) (Q := fun x => x.v.s.size ≤ maxLen) Tryd.underlying23 cells_cond (by omega) Cnd.len (fun n cs' z hz _ => el_cond hz) hf (fun x hx => hlt x (by simp at hx; simp [hx]))
  simp [Value.cells] at e1
  subst e1
  obtain ⟨c, rfl, hc0⟩ := read_cond (hval 2 27 v2 rfl rfl) h2
  refine (parts_any v0 _ R conds c W hrv hL hs hcv hcs hc0 ⟨m, hm⟩).mono fun e W' ⟨he, hb⟩ => ?_
  exact ⟨_, he, law_post rfl rfl (of_decide_eq_true (by kernel_rfl)) rfl hW' hb⟩

set_option maxRecDepth 100000 in
theorem queryParts_row : Rows.QueryPartsSaid :=
  OpenClaim.holds_of_wide 3 Tryd.f3 rfl rfl rfl rfl rfl rfl rfl ⟨rfl, rfl, rfl, rfl, rfl⟩ rfl rfl rfl rfl rfl (by kernel_rfl) Tryd.func3 (by kernel_rfl)
    (of_decide_eq_true (by kernel_rfl)) (by unfold Func.isWrapper; first | (rw [if_pos (by decide +kernel)]; kernel_rfl) | (rw [if_neg (by decide +kernel)]; exact ⟨rfl, rfl⟩))
    (fun os started H enc _ => queryParts_lifted os started H enc)

set_option maxRecDepth 100000 in
theorem queryParts_holds : Rows.QueryPartsCardSaid :=
  Claim7.holds_tied_plain_at .later [] [.data, .pinned] true (true, "2215cc75d2716902c2f59bdfca3c283d989f4d5abddeb62f5a614a5fe47b54e4") false queryParts_row (fun _ h => by cases h) (by kernel_rfl) (fun _ h => by cases h) queryParts_row_tie rfl ⟨rfl, rfl⟩ (by kernel_rfl) rfl
    (fun f fn hf hfn => by
      obtain rfl : f = 3 := Option.some.inj ((show Tryd.prog.funcNamed "cahier/cahierlaw20.QueryParts" = some 3 by kernel_rfl).symm.trans hf) |>.symm
      obtain rfl : fn = Tryd.f3 := (Option.some.inj (Tryd.func3.symm.trans hfn)).symm
      exact ⟨by kernel_rfl, fun j t ht => by
        rw [Tryd.params3] at ht
        have hm : t ∈ [22, 23, 27] := by simpa using Array.mem_of_getElem? ht
        have hall : ([22, 23, 27].all fun u => !Tryd.prog.wantsStandIn u) = true := by kernel_rfl
        exact (show Tryd.prog.wantsStandIn t = false by simpa using List.all_eq_true.1 hall t hm)⟩)
    (by kernel_rfl)
end Go.Proofs.YtlhmencjhhpacaaDoor
