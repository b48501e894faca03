/- The walk of a cache's Dirty. -/
import Derived.Test.YtjjiclbngoldaaaCaVals
import Derived.Test.YtjjiclbngoldaaaCaSort
import Derived.RangeFuncBox
import Derived.Shelf.RegionOpen
import Derived.Maps.AppendAt
namespace Go.Proofs.Ytjjiclbngoldaaa
open Go.RowKit Go.Maps Go.Sort Go.Shelf

attribute [local go_sem] Oper.semAt_some

/-- append, closed to the walk's simp: its run is laid as an equation -/
def appSem (ts : Array TypeId) (ty : TypeId) (args : Array Value) := Builtin.append_ ts ty args
theorem app_eq (ts : Array TypeId) (ty : TypeId) (args : Array Value) : Builtin.append_ ts ty args = appSem ts ty args := rfl

theorem infoP : (Try.prog.info? 29).map (fun i => (i.zero, i.size, i.bytes)) = some (some (.agg #[.int .i64 0, .string ⟨#[]⟩]), 2, 24) := by kernel_rfl

/-- the dirty pages among those that have come -/
def dPg (E : Nat → En) {K : List (Int × Nat)} (ps : List (Pr K)) : List Pg := (ps.filter fun p => (E p.1.2).d).map fun p => ⟨(E p.1.2).n, (E p.1.2).s⟩
theorem dPg_hit {E : Nat → En} {K : List (Int × Nat)} (ps : List (Pr K)) {p : Pr K} (h : (E p.1.2).d = true) : dPg E (ps ++ [p]) = dPg E ps ++ [⟨(E p.1.2).n, (E p.1.2).s⟩] := by simp [dPg, h]
theorem dPg_miss {E : Nat → En} {K : List (Int × Nat)} (ps : List (Pr K)) {p : Pr K} (h : (E p.1.2).d = false) : dPg E (ps ++ [p]) = dPg E ps := by simp [dPg, h]

theorem cell_two_new (w : World) (x y : Value) (t : TypeId) : ∀ j u, [x, y][j]? = some u → (w.alloc (.cells #[x, y] t)).cell? ((⟨w.heap.size, 0, none⟩ : Addr).add j) = some u := by
  intro j u hj
  match j, hj with
  | 0, hj => simp at hj; subst hj; simp [Addr.add]
  | 1, hj => simp at hj; subst hj; simp [Addr.add]
theorem pr_mem {gs : List Nat} {E : Nat → En} (p : Pr (gs.map fun g => ((E g).n, g))) : p.1.2 ∈ gs := by
  obtain ⟨g, hg, e⟩ := List.mem_map.1 p.2
  rw [← e]
  exact hg
theorem dPg_perm {gs : List Nat} {E : Nat → En} {ys : List (Pr (gs.map fun g => ((E g).n, g)))} (hp : (ys.map (·.1)).Perm (gs.map fun g => ((E g).n, g))) : (dPg E ys).Perm (((vals gs E).filter fun x => x.2.2).map pgOf) := by
  have e1 : dPg E ys = ((ys.map (·.1)).filter fun p => (E p.2).d).map fun p => (⟨(E p.2).n, (E p.2).s⟩ : Pg) := by
    unfold dPg
    rw [List.filter_map, List.map_map]
    rfl
  have e2 : ((vals gs E).filter fun x => x.2.2).map pgOf = ((gs.map fun g => ((E g).n, g)).filter fun p => (E p.2).d).map fun p => (⟨(E p.2).n, (E p.2).s⟩ : Pg) := by
    unfold vals
    rw [List.filter_map, List.map_map, List.filter_map, List.map_map]
    rfl
  rw [e1, e2]
  exact (hp.filter _).map _
theorem dirty_nd {gs : List Nat} {E : Nat → En} (h : ((gs.map fun g => ((E g).n, g)).map (·.1)).Nodup) : ((((vals gs E).filter fun x => x.2.2).map pgOf).map (·.n)).Nodup := by
  have : (((vals gs E).filter fun x => x.2.2).map pgOf).map (·.n) = ((vals gs E).filter fun x => x.2.2).map (·.1) := by rw [List.map_map]; rfl
  rw [this]
  refine List.Nodup.sublist ((List.filter_sublist).map _) ?_
  have : (vals gs E).map (·.1) = (gs.map fun g => ((E g).n, g)).map (·.1) := by unfold vals; rw [List.map_map, List.map_map]; rfl
  rw [this]
  exact h
theorem merge_perm {xs ys : List Pg} (hp : ys.Perm xs) (hnd : (xs.map (·.n)).Nodup) : ys.mergeSort leP = xs.mergeSort leP := by
  have tr : ∀ a b c : Pg, leP a b = true → leP b c = true → leP a c = true := fun a b c h1 h2 => by simp only [leP, decide_eq_true_eq] at *; omega
  have to : ∀ a b : Pg, (leP a b || leP b a) = true := fun a b => by simp only [leP, Bool.or_eq_true, decide_eq_true_eq]; omega
  exact pg_sorted ((List.mergeSort_perm ys leP).trans hp) hnd ((List.pairwise_mergeSort tr to ys).imp fun h => by simpa [leP] using h)
theorem sl_ch {α : Type} {f : α → List Value} {size : Nat} {w w' : World} {v : Value} {xs : List α} {S : Nat → Prop} (h : Sl f size w v xs) (hc : Ch S w w') (hn : ∀ k, v.ownBlock = some k → ¬ S k) : Sl f size w' v xs := by
  obtain ⟨A, c, rfl, h⟩ := h
  refine ⟨A, c, rfl, fun hne => ?_⟩
  obtain ⟨b, off, rfl, hlt, hx⟩ := h hne
  have hb : w'.heap[b]? = w.heap[b]? := hc.block b hlt (hn b rfl)
  refine ⟨b, off, rfl, Nat.lt_of_lt_of_le hlt hc.size, fun i x hx' j u hu => ?_⟩
  rw [World.cell?_of_block (a := ⟨b, off + i * size + j, none⟩) hb]
  exact hx i x hx' j u hu
/-- the dirty pages, rising -/
def dirtyL (L : List (Int × ByteArray × Bool)) : List Pg := ((L.filter fun x => x.2.2).map pgOf).mergeSort leP
def DirtyP (L : List (Int × ByteArray × Bool)) (w : World) (e : Ending) (w' : World) : Prop := ∃ v, e = .returned v ∧ Sl Pg.cells 2 w' v (dirtyL L) ∧ New w v ∧ Below w.heap.size w w'
attribute [local go_sem ↓] app_eq
set_option maxRecDepth 100000 in
set_option maxHeartbeats 2000000 in
theorem dirty_in (F : Fence) (n : Nat) (h3 : F.fn 11) (h4 : F.fn 26) (h5 : F.fn 31) (h6 : F.fn 27) (hro : F.round = none) (hn : 3 ≤ n)
    (hso : ∀ (m : Nat) (args : Array Value) (W : World) (Q : Ending → World → Prop), Calls Try.prog 27 args W Q → CallsIn F m Try.prog 27 args W Q)
    {gc gr gm : Nat} {size : Int} {gs : List Nat} {E : Nat → En} (w : World) (h : CaIs w gc gr gm size gs E) (hl : (gs.length : Int) ≤ size) (h2 : size ≤ 256) :
    CallsIn F n Try.prog 11 #[.pointer (some ⟨gc, 0, none⟩)] w (DirtyP (vals gs E) w) := by
  have HSO := Lib.hid hso
  clear hso
  have h1 : 1 ≤ n := by omega
  obtain ⟨i0, hi, hz0, hz1, hz2⟩ := info_parts infoP
  have c2 := h.cell 2
  have hgm := h.map.lt
  have hgc := lt_of_heap h.bc
  have H := Lib.hid h
  clear h
  refine callsIn_of_wp_marks Try.func11 rfl h3 ?_ hro
  simp only [Try.ntmps11, List.size_toArray, List.length_cons, List.length_nil, Nat.reduceAdd, Nat.reduceSub, Array.replicate_succ, Array.replicate_zero, List.push_toArray, List.append_toArray, List.nil_append, List.cons_append]
  gi_wp2_with (gi_at_call 26; refine (values_in F (n - 1) h4 hro _ _).mono ?_; rintro e w' ⟨rfl, rfl⟩)
  have bO := Boxed.new w 22 (.slice none 0 0)
  have bN := Boxed.new (w.alloc (.cells #[.slice none 0 0] 22)) 51 (.map (some gm))
  rw [World.size_alloc] at bN
  have hB0 : Below w.heap.size w ((w.alloc (.cells #[.slice none 0 0] 22)).alloc (.cells #[.map (some gm)] 51)) := ((Below.refl _ w).alloc (Nat.le_refl _) _).alloc (by simp) _
  have hmap0 : MapIs ((w.alloc (.cells #[.slice none 0 0] 22)).alloc (.cells #[.map (some gm)] 51)) gm (gs.map fun g => ((E g).n, g)) := H.out.map.block (hB0.block gm hgm)
  refine wpIn_rangeFunc_ownG hro h1 (gf := 31) (lb := #[.pointer (some ⟨w.heap.size + 1, 0, none⟩)]) rfl h5 (enters_of Try.func31 (by kernel_rfl) rfl)
    (values_stops F (n - 1) h5 hro (by omega) (w.heap.size + 1) gm _ _ (by simp) bN.cell hmap0) walksK_t walksK_b (Below.refl _ _) (fun _ => rfl)
    (fun pre W => (∃ v, Boxed W w.heap.size 22 v ∧ W.ownsRow w.heap.size 29 2 v (dPg E pre).length ((dPg E pre).flatMap Pg.cells) ∧ (v = .slice none 0 0 ↔ dPg E pre = [])) ∧ Below w.heap.size w W)
    (fun _ _ _ => False)
    (OwnFrom.and (Go.Own.from (holdsRow_own w.heap.size w.heap.size 22 29 2 (fun pre => (dPg E pre).length) (fun pre => (dPg E pre).flatMap Pg.cells) (fun pre v => v = .slice none 0 0 ↔ dPg E pre = [])) _) (ownFrom_below (Nat.le_refl _) (by simp; omega)))
    (fun _ _ _ _ _ hs _ _ => hs)
    ⟨⟨_, bO.alloc _, World.ownsRow_nil _ _ _ _, by simp [dPg]⟩, hB0⟩
    (fun x => { tmps := #[.pointer (some ⟨gc, 0, none⟩), undef, .slice none 0 0, .pointer (some ⟨w.heap.size, 0, none⟩), encPr x, .pointer (some ⟨gc, 0, none⟩), .bool false, .pointer (some ⟨gc, 0, none⟩), .pointer (some ⟨gc, 0, none⟩), .pointer (some ⟨gc, 2, none⟩), .map (some gm), .func (.func 31) #[] #[.pointer (some ⟨w.heap.size + 1, 0, none⟩)], encPr x, undef, undef, undef, undef, undef, undef, undef, undef, undef, undef, undef, undef, undef, undef], defers := [] }) ?assign ?body ?done ?stop
  case assign =>
    intro l x W K hK
    gi_wp2
    exact hK
  case body =>
    rintro l pre x W ⟨⟨v, hv, hrow, hnil⟩, hB⟩ hlt
    have hc := hv.cell
    have hpl : (dPg E pre).length ≤ pre.length := by unfold dPg; rw [List.length_map]; exact List.length_filter_le _ _
    rw [List.length_map] at hlt
    have hx := pr_mem x
    have hxl := H.out.mem.lt (g := x.1.2) (List.mem_cons_of_mem _ hx)
    have d0 := (hB.cell (p := ⟨x.1.2, 0, none⟩) hxl).trans (H.out.mem.cell (g := x.1.2) (List.mem_cons_of_mem _ hx) 0)
    have d1 := (hB.cell (p := ⟨x.1.2, 1, none⟩) hxl).trans (H.out.mem.cell (g := x.1.2) (List.mem_cons_of_mem _ hx) 1)
    have d2 := (hB.cell (p := ⟨x.1.2, 2, none⟩) hxl).trans (H.out.mem.cell (g := x.1.2) (List.mem_cons_of_mem _ hx) 2)
    dsimp only [encPr]
    cases hd : (E x.1.2).d
    · rw [hd] at d2
      have HD := Lib.hid hd
      clear hd
      gi_wp2
      exact ⟨KeepsFrom.refl _ _, (KeepsOthers.refl _).walks, ⟨v, hv, by rw [dPg_miss pre HD.out]; exact hrow, by rw [dPg_miss pre HD.out]; exact hnil⟩, hB⟩
    · rw [hd] at d2
      have HD := Lib.hid hd
      clear hd
      have hown : Own Pg.cells 2 29 w.heap.size W v (dPg E pre) := hrow
      have hgl := H.out.bc
      have hlen : (dPg E pre).length < 256 := by omega
      obtain ⟨v', w1, hr, ho, hg, hat⟩ := run_append_sl (P := Try.prog) elP 22 (World.ownsRow.drew (hown.alloc (.cells #[.int .i64 (E x.1.2).n, .string (E x.1.2).s] 29)) : Own Pg.cells 2 29 w.heap.size ((W.alloc (.cells #[.int .i64 (E x.1.2).n, .string (E x.1.2).s] 29)).drew) v (dPg E pre))
        ((Sl.one (⟨(E x.1.2).n, (E x.1.2).s⟩ : Pg) (c := 1) rfl Pg.len rfl).keep ((Below.refl _ _).drew)) (by simp [maxLen]; omega) (by simp; omega) (by have := hB.size; simp; omega)
      have hr' : (appSem #[22, 22] 22 #[v, .slice (some ⟨W.heap.size, 0, none⟩) 1 1]).run Try.prog ((W.alloc (.cells #[.int .i64 (E x.1.2).n, .string (E x.1.2).s] 29)).drew) = .ok v' w1 := hr
      clear hr
      have hg' : (W.alloc (.cells #[.int .i64 (E x.1.2).n, .string (E x.1.2).s] 29)).grownBy w1 v.ownBlock := ⟨hg.os, hg.tape, hg.output, hg.size, hg.block⟩
      have ho' : w1.ownsRow w.heap.size 29 2 v' ((dPg E pre).length + 1) ((dPg E (pre ++ [x])).flatMap Pg.cells) := by
        rw [dPg_hit pre HD.out]
        have := ho
        unfold Own at this
        rw [List.length_append] at this
        exact this
      obtain ⟨g', cap', rfl⟩ := ownsRow_succ ho'
      obtain ⟨hv1, hv2, hr2, hk2, hb2⟩ := hv.appended (by decide) hrow hB.size (Nat.le_refl _) ho' hg'
      have hc1 := hv1.cell
      have hf1 := hv1.frozen
      have HR2 := Lib.hid hr2
      have HV2 := Lib.hid hv2
      have HK2 := Lib.hid hk2
      have HB2 := Lib.hid hb2
      clear ho hg hat hg' ho' hv1 hv2 hr2 hk2 hb2 hown hgl hrow
      have hwl : w.heap.size < W.heap.size := World.block_lt_of_cell? W _ hc
      have hxw : x.1.2 < W.heap.size := Nat.lt_of_lt_of_le hxl hB.size
      have hmx : Try.prog.follows .mixedOrders = true := by kernel_rfl
      gi_wp2
      gi_region_with_o (fail)
      all_goals
        gi_wp2
        exact ⟨HK2.out.from _, HK2.out.walks, ⟨_, HV2.out, by rw [dPg_hit pre HD.out, List.length_append, ← dPg_hit pre HD.out]; exact HR2.out, by rw [dPg_hit pre HD.out]; simp⟩, hB.trans HB2.out⟩
  case done =>
    rintro D ys W hD hperm ⟨⟨v, hv, hrow, hnil⟩, hB⟩ hK
    have hc := hv.cell
    have hpm := dPg_perm hperm
    have hnd := dirty_nd (E := E) H.out.map.nd
    have hnd2 : ((dPg E ys).map (·.n)).Nodup := ((hpm.map _).nodup_iff).2 hnd
    have HDL := Lib.hid (show dirtyL (vals gs E) = (dPg E ys).mergeSort leP from (merge_perm hpm hnd).symm)
    have hln : (dPg E ys).length ≤ 256 := by
      have h1 := hpm.length_eq
      rw [List.length_map] at h1
      have h3 := List.length_filter_le (fun x : Int × ByteArray × Bool => x.2.2) (vals gs E)
      unfold vals at h3 h1
      rw [List.length_map] at h3
      omega
    have hDw : w.heap.size ≤ D := by simp at hD; omega
    by_cases h0 : dPg E ys = []
    · obtain rfl := hnil.2 h0
      rw [h0] at HDL
      clear hnil hrow hpm hnd hnd2 hln h0 hperm
      gi_wp2
      refine (HSO.out _ _ _ _ (sort_none none 0 (.func (.func 28) #[] #[]) W)).mono ?_
      rintro e w' ⟨rfl, rfl⟩
      gi_wp2
      refine ⟨by simp, .inl ⟨_, _, rfl, run_takeDeferred hK, ?_⟩⟩
      refine ⟨_, results_tmp rfl _ _ _, .slice none 0 0, rfl, by rw [HDL.out, List.mergeSort_nil]; exact Sl.nil, New.nil, hB.trans (belowK_b (w := w) (Nat.le_refl _) W D _ _ hDw hK rfl rfl)⟩
    · obtain ⟨g, cap, rfl⟩ : ∃ g cap, v = .slice (some ⟨g, 0, none⟩) (dPg E ys).length cap := by
        rcases hrow.2 with ⟨_, hh⟩ | ⟨g, cap, _, hh, _⟩
        · exact absurd (List.eq_nil_of_length_eq_zero hh) h0
        · exact ⟨g, cap, hh⟩
      have hbg : g ≠ w.heap.size := fun e => (hv.not_row (by decide) hrow) (by simp [Value.ownBlock, e])
      have hDg : D ≠ g := fun e => by
        rcases hrow.2 with ⟨hh, _⟩ | ⟨g', _, _, hh, _, hg', _⟩
        · cases hh
        · cases hh; rw [← e, hK] at hg'; cases hg'
      have hgw : w.heap.size ≤ g := (World.ownsRow.lt hrow g rfl).1
      have HSP := Lib.hid (sort_pg w.heap.size g cap (dPg E ys) W hrow hnd2 (by omega))
      clear hnil hpm hnd hnd2 hln h0 hperm
      gi_wp2
      refine (HSO.out _ _ _ _ HSP.out).mono ?_
      rintro e w' ⟨rfl, hsl, hch⟩
      have hc' := hch.cell hc (fun e => hbg e.symm)
      have hK' := hch.keep hK hDg
      have HSL := Lib.hid hsl
      have HCH := Lib.hid hch
      clear hsl hch hrow hc
      gi_wp2
      refine ⟨by simp, .inl ⟨_, _, rfl, run_takeDeferred hK', ?_⟩⟩
      have hB2 := hB.trans (HCH.out.below (B := w.heap.size) (by have := hB.size; omega) (fun k e => by rw [e]; exact hgw))
      refine ⟨_, results_tmp rfl _ _ _, _, rfl, by rw [HDL.out]; exact sl_ch HSL.out (Ch.of_grown (S := fun k => k = D) (grownBy_putObj' _ D (.deferred none)) (fun k e => by cases e; rfl)) (fun k e => by cases e; exact fun e => hDg e.symm), fun k e => by cases e; exact hgw, hB2.trans (belowK_b (w := w) (Nat.le_refl _) w' D _ _ hDw hK' rfl rfl)⟩
  case stop =>
    rintro D c pre W _ _ h _
    exact h.elim

theorem dirty_is {gc gr gm : Nat} {size : Int} {gs : List Nat} {E : Nat → En} (w : World) (h : CaIs w gc gr gm size gs E) (hl : (gs.length : Int) ≤ size) (h2 : size ≤ 256) :
    Calls Try.prog 11 #[.pointer (some ⟨gc, 0, none⟩)] w (DirtyP (vals gs E) w) :=
  (callsIn_wide (n := 5)).1 (dirty_in Fence.wide 5 trivial trivial trivial trivial rfl (by omega) (fun _ _ _ _ h => callsIn_wide.2 h) w h hl h2)
theorem dirty_nil (w : World) : Calls Try.prog 11 #[.pointer none] w fun e w' => e = .returned (.slice none 0 0) ∧ w = w' := by
  go_enter Try.func11, Try.ntmps11
  go_wp2_with fail
  go_ret
  exact ⟨rfl, rfl⟩
end Go.Proofs.Ytjjiclbngoldaaa
