/- The walk of cahierlaw12.CacheExact. -/
import Derived.Test.YtjjiclbngoldaaaCaLoses
import Derived.Test.YtjjiclbngoldaaaCaRead
import Derived.Test.YtjjiclbngoldaaaRfSame
import Derived.Test.YtjjiclbngoldaaaRfLaw
import Derived.Deep.CutBlock
import Derived.Deep.RegionHeld3
namespace Go.Proofs.Ytjjiclbngoldaaa
open Go.RowKit

/-- the cache holds Lc, the reference's Lr; what memory is whose -/
structure Ex (base : Nat) (w : World) (a : Addr) (gu : Nat) (lv : Value) (z : Int) (F : Nat → Prop) (Lc Lr : List On) : Prop where
  ca : Ca w F (.pointer (some a)) z Lc
  rf : Rf w gu lv z Lr
  fb : ∀ j, F j → base ≤ j
  fl : ∀ j, F j → j < w.heap.size
  gF : ¬ F gu
  gb : base ≤ gu
  lb : ∀ j, lv.ownBlock = some j → base ≤ j ∧ ¬ F j
section
variable {base : Nat} {w w' : World} {a : Addr} {gu : Nat} {lv : Value} {z : Int} {F : Nat → Prop} {Lc Lr : List On}
theorem Ex.ca_to (h : Ex base w a gu lv z F Lc Lr) (hb : base ≤ w.heap.size) {F' : Nat → Prop} {L' : List On} (hc : Ca w' F' (.pointer (some a)) z L') (hs : ∀ k, F' k → F k ∨ w.heap.size ≤ k) (hch : Ch F w w') :
    ∃ F0, Ex base w' a gu lv z F0 L' Lr ∧ (∀ k, F0 k → F k ∨ w.heap.size ≤ k) := by
  obtain ⟨F0, c1, c2, c3⟩ := hc.exact
  refine ⟨F0, ⟨c1, h.rf.keep hch h.gF (fun k hk => (h.lb k hk).2), fun j hj => (hs j (c2 j hj)).elim (h.fb j) (fun h => by omega), c3, fun hg => (hs _ (c2 _ hg)).elim h.gF (fun hh => by have := lt_of_heap h.rf.blk; omega), h.gb,
    fun j hj => ⟨(h.lb j hj).1, fun hF => (hs _ (c2 _ hF)).elim (h.lb j hj).2 (fun hh => by have := (h.rf.lt j hj).1; omega)⟩⟩, fun k hk => hs k (c2 k hk)⟩
theorem Ex.rf_to (h : Ex base w a gu lv z F Lc Lr) (hb : base ≤ w.heap.size) {lv' : Value} {L' : List On} (hr : Rf w' gu lv' z L') (hn : lv' = lv ∨ New w lv') (hch : Ch (fun k => k = gu) w w') : Ex base w' a gu lv' z F Lc L' := by
  refine ⟨h.ca.ch hch (fun k hk e => h.gF (e ▸ hk)), hr, h.fb, fun j hj => Nat.lt_of_lt_of_le (h.fl j hj) hch.size, h.gF, h.gb, fun j hj => ?_⟩
  rcases hn with rfl | hn
  · exact h.lb j hj
  · have := hn j hj
    exact ⟨by omega, fun hF => by have := h.fl j hF; omega⟩
theorem Ex.below (h : Ex base w a gu lv z F Lc Lr) (hb : Below w.heap.size w w') : Ex base w' a gu lv z F Lc Lr :=
  ⟨h.ca.below hb, h.rf.below hb, h.fb, fun j hj => Nat.lt_of_lt_of_le (h.fl j hj) hb.size, h.gF, h.gb, h.lb⟩
theorem Ex.clen (h : Ex base w a gu lv z F Lc Lr) (hz : z ≤ 256) : Lc.length ≤ 256 := by have := h.ca.len; omega
theorem Ex.ch_below (h : Ex base w a gu lv z F Lc Lr) (hb : base ≤ w.heap.size) (hc : Ch F w w') : Below base w w' := hc.below hb h.fb
theorem Ex.chg_below (h : Ex base w a gu lv z F Lc Lr) (hb : base ≤ w.heap.size) (hc : Ch (fun k => k = gu) w w') : Below base w w' := hc.below hb (fun j e => by rw [e]; exact h.gb)
end

/-- behind a call of the cache's: what it holds is L', nothing but its own memory has turned -/
def ExC (base : Nat) (w : World) (a : Addr) (gu : Nat) (lv : Value) (z : Int) (F : Nat → Prop) (L' Lr : List On) (w' : World) : Prop :=
  ∃ F0, Ex base w' a gu lv z F0 L' Lr ∧ (∀ k, F0 k → F k ∨ w.heap.size ≤ k) ∧ Ch F w w' ∧ Below base w w'
/-- behind a call of the reference's -/
def ExU (base : Nat) (w : World) (a : Addr) (gu : Nat) (z : Int) (F : Nat → Prop) (Lc L' : List On) (w' : World) : Prop :=
  ∃ lv', Ex base w' a gu lv' z F Lc L' ∧ Ch (fun k => k = gu) w w' ∧ Below base w w'

section
variable {base : Nat} {a : Addr} {gu : Nat} {lv : Value} {z : Int} {F : Nat → Prop} {Lc Lr : List On}
theorem exc_get (n : Int) (w : World) (h : Ex base w a gu lv z F Lc Lr) (hb : base ≤ w.heap.size) (hw : wfI n) :
    Calls Try.prog 10 #[.pointer (some a), .int .i64 n] w fun e w' => e = .returned (.tuple #[.string (getR n Lc).1, .bool (getR n Lc).2]) ∧ ExC base w a gu lv z F (getL n Lc) Lr w' :=
  (ca_get n w h.ca hw).mono fun _ _ ⟨he, hc, hch⟩ => ⟨he, (h.ca_to hb hc (fun _ => .inl) hch).imp fun _ ⟨h1, h2⟩ => ⟨h1, h2, hch, h.ch_below hb hch⟩⟩
theorem exu_get (n : Int) (w : World) (h : Ex base w a gu lv z F Lc Lr) (hb : base ≤ w.heap.size) (hk : kv Lr) (hl : Lr.length ≤ 256) :
    Calls Try.prog 14 #[.pointer (some ⟨gu, 0, none⟩), .int .i64 n] w fun e w' => e = .returned (.tuple #[.string (getR n Lr).1, .bool (getR n Lr).2]) ∧ ExU base w a gu z F Lc (getL n Lr) w' :=
  (refGet_any n gu lv z Lr w h.rf hl).mono fun _ _ ⟨lv', he, hr, hn, hch⟩ => by
    rw [getL_eq hk] at hr
    have e1 := getR_eq (n := n) hk
    exact ⟨by rw [he, ← e1], lv', h.rf_to hb hr hn hch, hch, h.chg_below hb hch⟩
theorem exc_put (n : Int) (s : ByteArray) (d : Bool) (w : World) (h : Ex base w a gu lv z F Lc Lr) (hb : base ≤ w.heap.size) (hw : wfI n) (h1 : 1 ≤ z) (h2 : z ≤ 256) :
    Calls Try.prog 8 #[.pointer (some a), .int .i64 n, .string s, .bool d] w fun e w' => ∃ r, e = .returned r ∧ Sl Pg.cells 2 w' r (putL z n s d Lc).2 ∧ (∀ k, r.ownBlock = some k → k ≠ gu) ∧ ExC base w a gu lv z F (putL z n s d Lc).1 Lr w' :=
  (ca_put n s d w h.ca hw h1 h2).mono fun _ _ ⟨r, _, he, hc, hs, hn, _, hsub, hch⟩ => ⟨r, he, hs, fun k hk e => by have := hn k hk; have := lt_of_heap h.rf.blk; omega, (h.ca_to hb hc hsub hch).imp fun _ ⟨h1, h2⟩ => ⟨h1, h2, hch, h.ch_below hb hch⟩⟩
theorem exu_put (n : Int) (s : ByteArray) (d : Bool) (w : World) (h : Ex base w a gu lv z F Lc Lr) (hb : base ≤ w.heap.size) (h1 : 1 ≤ z) (h2 : z ≤ 256) (hl : Lr.length ≤ 256) :
    Calls Try.prog 16 #[.pointer (some ⟨gu, 0, none⟩), .int .i64 n, .string s, .bool d] w fun e w' => ∃ r, e = .returned r ∧ Sl Pg.cells 2 w' r (putL z n s d Lr).2 ∧ (∀ k, r.ownBlock = some k → ¬ F k) ∧ ExU base w a gu z F Lc (putL z n s d Lr).1 w' :=
  (refPut_any n s d gu lv z Lr w h.rf hl h1 h2).mono fun _ _ ⟨lv', r, he, hr, hs, hn, hnr, hch⟩ => ⟨r, he, hs, fun k hk e => by have := hnr k hk; have := h.fl k e; omega, lv', h.rf_to hb hr (.inr hn) hch, hch, h.chg_below hb hch⟩
theorem exc_clean (n : Int) (w : World) (h : Ex base w a gu lv z F Lc Lr) (hb : base ≤ w.heap.size) (hw : wfI n) :
    Calls Try.prog 17 #[.pointer (some a), .int .i64 n] w fun e w' => e = .returned (.tuple #[]) ∧ ExC base w a gu lv z F (cleanL n Lc) Lr w' :=
  (ca_clean n w h.ca hw).mono fun _ _ ⟨he, hc, hch⟩ => ⟨he, (h.ca_to hb hc (fun _ => .inl) hch).imp fun _ ⟨h1, h2⟩ => ⟨h1, h2, hch, h.ch_below hb hch⟩⟩
theorem exu_clean (n : Int) (w : World) (h : Ex base w a gu lv z F Lc Lr) (hb : base ≤ w.heap.size) (hl : Lr.length ≤ 256) :
    Calls Try.prog 18 #[.pointer (some ⟨gu, 0, none⟩), .int .i64 n] w fun e w' => e = .returned (.tuple #[]) ∧ ExU base w a gu z F Lc (cleanL n Lr) w' :=
  (refClean_any n gu lv z Lr w h.rf hl).mono fun _ _ ⟨lv', he, hr, hn, hch⟩ => ⟨he, lv', h.rf_to hb hr (.inr hn) hch, hch, h.chg_below hb hch⟩
theorem exc_forget (n : Int) (w : World) (h : Ex base w a gu lv z F Lc Lr) (hb : base ≤ w.heap.size) (hw : wfI n) :
    Calls Try.prog 19 #[.pointer (some a), .int .i64 n] w fun e w' => e = .returned (.tuple #[]) ∧ ExC base w a gu lv z F (without n Lc) Lr w' :=
  (ca_forget n w h.ca hw).mono fun _ _ ⟨he, hc, hch⟩ => ⟨he, (h.ca_to hb hc (fun _ => .inl) hch).imp fun _ ⟨h1, h2⟩ => ⟨h1, h2, hch, h.ch_below hb hch⟩⟩
theorem exu_forget (n : Int) (w : World) (h : Ex base w a gu lv z F Lc Lr) (hb : base ≤ w.heap.size) (hl : Lr.length ≤ 256) :
    Calls Try.prog 20 #[.pointer (some ⟨gu, 0, none⟩), .int .i64 n] w fun e w' => e = .returned (.tuple #[]) ∧ ExU base w a gu z F Lc (without n Lr) w' :=
  (refForget_any n gu lv z Lr w h.rf hl).mono fun _ _ ⟨lv', he, hr, hn, hch⟩ => ⟨he, lv', h.rf_to hb hr (.inr hn) hch, hch, h.chg_below hb hch⟩
theorem exc_clear (w : World) (h : Ex base w a gu lv z F Lc Lr) (hb : base ≤ w.heap.size) (hz : 0 ≤ z) :
    Calls Try.prog 21 #[.pointer (some a)] w fun e w' => e = .returned (.tuple #[]) ∧ ExC base w a gu lv z F [] Lr w' :=
  (ca_clear w h.ca hz).mono fun _ _ ⟨_, he, hc, hsub, hch⟩ => ⟨he, (h.ca_to hb hc hsub hch).imp fun _ ⟨h1, h2⟩ => ⟨h1, h2, hch, h.ch_below hb hch⟩⟩
end

theorem putL_len (z n : Int) (s : ByteArray) (d : Bool) (L : List On) (h : L.length ≤ 256) : (putL z n s d L).2.length ≤ 600 := by
  unfold putL
  simp only [List.length_map]
  refine Nat.le_trans (List.length_filter_le _ _) ?_
  have : (without n L).length ≤ L.length := List.length_filter_le _ _
  simp
  omega
theorem dirty_len (L : List On) (m : Nat) (h : L.length ≤ m) : (dirtyL L).length ≤ m := by
  unfold dirtyL
  rw [List.length_mergeSort, List.length_map]
  exact Nat.le_trans (List.length_filter_le _ _) h
theorem act_cells {w : World} {b : Nat} {k n : Int} {s : ByteArray} {d : Bool} (h : w.heap[b]? = some (.cells #[.int .i64 k, .int .i64 n, .string s, .bool d] 43 (0, 0))) :
    w.cell? ⟨b, 1, none⟩ = some (.int .i64 n) ∧ w.cell? ⟨b, 2, none⟩ = some (.string s) ∧ w.cell? ⟨b, 3, none⟩ = some (.bool d) ∧ b < w.heap.size := ⟨blk_cell h 1, blk_cell h 2, blk_cell h 3, lt_of_heap h⟩
/-- between two rounds -/
def ExI (w : World) (z : Int) (a : Addr) (gu : Nat) (wr : World) : Prop := ∃ F L lv, Ex w.heap.size wr a gu lv z F L L ∧ Below w.heap.size w wr

set_option maxRecDepth 100000 in
set_option maxHeartbeats 4000000 in
theorem exact_any (size : Int) (av : Value) (acts : List Ac) (w : World) (hp : Sl Ac.cells 4 w av acts) (hwf : ∀ x ∈ acts, wfI x.n) :
    Calls Try.prog 5 #[.int .i64 size, av] w fun e w' => e = .returned (.bool true) ∧ Below w.heap.size w w' := by
  obtain ⟨Ap, cp, rfl⟩ := Sl.len' hp
  have HP := Lib.hid hp
  have HWF := Lib.hid hwf
  clear hp hwf
  go_enter Try.func5, Try.ntmps5
  go_wp2_with fail
  refine (awake12_any _).mono ?_
  rintro e w1 ⟨rfl, hb⟩
  have HB1 := Lib.hid hb
  clear hb
  go_wp2_with fail
  refine (ca_new size w1).mono ?_
  rintro e w2 ⟨v, F, rfl, hca, hf, hb⟩
  obtain ⟨a, rfl⟩ := hca.ptr
  go_wp2_with fail
  refine (refNew_any size w2).mono ?_
  rintro e w3 ⟨rfl, hw3⟩
  obtain ⟨hz1, hz2⟩ := szC_bd size
  generalize szC size = z at *
  obtain ⟨F0, c1, c2, c3⟩ := hca.exact
  have HI := Lib.hid (show ExI w z a w2.heap.size w3 from by
    have hB2 := HB1.out.trans (hb.mono HB1.out.size)
    have h3 : w3.heap[w2.heap.size]? = some (rfB z (.slice none 0 0)) := by rw [hw3]; exact heap_at_new rfl
    refine ⟨F0, [], .slice none 0 0, ⟨by rw [hw3]; exact c1.below ((Below.refl _ w2).alloc (Nat.le_refl _) _), ⟨h3, Sl.nil, fun k hk => by cases hk⟩, fun j hj => Nat.le_trans HB1.out.size (hf j (c2 j hj)), fun j hj => by have := c3 j hj; rw [hw3]; simp; omega, fun hF => Nat.lt_irrefl _ (c3 _ hF), hB2.size, fun j hj => by cases hj⟩, by rw [hw3]; exact hB2.alloc hB2.size _⟩)
  generalize w2.heap.size = gu at *
  clear hca hf hb c1 c2 c3 hw3
  go_wp2_with fail
  go_loopw [7] (fun i wr => ∃ k : Nat, k ≤ acts.length ∧ k ≤ 300 ∧ i = .int .i64 k ∧ ExI w z a gu wr) (fun i _ => 300 - (intOf i).toNat)
  case atStart => exact ⟨0, Nat.zero_le _, by omega, rfl, HI.out⟩
  case round =>
    obtain ⟨k, hk, hk3, rfl, F, L, lv, hx, hb⟩ := hrel
    clear HI
    have HX := Lib.hid hx
    have HB := Lib.hid hb
    clear hx hb
    by_cases hlt : k < acts.length ∧ k < 300
    · obtain ⟨hlt, hlt3⟩ := hlt
      obtain ⟨b, off, c, he, -, hbl, hsl'⟩ := ((HP.out.keep HB.out).cases).resolve_left (fun ⟨A, c, _, h⟩ => by rw [h] at hlt; simp at hlt)
      injection he with he1 he2 he3
      subst he1 he3
      obtain ⟨-, hcells⟩ := hsl'.cells hlt
      have e0 : wr.cell? ⟨b, off + k * 4, none⟩ = some (.int .i64 acts[k].k) := by simpa using hcells 0 _ rfl
      have e1 : wr.cell? ⟨b, off + k * 4 + 1, none⟩ = some (.int .i64 acts[k].n) := by simpa using hcells 1 _ rfl
      have e2 : wr.cell? ⟨b, off + k * 4 + 2, none⟩ = some (.string acts[k].s) := by simpa using hcells 2 _ rfl
      have e3 : wr.cell? ⟨b, off + k * 4 + 3, none⟩ = some (.bool acts[k].d) := by simpa using hcells 3 _ rfl
      have hk0 : (0 : Int) ≤ (k : Int) := by omega
      have hk1 : (k : Int) < (acts.length : Int) := by omega
      have hk2 : (k : Int) < 300 := by omega
      have HWK := Lib.hid (HWF.out _ (List.getElem_mem hlt))
      clear hcells hsl'
      generalize acts[k] = x at *
      obtain ⟨xk, xn, xs, xd⟩ := x
      simp only at e0 e1 e2 e3 HWK
      go_upto_block 2 with fail
      have HXB := Lib.hid (HX.out.below ((Below.refl _ wr).alloc (Nat.le_refl _) (.cells #[.int .i64 xk, .int .i64 xn, .string xs, .bool xd] 43)))
      have HBB := Lib.hid (HB.out.alloc HB.out.size (.cells #[.int .i64 xk, .int .i64 xn, .string xs, .bool xd] 43))
      have HBOX := Lib.hid (heap_at_new (w0 := wr) (o := .cells #[.int .i64 xk, .int .i64 xn, .string xs, .bool xd] 43) rfl)
      have HBF := Lib.hid (show ¬ F wr.heap.size from fun h => Nat.lt_irrefl _ (HX.out.fl _ h))
      have HBG := Lib.hid (show wr.heap.size ≠ gu from fun h => by have := lt_of_heap HX.out.rf.blk; omega)
      have HKV := Lib.hid HX.out.ca.kv
      have HLL := Lib.hid (HX.out.clen hz2)
      clear e0 e1 e2 e3 hbl
      generalize wr.alloc (.cells #[.int .i64 xk, .int .i64 xn, .string xs, .bool xd] 43) = wb at *
      generalize wr.heap.size = bx at *
      go_cut [9, 10, 11, 12] from 35 to 105 (fun _ _ _ _ wc => ExI w z a gu wc)
      case first =>
        have BXL := lt_of_heap HBOX.out
        have c1 := blk_cell HBOX.out 1
        have c2 := blk_cell HBOX.out 2
        have c3 := blk_cell HBOX.out 3
        simp only [List.getElem?_toArray, List.getElem?_cons_succ, List.getElem?_cons_zero] at c1 c2 c3
        by_cases h1 : xk = 1
        · subst h1
          go_wp2_with fail
          refine (exc_get xn wb HXB.out HBB.out.size HWK.out).mono ?_
          rintro e w4 ⟨rfl, F4, hx4, hs4, hch, hb4⟩
          have HX4 := Lib.hid hx4
          have HB4 := Lib.hid (HBB.out.trans hb4)
          have HBX4 := hch.keep HBOX.out HBF.out
          have BXL4 := lt_of_heap HBX4
          have c1 := blk_cell HBX4 1
          simp only [List.getElem?_toArray, List.getElem?_cons_succ, List.getElem?_cons_zero] at c1
          clear hx4 hs4 hch hb4 HBX4
          go_wp2_with fail
          refine (exu_get xn w4 HX4.out HB4.out.size HKV.out HLL.out).mono ?_
          rintro e w5 ⟨rfl, lv5, hx5, hch, hb5⟩
          have HI5 := Lib.hid (show ExI w z a gu w5 from ⟨_, _, _, hx5, HB4.out.trans hb5⟩)
          clear hx5 hch hb5
          generalize getR xn L = gr at *
          obtain ⟨gs, gb⟩ := gr
          go_wp2_with fail
          go_meet
          case rel => exact HI5.out
        · have g1 : (xk == 1) = false := by simpa using h1
          clear h1
          by_cases h2 : xk = 2
          · subst h2
            clear g1
            have HPL := Lib.hid (putL_len z xn xs xd L HLL.out)
            go_upto_region 16 with fail
            go_region_held3 (fun wn => wn.cell? ⟨bx, 1, none⟩ = some (.int .i64 xn) ∧ wn.cell? ⟨bx, 2, none⟩ = some (.string xs) ∧ wn.cell? ⟨bx, 3, none⟩ = some (.bool xd) ∧ bx < wn.heap.size)
              ((first | exact ⟨c1, c2, c3, BXL⟩ | exact HK4.out | exact HK6.out | exact HK7.out))
              (first
              | (go_at_call 8
                 refine (exc_put xn xs xd wb.drew (HXB.out.below ((Below.refl _ wb).drew)) HBB.out.size HWK.out hz1 hz2).mono ?_
                 rintro e w4 ⟨r1, rfl, hs1, hn1, F4, hx4, hsub4, hch4, hb4⟩
                 have HX4 := Lib.hid hx4
                 have HS4 := Lib.hid hs1
                 have HN4 := Lib.hid hn1
                 have HB4 := Lib.hid ((HBB.out.trans (((Below.refl _ wb).drew).mono HBB.out.size)).trans hb4)
                 have HBX4 := Lib.hid (hch4.keep (show wb.drew.heap[bx]? = _ from HBOX.out) HBF.out)
                 have HK4 := Lib.hid (act_cells HBX4.out)
                 clear hx4 hsub4 hch4 hb4 hs1 hn1)
              | (go_at_call 16
                 refine (exu_put xn xs xd w4 HX4.out HB4.out.size hz1 hz2 HLL.out).mono ?_
                 rintro e w6 ⟨r2, rfl, hs2, hn2, lv6, hx6, hch6, hb6⟩
                 have HX6 := Lib.hid (show ∃ F lv, Ex w.heap.size w6 a gu lv z F (putL z xn xs xd L).1 (putL z xn xs xd L).1 from ⟨_, _, hx6⟩)
                 have HS1 := Lib.hid (sl_ch HS4.out hch6 HN4.out)
                 have HS2 := Lib.hid hs2
                 have HB6 := Lib.hid (HB4.out.trans hb6)
                 have HBX6 := Lib.hid (hch6.keep HBX4.out HBG.out)
                 have HK6 := Lib.hid (act_cells HBX6.out)
                 clear hx6 hch6 hb6 hs2 hn2)
              | (go_at_call 15
                 refine (same12_any _ _ _ w6 HS1.out HS2.out HPL.out).mono ?_
                 rintro e w7 ⟨rfl, hb7⟩
                 have HI7 := Lib.hid (show ExI w z a gu w7 from by
                   obtain ⟨F, lv, h⟩ := HX6.out
                   exact ⟨F, _, lv, h.below hb7, HB6.out.trans (hb7.mono HB6.out.size)⟩)
                 have HK7 := Lib.hid (act_cells (blk_keep HBX6.out hb7))
                 clear hb7))
            all_goals
              go_wp2_with fail
              go_meet
              case rel => exact HI7.out
          · have g2 : (xk == 2) = false := by simpa using h2
            clear h2
            by_cases h3 : xk = 3
            · subst h3
              clear g1 g2
              go_wp2_with fail
              refine (exc_clean xn wb HXB.out HBB.out.size HWK.out).mono ?_
              rintro e w4 ⟨rfl, F4, hx4, hs4, hch, hb4⟩
              have HX4 := Lib.hid hx4
              have HB4 := Lib.hid (HBB.out.trans hb4)
              have HBX4 := hch.keep HBOX.out HBF.out
              have BXL4 := lt_of_heap HBX4
              have c1 := blk_cell HBX4 1
              simp only [List.getElem?_toArray, List.getElem?_cons_succ, List.getElem?_cons_zero] at c1
              clear hx4 hs4 hch hb4 HBX4
              go_wp2_with fail
              refine (exu_clean xn w4 HX4.out HB4.out.size HLL.out).mono ?_
              rintro e w5 ⟨rfl, lv5, hx5, hch, hb5⟩
              have HI5 := Lib.hid (show ExI w z a gu w5 from ⟨_, _, _, hx5, HB4.out.trans hb5⟩)
              clear hx5 hch hb5
              go_wp2_with fail
              go_meet
              case rel => exact HI5.out
            · have g3 : (xk == 3) = false := by simpa using h3
              clear h3
              by_cases h4 : xk = 4
              · subst h4
                clear g1 g2 g3
                go_wp2_with fail
                refine (exc_forget xn wb HXB.out HBB.out.size HWK.out).mono ?_
                rintro e w4 ⟨rfl, F4, hx4, hs4, hch, hb4⟩
                have HX4 := Lib.hid hx4
                have HB4 := Lib.hid (HBB.out.trans hb4)
                have HBX4 := hch.keep HBOX.out HBF.out
                have BXL4 := lt_of_heap HBX4
                have c1 := blk_cell HBX4 1
                simp only [List.getElem?_toArray, List.getElem?_cons_succ, List.getElem?_cons_zero] at c1
                clear hx4 hs4 hch hb4 HBX4
                go_wp2_with fail
                refine (exu_forget xn w4 HX4.out HB4.out.size HLL.out).mono ?_
                rintro e w5 ⟨rfl, lv5, hx5, hch, hb5⟩
                have HI5 := Lib.hid (show ExI w z a gu w5 from ⟨_, _, _, hx5, HB4.out.trans hb5⟩)
                clear hx5 hch hb5
                go_wp2_with fail
                go_meet
                case rel => exact HI5.out
              · have g4 : (xk == 4) = false := by simpa using h4
                clear h4
                by_cases h5 : xk = 5
                · subst h5
                  clear g1 g2 g3 g4
                  go_wp2_with fail
                  refine (exc_clear wb HXB.out HBB.out.size (by omega)).mono ?_
                  rintro e w4 ⟨rfl, F4, hx4, hs4, hch, hb4⟩
                  have HX4 := Lib.hid hx4
                  have HB4 := Lib.hid (HBB.out.trans hb4)
                  obtain ⟨a0, a1, a2, a3⟩ := rf_cells hx4.rf.blk
                  clear hx4 hs4 hch hb4
                  go_wp2_with fail
                  go_meet
                  case rel =>
                    obtain ⟨q1, q2⟩ := HX4.out.rf.set (v := .slice none 0 0) (L2 := []) (Below.refl _ _) Sl.nil New.nil (fun k hk => by cases hk)
                    exact ⟨_, _, _, HX4.out.rf_to HB4.out.size q1 (.inr New.nil) q2, HB4.out.trans (HX4.out.chg_below HB4.out.size q2)⟩
                · have g5 : (xk == 5) = false := by simpa using h5
                  clear h5
                  go_wp2_with fail
                  go_meet
                  case rel => exact ⟨_, _, _, HXB.out, HBB.out⟩
      case rest =>
        obtain ⟨F6, L6, lv6, hx, hb⟩ := hcut
        obtain ⟨a0, a1, a2, a3⟩ := rf_cells hx.rf.blk
        have HX6 := Lib.hid hx
        have HB6 := Lib.hid hb
        obtain ⟨A6, c6, rfl⟩ := Sl.len' hx.rf.sl
        have HKV6 := Lib.hid hx.ca.kv
        have HL6 := Lib.hid (hx.clen hz2)
        have HDL := Lib.hid (dirty_len L6 600 (by have := HL6.out; omega))
        clear hx hb HX HB HXB HBB HBOX HBF HBG HKV HLL a0 a2
        go_upto_region 27 with fail
        go_region_with (first
          | (go_at_call 12
             refine (ca_len wc.drew (HX6.out.ca.below ((Below.refl _ wc).drew))).mono ?_
             rintro e w7 ⟨rfl, rfl⟩)
          | (go_at_call 11
             first
             | (refine (ca_dirty wc.drew (HX6.out.ca.below ((Below.refl _ wc).drew)) hz2).mono ?_
                rintro e w7 ⟨d1, rfl, hs1, -, hb7⟩
                have HS7 := Lib.hid hs1
                have HB7 := Lib.hid (show Below wc.heap.size wc w7 from ((Below.refl _ wc).drew).trans hb7)
                clear hs1 hb7)
             | (refine (ca_dirty w8 (HX6.out.ca.below HB8.out) hz2).mono ?_
                rintro e w9 ⟨d1, rfl, hs1, -, hb9⟩
                have HS9 := Lib.hid hs1
                have HT9 := Lib.hid (HS8.out.keep hb9)
                have HB9 := Lib.hid (HB8.out.trans (hb9.mono HB8.out.size))
                clear hs1 hb9))
          | (go_at_call 22
             first
             | (refine (refDirty_any gu _ z L6 wc.drew (HX6.out.rf.below ((Below.refl _ wc).drew)) HL6.out).mono ?_
                rintro e w8 ⟨d2, rfl, hs2, -, hb8⟩
                have HS8 := Lib.hid (show Sl Pg.cells 2 w8 d2 (dirtyL L6) from dirtyO_eq HKV6.out ▸ hs2)
                have HB8 := Lib.hid (show Below wc.heap.size wc w8 from ((Below.refl _ wc).drew).trans hb8)
                clear hs2 hb8)
             | (refine (refDirty_any gu _ z L6 w7 (HX6.out.rf.below HB7.out) HL6.out).mono ?_
                rintro e w9 ⟨d2, rfl, hs2, -, hb9⟩
                have HT9 := Lib.hid (show Sl Pg.cells 2 w9 d2 (dirtyL L6) from dirtyO_eq HKV6.out ▸ hs2)
                have HS9 := Lib.hid (HS7.out.keep hb9)
                have HB9 := Lib.hid (HB7.out.trans (hb9.mono HB7.out.size))
                clear hs2 hb9))
          | (go_at_call 15
             refine (same12_any _ _ _ w9 HS9.out HT9.out HDL.out).mono ?_
             rintro e w10 ⟨rfl, hb10⟩
             have HX10 := Lib.hid (HX6.out.below (HB9.out.trans (hb10.mono HB9.out.size)))
             have HB10 := Lib.hid (HB6.out.trans ((HB9.out.trans (hb10.mono HB9.out.size)).mono HB6.out.size))
             clear hb10))
        all_goals
          go_wp2_with fail
          go_roundw
          case rel => exact ⟨k + 1, by omega, by omega, by go_num, _, _, _, HX10.out, HB10.out⟩
          case measure => simp [intOf]; omega
    · have hcase : (k < acts.length ∧ (300 : Int) ≤ (k : Int)) ∨ ¬ k < acts.length := by omega
      clear hlt
      rcases hcase with ⟨hl, hl3⟩ | hl
      all_goals
        go_wp2_with fail
        go_ret
        exact ⟨rfl, HB.out⟩
end Go.Proofs.Ytjjiclbngoldaaa
