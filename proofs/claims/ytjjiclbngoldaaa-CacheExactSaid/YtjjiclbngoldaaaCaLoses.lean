/- The walk of cahierlaw12.CacheLoses. -/
import Derived.Test.YtjjiclbngoldaaaCaPlace
namespace Go.Proofs.Ytjjiclbngoldaaa
open Go.RowKit

theorem flat_set (p : Pg) : ∀ (xs : List Pg) (k : Nat), k < xs.length → (xs.set k p).flatMap Pg.cells = ((xs.flatMap Pg.cells).set (k * 2) (.int .i64 p.n)).set (k * 2 + 1) (.string p.s)
  | [], _, h => absurd h (Nat.not_lt_zero _)
  | x :: xs, 0, _ => by simp [Pg.cells]
  | x :: xs, k + 1, h => by
    have ih := flat_set p xs k (by simpa using h)
    rw [List.set_cons_succ, List.flatMap_cons, List.flatMap_cons, ih]
    rw [show (k + 1) * 2 = k * 2 + 1 + 1 from by omega]
    simp [Pg.cells]
theorem Own.set2 {e : TypeId} {base : Nat} {w : World} {g n cap k : Nat} {xs : List Pg} (h : Own Pg.cells 2 e base w (.slice (some ⟨g, 0, none⟩) n cap) xs) (hk : k < xs.length) (p : Pg) :
    Own Pg.cells 2 e base ((w.setCell ⟨g, k * 2, none⟩ (.int .i64 p.n)).setCell ⟨g, k * 2 + 1, none⟩ (.string p.s)) (.slice (some ⟨g, 0, none⟩) n cap) (xs.set k p) := by
  unfold Own at h ⊢
  rw [List.length_set, flat_set p xs k hk]
  refine ⟨by rw [List.length_set, List.length_set]; exact h.1, ?_⟩
  rcases h.2 with ⟨hv, h0⟩ | ⟨g', cap', cur, hv, hb, hg, hn, hm, hc, ht⟩
  · cases hv
  · cases hv
    refine .inr ⟨g, cap, (cur.setIfInBounds (k * 2) (.int .i64 p.n)).setIfInBounds (k * 2 + 1) (.string p.s), rfl, hb, ?_, hn, hm, by simpa using hc, ?_⟩
    · simp [World.setCell, Array.getElem?_modify, hg]
    · rw [← ht]
      simp [List.take_set]

def LoseI (w : World) (z : Int) (a : Addr) (k : Nat) (sv lv : Value) (wr : World) : Prop := ∃ F L St La, Ca wr F (.pointer (some a)) z L ∧ Own Pg.cells 2 29 w.heap.size wr sv St ∧ Own Pg.cells 2 29 w.heap.size wr lv La ∧
  (∀ j, F j → w.heap.size ≤ j) ∧ (∀ j, F j → j < wr.heap.size) ∧ DisF sv F ∧ DisF lv F ∧ Dis sv lv ∧ Below w.heap.size w wr ∧ LoseP L St La ∧ St.length ≤ k ∧ La.length ≤ k
/-- behind the Put: what it answered is at hand -/
def LoseA (w : World) (z : Int) (a : Addr) (k : Nat) (sv lv : Value) (St La : List Pg) (rv : Value) (n : Int) (s : ByteArray) (wr : World) : Prop := ∃ F L G, Ca wr F (.pointer (some a)) z L ∧ Own Pg.cells 2 29 w.heap.size wr sv St ∧ Own Pg.cells 2 29 w.heap.size wr lv La ∧
  (∀ j, F j → w.heap.size ≤ j) ∧ (∀ j, F j → j < wr.heap.size) ∧ DisF sv F ∧ DisF lv F ∧ Dis sv lv ∧ Below w.heap.size w wr ∧ Sl Pg.cells 2 wr rv G ∧ LoseP L (St ++ G) (updL n s La) ∧ G.length ≤ 1 ∧ St.length ≤ k ∧ La.length ≤ k
theorem LoseA.of {w : World} {z : Int} {a : Addr} {k : Nat} {sv lv : Value} {n : Int} {s : ByteArray} {wr wq wc : World} {F F' : Nat → Prop} {L : List On} {St La : List Pg} {rv : Value}
    (hca : Ca wr F (.pointer (some a)) z L) (hs : Own Pg.cells 2 29 w.heap.size wr sv St) (hl : Own Pg.cells 2 29 w.heap.size wr lv La) (hf : ∀ j, F j → w.heap.size ≤ j) (d1 : DisF sv F) (d2 : DisF lv F) (d3 : Dis sv lv)
    (hb : Below w.heap.size w wr) (hp : LoseP L St La) (h3 : St.length ≤ k) (h4 : La.length ≤ k) (hz1 : 1 ≤ z) (hw : Eqv wq wr)
    (hca' : Ca wc F' (.pointer (some a)) z (putL z n s true L).1) (hr : Sl Pg.cells 2 wc rv (putL z n s true L).2) (hsub : ∀ j, F' j → F j ∨ wq.heap.size ≤ j) (hch : Ch F wq wc) : LoseA w z a k sv lv St La rv n s wc := by
  have hch' : Ch F wr wc := (((Ch.refl F wr).eqv hw)).trans hch
  obtain ⟨F0, c1, c2, c3⟩ := hca'.exact
  obtain ⟨q1, q2⟩ := hp.put (n := n) (s := s) hz1 hca.len
  have hsz : wq.heap.size = wr.heap.size := by rw [hw.heap]
  have hnew : ∀ v : Value, (∀ j, v.ownBlock = some j → j < wr.heap.size) → DisF v F → DisF v F0 := fun v hv hd j hj hF => (hsub j (c2 j hF)).elim (hd j hj) (fun h => by have := hv j hj; omega)
  refine ⟨F0, _, _, c1, hs.ch hch' d1, hl.ch hch' d2, fun j hj => (hsub j (c2 j hj)).elim (hf j) (fun h => by have := hb.size; omega), c3, hnew sv (fun j hj => (hs.lt j hj).2) d1, hnew lv (fun j hj => (hl.lt j hj).2) d2, d3, hb.trans (hch'.below hb.size hf), hr, q1, q2, h3, h4⟩

set_option maxRecDepth 100000 in
set_option maxHeartbeats 4000000 in
theorem loses_any (size : Int) (pv rdv : Value) (pages : List Pg) (reads : List Int) (w : World) (hp : Sl Pg.cells 2 w pv pages) (hwf : ∀ x ∈ pages, wfI x.n) (hr : Sl iC 1 w rdv reads) (hrw : ∀ n ∈ reads, wfI n) :
    Calls Try.prog 3 #[.int .i64 size, pv, rdv] w fun e w' => e = .returned (.bool true) ∧ Below w.heap.size w w' := by
  obtain ⟨Ap, cp, rfl⟩ := Sl.len' hp
  obtain ⟨Ar, cr, rfl⟩ := Sl.len' hr
  have HP := Lib.hid hp
  have HWF := Lib.hid hwf
  have HR := Lib.hid hr
  have HRW := Lib.hid hrw
  clear hp hwf hr hrw
  go_enter Try.func3, Try.ntmps3
  go_wp2_with fail
  refine (awake12_any _).mono ?_
  rintro e w1 ⟨rfl, hb⟩
  have HB1 := Lib.hid hb
  clear hb
  go_wp2_with fail
  refine (ca_new size w1).mono ?_
  rintro e w2 ⟨v, F, rfl, hca, hf, hb⟩
  obtain ⟨a, rfl⟩ := hca.ptr
  obtain ⟨hz1, hz2⟩ := szC_bd size
  have HSZ := Lib.hid (show szC size ≤ size ∨ szC size ≤ 1 by unfold szC; omega)
  generalize szC size = z at *
  obtain ⟨F0, c1, c2, c3⟩ := hca.exact
  have HI := Lib.hid (show LoseI w z a 0 (.slice (some ⟨w2.heap.size, 0, none⟩) 0 0) (.slice (some ⟨w2.heap.size + 1, 0, none⟩) 0 0) ((w2.alloc (.cells #[] 29)).alloc (.cells #[] 29)) from by
    have hB2 := HB1.out.trans (hb.mono HB1.out.size)
    have o1 : Own Pg.cells 2 29 w.heap.size (w2.alloc (.cells #[] 29)) (.slice (some ⟨w2.heap.size, 0, none⟩) 0 0) ([] : List Pg) := World.ownsRow_lit w2 #[] 0 hB2.size (by simp [maxLen]) (by simp)
    have o2 : Own Pg.cells 2 29 w.heap.size ((w2.alloc (.cells #[] 29)).alloc (.cells #[] 29)) (.slice (some ⟨w2.heap.size + 1, 0, none⟩) 0 0) ([] : List Pg) := by
      have := World.ownsRow_lit (base := w.heap.size) (e := 29) (size := 2) (w2.alloc (.cells #[] 29)) #[] 0 (by simp; have := hB2.size; omega) (by simp [maxLen]) (by simp)
      rw [World.size_alloc] at this
      exact this
    refine ⟨F0, [], [], [], c1.below (((Below.refl _ w2).alloc (Nat.le_refl _) _).alloc (by simp) _), o1.alloc _, o2, fun j hj => Nat.le_trans HB1.out.size (hf j (c2 j hj)), fun j hj => by have := c3 j hj; simp; omega, fun j hj hF => ?_, fun j hj hF => ?_, fun j hj hj2 => ?_, (hB2.alloc hB2.size _).alloc (by simp; have := hB2.size; omega) _, LoseP.start, by simp, by simp⟩
    · have := c3 j hF; simp [Value.ownBlock] at hj; omega
    · have := c3 j hF; simp [Value.ownBlock] at hj; omega
    · simp [Value.ownBlock] at hj hj2; omega)
  clear hca hf hb c1 c2 c3
  go_wp2_with fail
  generalize (w2.alloc (.cells #[] 29)).alloc (.cells #[] 29) = w3 at *
  go_loopw [8, 9, 10] (fun sv lv i wr => ∃ k : Nat, k ≤ pages.length ∧ k ≤ 300 ∧ i = .int .i64 k ∧ LoseI w z a k sv lv wr) (fun _ _ i _ => 300 - (intOf i).toNat)
  case atStart => exact ⟨0, Nat.zero_le _, by omega, rfl, HI.out⟩
  case round =>
    obtain ⟨k, hk, hk3, rfl, F, L, St, La, hca, hs, hl, hf, hfl, d1, d2, d3, hb, hlp, h3, h4⟩ := hrel
    clear HI
    obtain ⟨As, cs, rfl⟩ := Sl.len' (hs.sl Pg.len)
    obtain ⟨Al, cl, rfl⟩ := Sl.len' (hl.sl Pg.len)
    have HCA := Lib.hid hca
    have HS := Lib.hid hs
    have HL := Lib.hid hl
    have HF := Lib.hid hf
    have HFL := Lib.hid hfl
    have HD1 := Lib.hid d1
    have HD2 := Lib.hid d2
    have HD3 := Lib.hid d3
    have HB := Lib.hid hb
    have HLP := Lib.hid hlp
    have H3 := Lib.hid h3
    have H4 := Lib.hid h4
    clear hca hs hl hf hfl d1 d2 d3 hb hlp h3 h4
    by_cases hlt : k < pages.length ∧ k < 300
    · obtain ⟨hlt, hlt3⟩ := hlt
      rcases HP.out.cases with ⟨A, c, he, hnil⟩ | ⟨b, off, c, he, -, hbl, hsl'⟩
      · rw [hnil] at hlt; simp at hlt
      injection he with he1 he2 he3
      subst he1 he3
      obtain ⟨-, hcells⟩ := hsl'.cells hlt
      have HPG := Lib.hid (show ∀ wn, Below w.heap.size w wn → b < wn.heap.size ∧ wn.cell? ⟨b, off + k * 2, none⟩ = some (.int .i64 pages[k].n) ∧ wn.cell? ⟨b, off + k * 2 + 1, none⟩ = some (.string pages[k].s) from fun wn hb =>
        ⟨Nat.lt_of_lt_of_le hbl hb.size, (hb.cell (p := ⟨b, off + k * 2, none⟩) hbl).trans (by simpa using hcells 0 _ rfl), (hb.cell (p := ⟨b, off + k * 2 + 1, none⟩) hbl).trans (by simpa using hcells 1 _ rfl)⟩)
      clear hcells hsl' hbl
      obtain ⟨hbl, e0, e1⟩ := HPG.out _ HB.out
      have hk0 : (0 : Int) ≤ (k : Int) := by omega
      have hk1 : (k : Int) < (pages.length : Int) := by omega
      have hk2 : (k : Int) < 300 := by omega
      have HWK := Lib.hid (HWF.out _ (List.getElem_mem hlt))
      generalize pages[k] = pk at *
      obtain ⟨pn, ps⟩ := pk
      simp only at e0 e1 HWK HPG
      have HPUT := Lib.hid (fun (W : World) (hw : Eqv W wr) => ca_put (F := F) (v := .pointer (some a)) (size := z) (L := L) pn ps true W (HCA.out.ch ((Ch.refl (fun _ => False) wr).eqv hw) (fun _ _ h => h)) HWK.out hz1 (by omega))
      go_upto_region 9 with fail
      go_cut [11] from 35 to 47 (fun rv wc => LoseA w z a k (.slice As St.length cs) (.slice Al La.length cl) St La rv pn ps wc)
      case first =>
       go_region_with (go_at_call 8; refine (HPUT.out _ (by exact ⟨rfl, rfl, rfl, rfl⟩)).mono ?_; rintro e w4 ⟨r1, F3, rfl, hca, hs, -, -, hf, hch⟩)
       all_goals
        have hfin : LoseA w z a k (.slice As St.length cs) (.slice Al La.length cl) St La r1 pn ps w4 := LoseA.of (wq := wr.drew) HCA.out HS.out HL.out HF.out HD1.out HD2.out HD3.out HB.out HLP.out H3.out H4.out hz1 ⟨rfl, rfl, rfl, rfl⟩ hca hs hf hch
        clear hca hs hf hch e0 e1
        go_wp2_with fail
        go_meet
        case rel => exact hfin
      case rest =>
       obtain ⟨F4, L4, G, hca, hs, hl, hf, hfl, d1, d2, d3, hb, hrv, hlp, hg1, h3, h4⟩ := hcut
       have HCA4 := Lib.hid hca
       have HS4 := Lib.hid hs
       have HL4 := Lib.hid hl
       have HF4 := Lib.hid hf
       have HFL4 := Lib.hid hfl
       have HD14 := Lib.hid d1
       have HD24 := Lib.hid d2
       have HB4 := Lib.hid hb
       have HRV := Lib.hid hrv
       have HLP4 := Lib.hid hlp
       have HG1 := Lib.hid hg1
       clear hca hs hl hf hfl d1 d2 d3 hb hrv hlp hg1 h3 h4 HCA HS HL HF HFL HD1 HD2 HB HPUT e0 e1 hbl
       go_wp2_with (at_builtin; refine Hid.out ?_)
       refine Lib.hid ?_
       refine wpList_append_sl rfl rfl elP rfl rfl HS4.out HRV.out (by have := H3.out; have := HG1.out; simp [maxLen]; omega) (by have := H3.out; have := HG1.out; simp; omega) HB4.out.size ?_
       intro sv' w5 ho2 hg2 hat2
       have hcg := Ch.of_grown (S := fun j => (Value.slice As St.length cs).ownBlock = some j) hg2 (fun j e => e)
       have HS5 := Lib.hid ho2
       have HL5 := Lib.hid (HL4.out.dis hg2 HD3.out.symm)
       have HCA5 := Lib.hid (HCA4.out.ch hcg (fun j hF hj => HD14.out j hj hF))
       have HFL5 := Lib.hid (show ∀ j, F4 j → j < w5.heap.size from fun j hj => Nat.lt_of_lt_of_le (HFL4.out j hj) hg2.size)
       have HD15 := Lib.hid (show DisF sv' F4 from fun j hj hF => by
         rcases hat2 with e | e
         · exact HD14.out j (e ▸ hj) hF
         · rw [e] at hj; cases hj; exact absurd (HFL4.out _ hF) (Nat.lt_irrefl _))
       have HD35 := Lib.hid (HD3.out.app hat2 HL4.out)
       have HB5 := Lib.hid (below_app HB4.out hg2 HB4.out.size (fun j hj => (HS4.out.lt j hj).1))
       have HSL := Lib.hid (show (St ++ G).length ≤ k + 1 by have := H3.out; have := HG1.out; simp; omega)
       clear ho2 hg2 hat2 hcg HS4 HL4 HCA4 HFL4 HD14 HRV
       obtain ⟨As5, cs5, hs5⟩ := Sl.len' (HS5.out.sl Pg.len)
       rw [List.length_append] at hs5
       subst hs5
       obtain ⟨hbl, e0, e1⟩ := HPG.out _ HB5.out
       go_wp2_with fail
       refine (place_any _ La pn w5 (HL5.out.sl Pg.len) (by have := H4.out; omega)).mono ?_
       rintro e w' ⟨rfl, rfl⟩
       obtain ⟨fo, hfo⟩ : ∃ fo, fo = firstOr (fun x : Pg => x.n == pn) La := ⟨_, rfl⟩
       rw [← hfo]
       have HFO := Lib.hid hfo
       clear hfo
       go_upto_if 58 with fail
       go_cut [9] from 59 to 73 (fun lv wc => LoseI w z a (k + 1) (.slice As5 (St.length + G.length) cs5) lv wc)
       case first =>
         by_cases hfi : La.findIdx (fun x : Pg => x.n == pn) < La.length
         · have HUP := Lib.hid (show updL pn ps La = La.set (La.findIdx fun x : Pg => x.n == pn) ⟨pn, ps⟩ by unfold updL; rw [if_pos hfi])
           obtain rfl : fo = (La.findIdx (fun x : Pg => x.n == pn) : Int) := HFO.out.trans (by unfold firstOr; rw [if_pos hfi])
           clear HFO
           generalize La.findIdx (fun x : Pg => x.n == pn) = ix at *
           obtain ⟨g, hAl, cur, hg⟩ : ∃ g, Al = some ⟨g, 0, none⟩ ∧ ∃ cur, w5.heap[g]? = some (.cells cur 29 (0, 0)) := by
             rcases HL5.out.2 with ⟨_, h0⟩ | ⟨g, cap, cur, hv, _, hg, _⟩
             · rw [h0] at hfi; exact absurd hfi (Nat.not_lt_zero _)
             · injection hv with hv1; exact ⟨g, hv1, cur, hg⟩
           subst hAl
           obtain ⟨hgl, hcl⟩ := (HL5.out.sl Pg.len).cells hfi
           have l0 : w5.cell? ⟨g, ix * 2, none⟩ = some (.int .i64 La[ix].n) := by simpa using hcl 0 _ rfl
           have l1 : w5.cell? ⟨g, ix * 2 + 1, none⟩ = some (.string La[ix].s) := by simpa using hcl 1 _ rfl
           have f0 : ∀ o, w5.frozen? ⟨g, o, none⟩ = false := fun o => by simp [World.frozen?, hg]
           have f1 := f0 (ix * 2)
           have f2 := f0 (ix * 2 + 1)
           have HIX := Lib.hid hfi
           have hi0 : (0 : Int) ≤ (ix : Int) := by omega
           have hi1 : (ix : Int) < (La.length : Int) := by omega
           clear hcl hg f0
           generalize La[ix].n = ln at l0
           generalize La[ix].s = ls at l1
           go_wp2_with fail
           go_meet
           case rel =>
             have hc : Ch (fun j => j = g) w5 ((w5.setCell ⟨g, ix * 2, none⟩ (.int .i64 pn)).setCell ⟨g, ix * 2 + 1, none⟩ (.string ps)) := ((Ch.refl (fun j => j = g) w5).setCell (p := ⟨g, ix * 2, none⟩) rfl _).setCell (p := ⟨g, ix * 2 + 1, none⟩) rfl _
             refine ⟨F4, L4, St ++ G, updL pn ps La, HCA5.out.ch hc (fun j hF e => HD24.out g rfl (e ▸ hF)), HS5.out.ch hc (fun j hj e => HD35.out j hj (by rw [e]; rfl)), by rw [HUP.out]; exact HL5.out.set2 HIX.out ⟨pn, ps⟩, HF4.out, fun j hj => Nat.lt_of_lt_of_le (HFL5.out j hj) hc.size, HD15.out, HD24.out, HD35.out, HB5.out.trans (hc.below HB5.out.size (fun j e => by rw [e]; exact (HL5.out.lt g rfl).1)), HLP4.out, HSL.out, by have := upd_len pn ps La; have := H4.out; omega⟩
         · have HUP := Lib.hid (show updL pn ps La = La ++ [⟨pn, ps⟩] by unfold updL; rw [if_neg hfi])
           obtain rfl : fo = -1 := HFO.out.trans (by unfold firstOr; rw [if_neg hfi])
           clear HFO
           clear hfi
           go_wp2_with (at_builtin; refine Hid.out ?_)
           refine Lib.hid ?_
           refine wpList_append_sl rfl rfl elP rfl rfl (HL5.out.alloc _) (Sl.one (⟨pn, ps⟩ : Pg) (by simp) Pg.len rfl) (by have := H4.out; simp [maxLen]; omega) (by have := H4.out; simp; omega) (by have := HB5.out.size; simp; omega) ?_
           intro lv' w6 ho2 hg2 hat2
           have HCA6 := Lib.hid ((HCA5.out.below ((Below.refl _ w5).alloc (Nat.le_refl _) (.cells #[.int .i64 pn, .string ps] 29))).ch (Ch.of_grown (S := fun j => (Value.slice Al La.length cl).ownBlock = some j) hg2 (fun j e => e)) (fun j hF hj => HD24.out j hj hF))
           have HS6 := Lib.hid ((HS5.out.alloc (.cells #[.int .i64 pn, .string ps] 29)).dis hg2 HD35.out)
           have HD6 := Lib.hid (HD35.out.symm.app hat2 (HS5.out.alloc (.cells #[.int .i64 pn, .string ps] 29))).symm
           have HDF6 := Lib.hid (show DisF lv' F4 from fun j hj hF => by
             rcases hat2 with e | e
             · exact HD24.out j (e ▸ hj) hF
             · rw [e] at hj; cases hj; have := HFL5.out _ hF; simp at this; omega)
           have HFL6 := Lib.hid (show ∀ j, F4 j → j < w6.heap.size from fun j hj => by have := HFL5.out j hj; have := hg2.size; simp at this; omega)
           have HB6 := Lib.hid (below_app (HB5.out.alloc HB5.out.size (.cells #[.int .i64 pn, .string ps] 29)) hg2 (by have := HB5.out.size; simp; omega) (fun j hj => (HL5.out.lt j hj).1))
           have HL6 := Lib.hid ho2
           clear ho2 hg2 hat2
           go_wp2_with fail
           go_meet
           case rel => exact ⟨F4, L4, St ++ G, updL pn ps La, HCA6.out, HS6.out, by rw [HUP.out]; exact HL6.out, HF4.out, HFL6.out, HD15.out, HDF6.out, HD6.out, HB6.out, HLP4.out, HSL.out, by have := upd_len pn ps La; have := H4.out; omega⟩
       case rest =>
         obtain ⟨F7, L7, St7, La7, hca, hs, hl, hf, hfl, d1, d2, d3, hb, hlp, h3, h4⟩ := hcut
         have HCA7 := Lib.hid hca
         have HS7 := Lib.hid hs
         have HL7 := Lib.hid hl
         have HF7 := Lib.hid hf
         have HFL7 := Lib.hid hfl
         have HD17 := Lib.hid d1
         have HD27 := Lib.hid d2
         have HD37 := Lib.hid d3
         have HB7 := Lib.hid hb
         have HLP7 := Lib.hid hlp
         have H37 := Lib.hid h3
         have H47 := Lib.hid h4
         clear hca hs hl hf hfl d1 d2 d3 hb hlp h3 h4 e0 e1 hbl
         by_cases hrd : k < reads.length
         · rcases (HR.out.keep HB7.out).cases with ⟨A, c, he, hnil⟩ | ⟨b2, off2, c, he, -, hbl2, hsl2⟩
           · rw [hnil] at hrd; simp at hrd
           injection he with he1 he2 he3
           subst he1 he3
           obtain ⟨-, hcells⟩ := hsl2.cells hrd
           have r0 : wc.cell? ⟨b2, off2 + k, none⟩ = some (.int .i64 reads[k]) := by
             have := hcells 0 _ rfl
             simp only [Nat.mul_one, Nat.add_zero] at this
             exact this
           have hr1 : (k : Int) < (reads.length : Int) := by omega
           have HWR := Lib.hid (HRW.out _ (List.getElem_mem hrd))
           have HRB := Lib.hid (show b2 < w.heap.size from by
             rcases HR.out.cases with ⟨A, c, he, hnil⟩ | ⟨b', off', c, he, -, hbl', -⟩
             · rw [hnil] at hrd; simp at hrd
             · injection he with he1 he2 he3
               injection he1 with he1
               injection he1 with he4 he5 he6
               rw [he4]; exact hbl')
           clear hcells hsl2
           generalize reads[k] = rd at *
           have HR0 := Lib.hid r0
           go_wp2_with fail
           refine (ca_get rd wc HCA7.out HWR.out).mono ?_
           rintro e w8 ⟨rfl, hca, hch⟩
           have HCA8 := Lib.hid hca
           have HS8 := Lib.hid (HS7.out.ch hch HD17.out)
           have HL8 := Lib.hid (HL7.out.ch hch HD27.out)
           have HB8 := Lib.hid (HB7.out.trans (hch.below HB7.out.size HF7.out))
           have HFL8 := Lib.hid (show ∀ j, F7 j → j < w8.heap.size from fun j hj => Nat.lt_of_lt_of_le (HFL7.out j hj) hch.size)
           have HLP8 := Lib.hid (HLP7.out.get hca.kv (mem_getL HLP7.out.kv))
           have r1 : w8.cell? ⟨b2, off2 + k, none⟩ = some (.int .i64 rd) := hch.cell r0 (fun h => by have h5 : w.heap.size ≤ b2 := HF7.out _ h; have := HRB.out; omega)
           have hbl8 := Nat.lt_of_lt_of_le hbl2 hch.size
           clear hca hch r0 HCA7 HS7 HL7 HFL7 HB7
           obtain ⟨Al8, cl8, rfl⟩ := Sl.len' (HL8.out.sl Pg.len)
           cases hg : (getR rd L7).2
           · go_wp2_with fail
             refine (place_any _ La7 rd w8 (HL8.out.sl Pg.len) (by have := H47.out; omega)).mono ?_
             rintro e w' ⟨rfl, rfl⟩
             go_wp2_with fail
             go_roundw
             case rel => exact ⟨k + 1, by omega, by omega, by go_num, F7, _, St7, La7, HCA8.out, HS8.out, HL8.out, HF7.out, HFL8.out, HD17.out, HD27.out, HD37.out, HB8.out, HLP8.out, H37.out, H47.out⟩
             case measure => simp [intOf]; omega
           · obtain ⟨hfi, hls⟩ := HLP7.out.seen hg
             have HFI := Lib.hid (show firstOr (fun x : Pg => x.n == rd) La7 = (La7.findIdx (fun x : Pg => x.n == rd) : Int) by unfold firstOr; rw [if_pos hfi])
             rcases (HL8.out.sl Pg.len).cases with ⟨A, c, he, hnil⟩ | ⟨b3, off3, c, he, -, hbl3, hsl3⟩
             · rw [hnil] at hfi; simp at hfi
             injection he with he1 he2 he3
             subst he1 he3
             obtain ⟨-, hcells⟩ := hsl3.cells hfi
             have l1 : w8.cell? ⟨b3, off3 + La7.findIdx (fun x : Pg => x.n == rd) * 2 + 1, none⟩ = some (.string (getR rd L7).1) := by rw [← hls]; simpa using hcells 1 _ rfl
             clear hcells hsl3 hls
             generalize (getR rd L7).1 = gs at *
             go_wp2_with fail
             refine (place_any _ La7 rd w8 (HL8.out.sl Pg.len) (by have := H47.out; omega)).mono ?_
             rintro e w' ⟨rfl, rfl⟩
             rw [HFI.out]
             generalize La7.findIdx (fun x : Pg => x.n == rd) = ix at *
             have hi0 : (0 : Int) ≤ (ix : Int) := by omega
             have hi1 : (ix : Int) < (La7.length : Int) := by omega
             go_wp2_with fail
             go_roundw
             case rel => exact ⟨k + 1, by omega, by omega, by go_num, F7, _, St7, La7, HCA8.out, HS8.out, HL8.out, HF7.out, HFL8.out, HD17.out, HD27.out, HD37.out, HB8.out, HLP8.out, H37.out, H47.out⟩
             case measure => simp [intOf]; omega
         · go_wp2_with fail
           go_roundw
           case rel => exact ⟨k + 1, by omega, by omega, by go_num, F7, L7, St7, La7, HCA7.out, HS7.out, HL7.out, HF7.out, HFL7.out, HD17.out, HD27.out, HD37.out, HB7.out, HLP7.out, H37.out, H47.out⟩
           case measure => simp [intOf]; omega
    · clear HWF HRW
      have HLF := Lib.hid HLP.out.fin
      have hLz := HCA.out.len
      have HDL := Lib.hid (show (dirtyL L).length ≤ 256 from by
        unfold dirtyL
        rw [List.length_mergeSort, List.length_map]
        have := List.length_filter_le (fun x : Int × ByteArray × Bool => x.2.2) L
        omega)
      have HLZ := Lib.hid hLz
      have hL1 : decide (((L.length : Nat) : Int) ≤ 256) = true := decide_eq_true (by omega)
      have hcase : (k < pages.length ∧ (300 : Int) ≤ (k : Int)) ∨ ¬ k < pages.length := by omega
      clear hlt hLz
      rcases hcase with ⟨hl, hl3⟩ | hl
      all_goals
        go_wp2_with fail
        refine (ca_dirty wr HCA.out hz2).mono ?_
        rintro e w5 ⟨dv, rfl, hdl, hnw, hb⟩
        have HS5 := Lib.hid (HS.out.below hb)
        have HL5 := Lib.hid (HL.out.below hb)
        have HCA5 := Lib.hid (HCA.out.below hb)
        have HDV := Lib.hid hdl
        have HB5 := Lib.hid (HB.out.trans (hb.mono HB.out.size))
        clear hdl hnw hb
        go_wp2_with (at_builtin; refine Hid.out ?_)
        refine Lib.hid ?_
        refine wpList_append_sl rfl rfl elP rfl rfl HS5.out HDV.out (by have := H3.out; have := HDL.out; simp [maxLen]; omega) (by have := H3.out; have := HDL.out; omega) HB5.out.size ?_
        intro sv' w6 ho2 hg2 hat2
        have HS6 := Lib.hid (ho2.sl Pg.len)
        have HL6 := Lib.hid ((HL5.out.dis hg2 HD3.out.symm).sl Pg.len)
        have HCA6 := Lib.hid (HCA5.out.ch (Ch.of_grown (S := fun j => (Value.slice As St.length cs).ownBlock = some j) hg2 (fun j e => e)) (fun j hF hj => HD1.out j hj hF))
        have HB6 := Lib.hid (below_app HB5.out hg2 HB5.out.size (fun j hj => (HS5.out.lt j hj).1))
        have HSL := Lib.hid (show (St ++ dirtyL L).length ≤ 600 by have := H3.out; have := HDL.out; simp; omega)
        clear ho2 hg2 hat2 HS5 HL5 HCA5 HDV HB5
        obtain ⟨As6, cs6, hs6⟩ := Sl.len' HS6.out
        subst hs6
        generalize St ++ dirtyL L = T at *
        go_wp2_with fail
        go_loopw [15] (fun i wr => ∃ j : Nat, j ≤ La.length ∧ i = .int .i64 j ∧ Below w6.heap.size w6 wr) (fun i _ => La.length - (intOf i).toNat)
        case atStart => exact ⟨0, Nat.zero_le _, rfl, Below.refl _ _⟩
        case round =>
          obtain ⟨j, hj, rfl, hb⟩ := hrel
          obtain ⟨wo, hwo⟩ : ∃ wo : World, wo = wr := ⟨_, rfl⟩
          subst hwo
          have HBO := Lib.hid hb
          clear hb
          by_cases hjl : j < La.length
          · rcases (HL6.out.keep HBO.out).cases with ⟨A, c, he, hnil⟩ | ⟨b, off, c, he, -, hbl, hsl⟩
            · rw [hnil] at hjl; simp at hjl
            injection he with he1 he2 he3
            subst he1 he3
            obtain ⟨-, hcells⟩ := hsl.cells hjl
            have HY0 := Lib.hid (show wo.cell? ⟨b, off + j * 2, none⟩ = some (.int .i64 La[j].n) by simpa using hcells 0 _ rfl)
            have HY1 := Lib.hid (show wo.cell? ⟨b, off + j * 2 + 1, none⟩ = some (.string La[j].s) by simpa using hcells 1 _ rfl)
            have HBL := Lib.hid hbl
            have HLO := Lib.hid (HLF.out _ (List.getElem_mem hjl))
            have hj0 : (0 : Int) ≤ (j : Int) := by omega
            have hj1 : (j : Int) < (La.length : Int) := by omega
            clear hcells hsl hbl
            generalize La[j] = y at *
            obtain ⟨yn, ys⟩ := y
            simp only at HY0 HY1 HLO
            go_wp2_with fail
            go_loopw [16, 17, 18] (fun fv iv kv wr => ∃ q : Nat, q ≤ T.length ∧ kv = .int .i64 q ∧ iv = .bool (lo yn (T.take q)).isSome ∧ fv = .string ((lo yn (T.take q)).getD ⟨#[]⟩) ∧ Below wo.heap.size wo wr) (fun _ _ kv _ => T.length - (intOf kv).toNat)
            case atStart => exact ⟨0, Nat.zero_le _, rfl, rfl, rfl, Below.refl _ _⟩
            case round =>
              obtain ⟨q, hq, rfl, rfl, rfl, hb⟩ := hrel
              have HBQ := Lib.hid hb
              have y0 := (hb.cell (p := ⟨b, off + j * 2, none⟩) HBL.out).trans HY0.out
              have y1 := (hb.cell (p := ⟨b, off + j * 2 + 1, none⟩) HBL.out).trans HY1.out
              have hbl := Nat.lt_of_lt_of_le HBL.out hb.size
              clear hb
              by_cases hql : q < T.length
              · have HST := Lib.hid (show lo yn (T.take (q + 1)) = if T[q].n == yn then some T[q].s else lo yn (T.take q) by rw [List.take_succ_eq_append_getElem hql, lo_snoc])
                rcases ((HS6.out.keep HBO.out).keep HBQ.out).cases with ⟨A, c, he, hnil⟩ | ⟨b2, off2, c, he, -, hbl2, hsl2⟩
                · rw [hnil] at hql; simp at hql
                injection he with he1 he2 he3
                subst he1 he3
                obtain ⟨-, hcells⟩ := hsl2.cells hql
                have t0 : wr.cell? ⟨b2, off2 + q * 2, none⟩ = some (.int .i64 T[q].n) := by simpa using hcells 0 _ rfl
                have t1 : wr.cell? ⟨b2, off2 + q * 2 + 1, none⟩ = some (.string T[q].s) := by simpa using hcells 1 _ rfl
                have hq0 : (0 : Int) ≤ (q : Int) := by omega
                have hq1 : (q : Int) < (T.length : Int) := by omega
                have hq2 : T.length ≤ 600 := HSL.out
                clear hcells hsl2
                generalize T[q] = x at *
                obtain ⟨xn, xs⟩ := x
                simp only at t0 t1 HST
                generalize lo yn (T.take q) = o at *
                cases hx : (xn == yn)
                · have HST2 := Lib.hid (HST.out.trans (show (if (xn == yn) = true then some xs else o) = o by rw [hx]; simp))
                  go_wp2_with fail
                  go_quiet (fail)
                  go_wp2_with fail
                  go_roundw
                  case rel => exact ⟨q + 1, by omega, by go_num, by rw [HST2.out], by rw [HST2.out], below_drewN' _ HBQ.out⟩
                  case measure => simp [intOf]; omega
                · have HST2 := Lib.hid (HST.out.trans (show _ = some xs by rw [hx]; rfl))
                  go_wp2_with fail
                  go_quiet (fail)
                  go_wp2_with fail
                  go_roundw
                  case rel => exact ⟨q + 1, by omega, by go_num, by rw [HST2.out]; rfl, by rw [HST2.out]; rfl, below_drewN' _ HBQ.out⟩
                  case measure => simp [intOf]; omega
              · rw [show lo yn (T.take q) = some ys by rw [List.take_of_length_le (by omega)]; exact HLO.out]
                simp only [Option.isSome_some, Option.getD_some]
                have hj2 : La.length ≤ 300 := by have := H4.out; omega
                go_wp2_with fail
                go_roundw
                case rel => exact ⟨j + 1, by omega, by go_num, HBO.out.trans (HBQ.out.mono HBO.out.size)⟩
                case measure => simp [intOf]; omega
          · have HCA7 := Lib.hid (HCA6.out.below HBO.out)
            have HBF := Lib.hid (HB6.out.trans (HBO.out.mono HB6.out.size))
            rcases (show ((L.length : Int) ≤ size) ∨ (¬ (L.length : Int) ≤ size ∧ (L.length : Int) ≤ 1) by have := HSZ.out; have := HLZ.out; omega) with hsz | ⟨hsz, hsz2⟩
            · have hd1 : decide (((L.length : Nat) : Int) ≤ size) = true := decide_eq_true hsz
              clear hsz
              go_wp2_with fail
              refine (ca_len wo HCA7.out).mono ?_
              rintro e w' ⟨rfl, rfl⟩
              go_wp2_with fail
              refine (ca_len wo HCA7.out).mono ?_
              rintro e w' ⟨rfl, rfl⟩
              go_wp2_with fail
              go_ret
              exact ⟨rfl, HBF.out⟩
            · have hd1 : decide (((L.length : Nat) : Int) ≤ size) = false := decide_eq_false hsz
              have hd2 : decide (((L.length : Nat) : Int) ≤ 1) = true := decide_eq_true hsz2
              clear hsz hsz2
              go_wp2_with fail
              refine (ca_len wo HCA7.out).mono ?_
              rintro e w' ⟨rfl, rfl⟩
              go_wp2_with fail
              refine (ca_len wo HCA7.out).mono ?_
              rintro e w' ⟨rfl, rfl⟩
              go_wp2_with fail
              refine (ca_len wo HCA7.out).mono ?_
              rintro e w' ⟨rfl, rfl⟩
              go_wp2_with fail
              go_ret
              exact ⟨rfl, HBF.out⟩
end Go.Proofs.Ytjjiclbngoldaaa
