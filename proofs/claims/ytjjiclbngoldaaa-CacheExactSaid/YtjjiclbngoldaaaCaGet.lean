/- The walks of a cache's Forget, Get, Clean. -/
import Derived.Test.YtjjiclbngoldaaaCaOps
namespace Go.Proofs.Ytjjiclbngoldaaa
open Go.RowKit Go.Maps

/-- the same page, dirty or not -/
def val (e : En) : Int × ByteArray × Bool := (e.n, e.s, e.d)
theorem val_setx (E : Nat → En) (g v k : Nat) : val (setx E g v k) = val (E k) := by unfold val setx; split <;> rfl
theorem val_seto (E : Nat → En) (g v k : Nat) : val (seto E g v k) = val (E k) := by unfold val seto; split <;> rfl
def outE (E : Nat → En) (g : Nat) : Nat → En := seto (setx E (E g).o (E g).x) (E g).x (E g).o
def useE (E : Nat → En) (g r : Nat) : Nat → En := seto (setx (setx (seto E g (E r).o) g r) (E r).o g) r g
theorem val_outE (E : Nat → En) (g k : Nat) : val (outE E g k) = val (E k) := by unfold outE; rw [val_seto, val_setx]
theorem val_useE (E : Nat → En) (g r k : Nat) : val (useE E g r k) = val (E k) := by unfold useE; rw [val_seto, val_setx, val_setx, val_seto]
theorem n_val {a b : En} (h : val a = val b) : a.n = b.n := congrArg (·.1) h

section
variable {w w' : World} {gc gr gm g : Nat} {size : Int} {gs xs ys : List Nat} {E : Nat → En}
theorem CaIs.nd' (h : CaIs w gc gr gm size gs E) : (gr :: gs).Nodup ∧ gc ∉ gr :: gs ∧ gm ∉ gr :: gs ∧ gc ≠ gm := by
  have := h.nd
  rw [List.nodup_cons, List.nodup_cons] at this
  exact ⟨this.2.2, fun hm => this.1 (List.mem_cons_of_mem _ hm), this.2.1, fun e => this.1 (by simp [e])⟩
theorem CaIs.nbr (h : CaIs w gc gr gm size (xs ++ g :: ys) E) : (E g).o ∈ gr :: xs ∧ (E g).x ∈ ys ++ [gr] := by
  have hsp := h.seg.split
  exact ⟨by rw [hsp.1.last]; exact List.getLast_mem _, by rw [hsp.2.first]; exact List.head_mem _⟩
theorem CaIs.nbr' (h : CaIs w gc gr gm size (xs ++ g :: ys) E) : (E g).o ∈ gr :: (xs ++ g :: ys) ∧ (E g).x ∈ gr :: (xs ++ g :: ys) := by
  obtain ⟨h1, h2⟩ := h.nbr
  refine ⟨?_, ?_⟩
  · rcases List.mem_cons.1 h1 with e | e <;> simp [e]
  · rcases List.mem_append.1 h2 with e | e
    · simp [e]
    · simp at e; simp [e]
theorem CaIs.seg_out (h : CaIs w gc gr gm size (xs ++ g :: ys) E) : Seg (outE E g) gr (xs ++ ys) gr := by
  have hn := h.nd'.1
  have hn2 := (List.nodup_cons.1 hn).1
  simp only [List.mem_append, List.mem_cons, not_or] at hn2
  exact Seg.out hn2.2.2 (fun e => hn2.2.1 e.symm) h.seg hn hn2.1
theorem MapIs.perm {K K' : List (Int × Nat)} (h : MapIs w gm K) (hp : K'.Perm K) : MapIs w gm K' := by
  obtain ⟨D, hown, hm⟩ := h
  refine ⟨D, by rw [hp.length_eq]; exact hown, ⟨hm.tidy, ((hp.map _).nodup_iff).2 hm.nd, fun p hp' => hm.yes p (hp.mem_iff.1 hp'), fun n hn => hm.no n fun hh => hn (((hp.map _).mem_iff).2 hh), by rw [hm.size, hp.length_eq]⟩⟩
theorem use_seg {n : Nat} (hs : Seg E gr gs gr) (hnd : (gr :: gs).Nodup) (hg : n ∉ gr :: gs) : Seg (useE E n gr) gr (gs ++ [n]) gr :=
  Seg.use (fun e => hg (by simp [e])) hs hnd (List.nodup_cons.1 hnd).1 hg
theorem CaIs.nd_out (h : CaIs w gc gr gm size (xs ++ g :: ys) E) : (gc :: gm :: gr :: (xs ++ ys)).Nodup ∧ g ∉ gc :: gm :: gr :: (xs ++ ys) := by
  have hp : (gc :: gm :: gr :: (xs ++ g :: ys)).Perm (g :: gc :: gm :: gr :: (xs ++ ys)) := by
    refine (List.Perm.cons _ ((List.Perm.cons _ ((List.Perm.cons _ (List.perm_middle)).trans (List.Perm.swap ..))).trans (List.Perm.swap ..))).trans (List.Perm.swap ..)
  have := hp.nodup_iff.1 h.nd
  rw [List.nodup_cons] at this
  exact ⟨this.2, this.1⟩
end

set_option maxRecDepth 100000 in
theorem forget_yes {gc gr gm g : Nat} {size : Int} {xs ys : List Nat} {E : Nat → En} (n : Int) (w : World) (h : CaIs w gc gr gm size (xs ++ g :: ys) E) (hn : (E g).n = n) :
    Calls Try.prog 19 #[.pointer (some ⟨gc, 0, none⟩), .int .i64 n] w fun e w' => e = .returned (.tuple #[]) ∧ CaIs w' gc gr gm size (xs ++ ys) (outE E g) ∧
      w'.heap[g]? = w.heap[g]? ∧ Ch (fun k => k ∈ gm :: gr :: (xs ++ ys)) w w' := by
  subst hn
  have hgm : g ∈ xs ++ g :: ys := by simp
  have HF := Lib.hid (found_yes (E g).n g w h hgm rfl)
  have HO := Lib.hid (out_any _ E g w h.mem (List.mem_cons_of_mem _ hgm) h.nbr'.1 h.nbr'.2)
  have H := Lib.hid h
  clear h
  go_enter Try.func19, Try.ntmps19
  go_wp2_with fail
  refine HF.out.mono ?_
  rintro e w' ⟨rfl, rfl⟩
  go_wp2_with fail
  refine HO.out.mono ?_
  rintro e w1 ⟨rfl, hm1, hc1⟩
  have HM1 := Lib.hid hm1
  have HC1 := Lib.hid hc1
  have hno : ∀ k, k = (E g).o ∨ k = (E g).x → k ∈ gr :: (xs ++ ys) := by
    obtain ⟨h1, h2⟩ := H.out.nbr
    rintro k (rfl | rfl)
    · rcases List.mem_cons.1 h1 with e | e <;> simp [e]
    · rcases List.mem_append.1 h2 with e | e
      · simp [e]
      · simp at e; simp [e]
  obtain ⟨hnd1, hnd2⟩ := H.out.nd_out
  have hgc : ∀ k ∈ gm :: gr :: (xs ++ ys), gc ≠ k := fun k hk e => (List.nodup_cons.1 hnd1).1 (e ▸ hk)
  have hgmn : gm ∉ gr :: (xs ++ ys) := (List.nodup_cons.1 (List.nodup_cons.1 hnd1).2).1
  have hb1 := HC1.out.keep H.out.bc (fun hk => hgc gc (List.mem_cons_of_mem _ (hno _ hk)) rfl)
  have hmap1 : MapIs w1 gm ((xs ++ g :: ys).map fun k => ((E k).n, k)) := H.out.map.ch HC1.out (fun hk => hgmn (hno _ hk))
  rw [List.map_append, List.map_cons] at hmap1
  obtain ⟨w2, hrun, hmap2, hg2⟩ := hmap1.del (H.out.wf g hgm) 0
  have HMAP := Lib.hid hmap2
  have HG := Lib.hid hg2
  have HB1 := Lib.hid hb1
  have HNO := Lib.hid hno
  have HND := Lib.hid hnd1
  have HND2 := Lib.hid hnd2
  have HGC := Lib.hid hgc
  have HGMN := Lib.hid hgmn
  have c2 : w1.cell? ⟨gc, 2, none⟩ = some (.map (some gm)) := by simp [World.cell?, hb1]
  clear hm1 hc1 hno hnd1 hnd2 hgc hgmn hb1 hmap1 hmap2 hg2 hgm
  go_wp2_with fail
  go_end0
  have hcg := Ch.of_grown (S := fun k => k ∈ gm :: gr :: (xs ++ ys)) HG.out (fun k e => by cases e; simp)
  have hcm := Ch.of_grown (S := fun k => k = gm) HG.out (fun k e => by cases e; rfl)
  have hout := HC1.out.mono (S' := fun k => k ∈ gm :: gr :: (xs ++ ys)) (fun k _ hk => List.mem_cons_of_mem _ (HNO.out k hk))
  have hgn : ∀ k ∈ gm :: gr :: (xs ++ ys), g ≠ k := fun k hk e => HND2.out (e ▸ List.mem_cons_of_mem _ hk)
  refine ⟨rfl, ⟨hcm.keep HB1.out (fun e => HGC.out gm (by simp) e), ?_, H.out.seg_out, HND.out, ?_, fun k hk => ?_⟩, ?_, hout.trans hcg⟩
  · intro k hk
    refine hcm.keep (HM1.out k ?_) (fun e => HGMN.out (e ▸ hk))
    simp only [List.mem_cons, List.mem_append] at hk ⊢
    rcases hk with hk | hk | hk <;> simp [hk]
  · rw [List.map_congr_left (g := fun k => ((E k).n, k)) (fun k _ => by rw [n_val (val_outE E g k)]), List.map_append]
    exact HMAP.out
  · rw [n_val (val_outE E g k)]
    exact H.out.wf k (by rcases List.mem_append.1 hk with hk | hk <;> simp [hk])
  · have hlt := lt_of_heap (H.out.mem g (by simp))
    rw [hcg.block g (Nat.lt_of_lt_of_le hlt hout.size) (fun hk => hgn g hk rfl), hout.block g hlt (fun hk => hgn g hk rfl)]

set_option maxRecDepth 100000 in
theorem forget_no {gc gr gm : Nat} {size : Int} {gs : List Nat} {E : Nat → En} (n : Int) (w : World) (h : CaIs w gc gr gm size gs E) (hw : wfI n) (hn : ∀ g ∈ gs, (E g).n ≠ n) :
    Calls Try.prog 19 #[.pointer (some ⟨gc, 0, none⟩), .int .i64 n] w fun e w' => e = .returned (.tuple #[]) ∧ w = w' := by
  have HF := Lib.hid (found_no n w h hw hn)
  clear h hn
  go_enter Try.func19, Try.ntmps19
  go_wp2_with fail
  refine HF.out.mono ?_
  rintro e w' ⟨rfl, rfl⟩
  go_wp2_with fail
  go_end0
  exact ⟨rfl, rfl⟩

set_option maxRecDepth 100000 in
theorem clean_yes {gc gr gm g : Nat} {size : Int} {gs : List Nat} {E : Nat → En} (n : Int) (w : World) (h : CaIs w gc gr gm size gs E) (hg : g ∈ gs) (hn : (E g).n = n) :
    Calls Try.prog 17 #[.pointer (some ⟨gc, 0, none⟩), .int .i64 n] w fun e w' => e = .returned (.tuple #[]) ∧ CaIs w' gc gr gm size gs (setd E g false) ∧ Ch (fun k => k = g) w w' := by
  subst hn
  have HF := Lib.hid (found_yes (E g).n g w h hg rfl)
  have H := Lib.hid h
  have hg' : g ∈ gr :: gs := List.mem_cons_of_mem _ hg
  have HG := Lib.hid hg'
  have c2 := h.mem.cell hg' 2
  have f2 := h.mem.frozen hg' 2
  clear h hg hg'
  go_enter Try.func17, Try.ntmps17
  go_wp2_with fail
  refine HF.out.mono ?_
  rintro e w' ⟨rfl, rfl⟩
  go_wp2_with fail
  go_end0
  have hc := (Ch.refl (fun k => k = g) w).setCell (p := ⟨g, 2, none⟩) rfl (.bool false)
  have hv : ∀ k, (setd E g false k).n = (E k).n ∧ (setd E g false k).o = (E k).o ∧ (setd E g false k).x = (E k).x := fun k => by unfold setd; split <;> exact ⟨rfl, rfl, rfl⟩
  obtain ⟨n1, n2, n3, n4⟩ := H.out.nd'
  refine ⟨rfl, ⟨hc.keep H.out.bc (fun e => n2 (e ▸ HG.out)), H.out.mem.setd HG.out _, H.out.seg.congr (fun k _ => (hv k).2.2) (fun k _ => (hv k).2.1), H.out.nd, ?_, fun k hk => by rw [(hv k).1]; exact H.out.wf k hk⟩, hc⟩
  rw [List.map_congr_left (g := fun k => ((E k).n, k)) (fun k _ => by rw [(hv k).1])]
  exact H.out.map.ch hc (fun e => n3 (e ▸ HG.out))
set_option maxRecDepth 100000 in
theorem clean_no {gc gr gm : Nat} {size : Int} {gs : List Nat} {E : Nat → En} (n : Int) (w : World) (h : CaIs w gc gr gm size gs E) (hw : wfI n) (hn : ∀ g ∈ gs, (E g).n ≠ n) :
    Calls Try.prog 17 #[.pointer (some ⟨gc, 0, none⟩), .int .i64 n] w fun e w' => e = .returned (.tuple #[]) ∧ w = w' := by
  have HF := Lib.hid (found_no n w h hw hn)
  clear h hn
  go_enter Try.func17, Try.ntmps17
  go_wp2_with fail
  refine HF.out.mono ?_
  rintro e w' ⟨rfl, rfl⟩
  go_wp2_with fail
  go_end0
  exact ⟨rfl, rfl⟩

set_option maxRecDepth 100000 in
theorem get_yes {gc gr gm g : Nat} {size : Int} {xs ys : List Nat} {E : Nat → En} (n : Int) (w : World) (h : CaIs w gc gr gm size (xs ++ g :: ys) E) (hn : (E g).n = n) :
    Calls Try.prog 10 #[.pointer (some ⟨gc, 0, none⟩), .int .i64 n] w fun e w' => e = .returned (.tuple #[.string (E g).s, .bool true]) ∧ CaIs w' gc gr gm size (xs ++ ys ++ [g]) (useE (outE E g) g gr) ∧
      Ch (fun k => k ∈ gr :: (xs ++ g :: ys)) w w' := by
  subst hn
  have hgm : g ∈ xs ++ g :: ys := by simp
  have HF := Lib.hid (found_yes (E g).n g w h hgm rfl)
  have HO := Lib.hid (out_any _ E g w h.mem (List.mem_cons_of_mem _ hgm) h.nbr'.1 h.nbr'.2)
  have H := Lib.hid h
  clear h
  go_enter Try.func10, Try.ntmps10
  go_wp2_with fail
  refine HF.out.mono ?_
  rintro e w' ⟨rfl, rfl⟩
  go_wp2_with fail
  refine HO.out.mono ?_
  rintro e w1 ⟨rfl, hm1, hc1⟩
  have HM1 := Lib.hid (show MemE (fun k => k ∈ gr :: (xs ++ g :: ys)) w1 (outE E g) from hm1)
  have hno : ∀ k, k = (E g).o ∨ k = (E g).x → k ∈ gr :: (xs ++ g :: ys) := by
    rintro k (rfl | rfl)
    · exact H.out.nbr'.1
    · exact H.out.nbr'.2
  have HC1 := Lib.hid (hc1.mono (S' := fun k => k ∈ gr :: (xs ++ g :: ys)) (fun k _ hk => hno k hk))
  clear hm1 hc1 hno
  obtain ⟨hnd1, hnd2⟩ := H.out.nd_out
  obtain ⟨n1, n2, n3, n4⟩ := H.out.nd'
  have HND := Lib.hid hnd1
  have HND2 := Lib.hid hnd2
  have HN2 := Lib.hid n2
  have HN3 := Lib.hid n3
  have hb1 := HC1.out.keep H.out.bc HN2.out
  have HB1 := Lib.hid hb1
  have c1 : w1.cell? ⟨gc, 1, none⟩ = some (.pointer (some ⟨gr, 0, none⟩)) := by simp [World.cell?, hb1]
  have hseg := H.out.seg_out
  have hgs : g ∉ gr :: (xs ++ ys) := fun hk => hnd2 (List.mem_cons_of_mem _ (List.mem_cons_of_mem _ hk))
  have hndr : (gr :: (xs ++ ys)).Nodup := (List.nodup_cons.1 (List.nodup_cons.1 hnd1).2).2
  have hlast := hseg.last
  have hlm : (outE E g gr).o ∈ gr :: (xs ++ ys) := by rw [hlast]; exact List.getLast_mem _
  have hsub : ∀ k ∈ gr :: (xs ++ ys), k ∈ gr :: (xs ++ g :: ys) := fun k hk => by
    simp only [List.mem_cons, List.mem_append] at hk ⊢
    rcases hk with hk | hk | hk <;> simp [hk]
  have HU := Lib.hid (use_any _ (outE E g) gc g gr w1 HM1.out c1 (List.mem_cons_of_mem _ hgm) (by simp) (hsub _ hlm) (fun e => hgs (e ▸ hlm)) (fun e => hgs (by simp [e])))
  have HSEG := Lib.hid (use_seg hseg hndr hgs)
  have HLM := Lib.hid (hsub _ hlm)
  clear hlast hlm hsub hseg hgs hndr hnd1 hnd2 n1 n2 n3 n4 hb1 c1
  go_wp2_with fail
  refine HU.out.mono ?_
  rintro e w2 ⟨rfl, hm2, hc2⟩
  have HM2 := Lib.hid (show MemE (fun k => k ∈ gr :: (xs ++ g :: ys)) w2 (useE (outE E g) g gr) from hm2)
  have HC2 := Lib.hid (hc2.mono (S' := fun k => k ∈ gr :: (xs ++ g :: ys)) (fun k _ hk => by
    rcases hk with rfl | rfl | rfl
    · exact List.mem_cons_of_mem _ hgm
    · exact HLM.out
    · simp))
  have hv := val_useE (outE E g) g gr g
  rw [val_outE] at hv
  have e1 := HM2.out.cell (g := g) (List.mem_cons_of_mem _ hgm) 1
  rw [show (useE (outE E g) g gr g).s = (E g).s from congrArg (·.2.1) hv] at e1
  clear hm2 hc2 hv hgm
  go_wp2_with fail
  go_ret2
  have hc := HC1.out.trans HC2.out
  have hn : ∀ k, (useE (outE E g) g gr k).n = (E k).n := fun k => n_val ((val_useE _ _ _ _).trans (val_outE _ _ _))
  have hp : (xs ++ ys ++ [g]).Perm (xs ++ g :: ys) := by
    rw [List.append_assoc]
    exact List.Perm.append_left _ (List.perm_append_singleton ..)
  refine ⟨rfl, ⟨HC2.out.keep HB1.out HN2.out, fun k hk => HM2.out k ?_, HSEG.out, ?_, ?_, fun k hk => ?_⟩, hc⟩
  · rcases List.mem_cons.1 hk with hk | hk
    · simp [hk]
    · exact List.mem_cons_of_mem _ (hp.mem_iff.1 hk)
  · exact ((List.Perm.cons _ (List.Perm.cons _ (List.Perm.cons _ hp))).nodup_iff).2 H.out.nd
  · rw [List.map_congr_left (g := fun k => ((E k).n, k)) (fun k _ => by rw [hn])]
    exact (H.out.map.ch hc HN3.out).perm (hp.map _)
  · rw [hn]
    exact H.out.wf k (hp.mem_iff.1 hk)

set_option maxRecDepth 100000 in
theorem get_no {gc gr gm : Nat} {size : Int} {gs : List Nat} {E : Nat → En} (n : Int) (w : World) (h : CaIs w gc gr gm size gs E) (hw : wfI n) (hn : ∀ g ∈ gs, (E g).n ≠ n) :
    Calls Try.prog 10 #[.pointer (some ⟨gc, 0, none⟩), .int .i64 n] w fun e w' => e = .returned (.tuple #[.string ⟨#[]⟩, .bool false]) ∧ w = w' := by
  have HF := Lib.hid (found_no n w h hw hn)
  clear h hn
  go_enter Try.func10, Try.ntmps10
  go_wp2_with fail
  refine HF.out.mono ?_
  rintro e w' ⟨rfl, rfl⟩
  go_wp2_with fail
  go_ret2
  exact ⟨rfl, rfl⟩
theorem get_nil (n : Int) (w : World) : Calls Try.prog 10 #[.pointer none, .int .i64 n] w fun e w' => e = .returned (.tuple #[.string ⟨#[]⟩, .bool false]) ∧ w = w' := by
  go_enter Try.func10, Try.ntmps10
  go_wp2_with fail
  refine (found_nil _ _).mono ?_
  rintro e w' ⟨rfl, rfl⟩
  go_wp2_with fail
  go_ret2
  exact ⟨rfl, rfl⟩
end Go.Proofs.Ytjjiclbngoldaaa
