/- A cache's contracts, by the list of what it holds. -/
import Derived.Test.YtjjiclbngoldaaaCaDirty
namespace Go.Proofs.Ytjjiclbngoldaaa
open Go.RowKit Go.Maps

abbrev On := Int × ByteArray × Bool
/-- v is a cache of so many pages that holds L, the one used longest ago first; its memory lies in F. -/
def Ca (w : World) (F : Nat → Prop) (v : Value) (size : Int) (L : List On) : Prop :=
  ∃ gc gr gm gs E, v = .pointer (some ⟨gc, 0, none⟩) ∧ CaIs w gc gr gm size gs E ∧ L = vals gs E ∧ (gs.length : Int) ≤ size ∧ ∀ k ∈ gc :: gm :: gr :: gs, F k
def getL (n : Int) (L : List On) : List On := match L.find? (fun x => x.1 == n) with | some x => without n L ++ [x] | none => L
def getR (n : Int) (L : List On) : ByteArray × Bool := match L.find? (fun x => x.1 == n) with | some x => (x.2.1, true) | none => (⟨#[]⟩, false)
def cleanL (n : Int) (L : List On) : List On := L.map fun x => if x.1 == n then (x.1, x.2.1, false) else x
def kv (L : List On) : Prop := (L.map (·.1)).Nodup

section
variable {w w' : World} {F S : Nat → Prop} {v : Value} {size : Int} {L : List On}
theorem Ca.ch (h : Ca w F v size L) (hc : Ch S w w') (hd : ∀ k, F k → ¬ S k) : Ca w' F v size L := by
  obtain ⟨gc, gr, gm, gs, E, h1, h2, h3, h4, h5⟩ := h
  exact ⟨gc, gr, gm, gs, E, h1, h2.ch hc (fun k hk => hd k (h5 k hk)), h3, h4, h5⟩
theorem Ca.below (h : Ca w F v size L) (hb : Below w.heap.size w w') : Ca w' F v size L := h.ch (Ch.of_below (S := fun _ => False) hb) (fun _ _ h => h)
theorem Ca.len (h : Ca w F v size L) : (L.length : Int) ≤ size := by
  obtain ⟨gc, gr, gm, gs, E, h1, h2, h3, h4, h5⟩ := h
  rw [h3]; unfold vals; rw [List.length_map]; exact h4
theorem Ca.kv (h : Ca w F v size L) : kv L := by
  obtain ⟨gc, gr, gm, gs, E, h1, h2, rfl, h4, h5⟩ := h
  have := h2.map.nd
  rw [List.map_map] at this
  unfold Ytjjiclbngoldaaa.kv vals
  rw [List.map_map]
  exact this
theorem Ca.ptr (h : Ca w F v size L) : ∃ a : Addr, v = .pointer (some a) := by obtain ⟨gc, _, _, _, _, h, _⟩ := h; exact ⟨_, h⟩
end

theorem vals_find {gs : List Nat} {E : Nat → En} {n : Int} {g : Nat} {xs ys : List Nat} (hx : gs = xs ++ g :: ys) (hg : (E g).n = n) (hne : ∀ k ∈ xs, (E k).n ≠ n) : (vals gs E).find? (fun x => x.1 == n) = some (val (E g)) := by
  subst hx
  unfold vals
  rw [List.map_append, List.map_cons, List.find?_append]
  have : (xs.map fun g => val (E g)).find? (fun x => x.1 == n) = none := by
    rw [List.find?_eq_none]
    intro x hx
    obtain ⟨k, hk, rfl⟩ := List.mem_map.1 hx
    simpa [val] using hne k hk
  rw [this, Option.none_or, List.find?_cons_of_pos]
  simpa [val] using hg
theorem vals_none {gs : List Nat} {E : Nat → En} {n : Int} (hne : ∀ k ∈ gs, (E k).n ≠ n) : (vals gs E).find? (fun x => x.1 == n) = none := by
  rw [List.find?_eq_none]
  intro x hx
  obtain ⟨k, hk, rfl⟩ := List.mem_map.1 hx
  simpa [val] using hne k hk
theorem vals_without {gs : List Nat} {E : Nat → En} {n : Int} {g : Nat} {xs ys : List Nat} (hx : gs = xs ++ g :: ys) (hg : (E g).n = n) (hne : ∀ k ∈ xs ++ ys, (E k).n ≠ n) : without n (vals gs E) = vals (xs ++ ys) E := by
  subst hx
  unfold vals without
  have hk : ∀ l : List Nat, (∀ k ∈ l, (E k).n ≠ n) → (l.map fun g => val (E g)).filter (fun x => !(x.1 == n)) = l.map fun g => val (E g) := fun l hl => List.filter_eq_self.2 fun x hx => by
    obtain ⟨k, hk, rfl⟩ := List.mem_map.1 hx
    simpa [val] using hl k hk
  rw [List.map_append, List.map_append, List.filter_append, List.map_cons, List.filter_cons, hk xs (fun k hk => hne k (by simp [hk])), hk ys (fun k hk => hne k (by simp [hk])), if_neg (by simp [val, hg])]

/-- an entry of the number, or none -/
theorem CaIs.split {w : World} {gc gr gm : Nat} {size : Int} {gs : List Nat} {E : Nat → En} (h : CaIs w gc gr gm size gs E) (n : Int) :
    (∃ xs g ys, gs = xs ++ g :: ys ∧ (E g).n = n ∧ ∀ k ∈ xs ++ ys, (E k).n ≠ n) ∨ ∀ k ∈ gs, (E k).n ≠ n := by
  by_cases hn : ∃ g ∈ gs, (E g).n = n
  · obtain ⟨g, hg, hn⟩ := hn
    obtain ⟨xs, ys, rfl⟩ := List.append_of_mem hg
    refine .inl ⟨xs, g, ys, rfl, hn, fun k hk e => ?_⟩
    have hk' : k ∈ xs ++ g :: ys := by rcases List.mem_append.1 hk with hk | hk <;> simp [hk]
    have := h.key_inj hk' hg (e.trans hn.symm)
    subst this
    exact h.nd_out.2 (by simp only [List.mem_cons]; exact .inr (.inr (.inr hk)))
  · exact .inr fun k hk e => hn ⟨k, hk, e⟩

theorem ca_get {F : Nat → Prop} {v : Value} {size : Int} {L : List On} (n : Int) (w : World) (h : Ca w F v size L) (hw : wfI n) :
    Calls Try.prog 10 #[v, .int .i64 n] w fun e w' => e = .returned (.tuple #[.string (getR n L).1, .bool (getR n L).2]) ∧ Ca w' F v size (getL n L) ∧ Ch F w w' := by
  obtain ⟨gc, gr, gm, gs, E, rfl, hc, rfl, hl, hf⟩ := h
  rcases hc.split n with ⟨xs, g, ys, rfl, hg, hne⟩ | hne
  · have hfi := vals_find (E := E) (n := n) (g := g) (xs := xs) (ys := ys) rfl hg (fun k hk => hne k (by simp [hk]))
    have hwo := vals_without (E := E) (n := n) (g := g) (xs := xs) (ys := ys) rfl hg hne
    refine (get_yes n w hc hg).mono fun e w' ⟨he, hc', hch⟩ => ⟨?_, ⟨gc, gr, gm, _, _, rfl, hc', ?_, ?_, fun k hk => hf k ?_⟩, hch.mono fun k _ hk => hf k ?_⟩
    · rw [he]; unfold getR; rw [hfi]; rfl
    · unfold getL
      rw [hfi]
      simp only []
      rw [hwo]
      have hv : ∀ k, val (useE (outE E g) g gr k) = val (E k) := fun k => (val_useE _ _ _ _).trans (val_outE _ _ _)
      rw [vals_congr hv]
      unfold vals
      simp only [List.map_append, List.map_cons, List.map_nil]
    · simp only [List.length_append, List.length_cons, List.length_nil] at hl ⊢; omega
    · simp only [List.mem_cons, List.mem_append, List.not_mem_nil, or_false] at hk ⊢
      rcases hk with hk | hk | hk | (hk | hk) | hk <;> simp [hk]
    · simp only [List.mem_cons, List.mem_append] at hk ⊢
      rcases hk with hk | hk | hk | hk <;> simp [hk]
  · have hfi := vals_none hne
    refine (get_no n w hc hw hne).mono fun e w' ⟨he, hww⟩ => ?_
    subst hww
    refine ⟨?_, ⟨gc, gr, gm, gs, E, rfl, hc, ?_, hl, hf⟩, Ch.refl _ _⟩
    · rw [he]; unfold getR; rw [hfi]
    · unfold getL; rw [hfi]

theorem ca_put {F : Nat → Prop} {v : Value} {size : Int} {L : List On} (n : Int) (s : ByteArray) (d : Bool) (w : World) (h : Ca w F v size L) (hw : wfI n) (h1 : 1 ≤ size) (h2 : size ≤ 256) :
    Calls Try.prog 8 #[v, .int .i64 n, .string s, .bool d] w fun e w' => ∃ r F', e = .returned r ∧ Ca w' F' v size (putL size n s d L).1 ∧ Sl Pg.cells 2 w' r (putL size n s d L).2 ∧ New w r ∧
      (∀ k, r.ownBlock = some k → ¬ F' k) ∧ (∀ k, F' k → F k ∨ w.heap.size ≤ k) ∧ Ch F w w' := by
  obtain ⟨gc, gr, gm, gs, E, rfl, hc, rfl, hl, hf⟩ := h
  refine (put_is n s d w hc hw hl h1 h2).mono fun e w' ⟨r, gs2, E2, he, hc', hv, hs, hnw, hd, hsub, hch⟩ => ⟨r, fun k => k ∈ gc :: gm :: gr :: gs2, he, ⟨gc, gr, gm, gs2, E2, rfl, hc', hv.symm, ?_, fun k hk => hk⟩, hs, hnw, fun k hk hm => ?_, fun k hk => ?_, hch.mono fun k _ hk => hf k ?_⟩
  · have := congrArg List.length hv
    unfold vals putL at this
    rw [List.length_map, List.length_drop] at this
    omega
  · have := hnw k hk
    have b1 := lt_of_heap hc.bc
    have b2 := hc.map.lt
    have b3 := hc.mem.lt (g := gr) (by simp)
    simp only [List.mem_cons] at hm
    rcases hm with hm | hm | hm | hm
    · omega
    · omega
    · omega
    · exact hd k hk hm
  · simp only [List.mem_cons] at hk
    rcases hk with hk | hk | hk | hk
    · exact .inl (hf k (by simp [hk]))
    · exact .inl (hf k (by simp [hk]))
    · exact .inl (hf k (by simp [hk]))
    · exact (hsub k hk).imp (fun h => hf k (by simp [h])) id
  · simp only [List.mem_cons] at hk ⊢
    rcases hk with hk | hk | hk <;> simp [hk]

theorem ca_forget {F : Nat → Prop} {v : Value} {size : Int} {L : List On} (n : Int) (w : World) (h : Ca w F v size L) (hw : wfI n) :
    Calls Try.prog 19 #[v, .int .i64 n] w fun e w' => e = .returned (.tuple #[]) ∧ Ca w' F v size (without n L) ∧ Ch F w w' := by
  obtain ⟨gc, gr, gm, gs, E, rfl, hc, rfl, hl, hf⟩ := h
  refine (forget_any n w hc hw).mono fun e w' ⟨he, gs1, E1, hc', hv, _, hsub, hch⟩ => ⟨he, ⟨gc, gr, gm, gs1, E1, rfl, hc', hv.symm, ?_, fun k hk => ?_⟩, hch.mono fun k _ hk => hf k (List.mem_cons_of_mem _ hk)⟩
  · have := congrArg List.length hv
    unfold vals without at this
    rw [List.length_map] at this
    have h3 := List.length_filter_le (fun x : Int × ByteArray × Bool => !(x.1 == n)) (gs.map fun g => val (E g))
    rw [List.length_map] at h3
    omega
  · simp only [List.mem_cons] at hk
    rcases hk with hk | hk | hk | hk
    · exact hf k (by simp [hk])
    · exact hf k (by simp [hk])
    · exact hf k (by simp [hk])
    · exact hf k (by simp [hsub k hk])

theorem ca_clean {F : Nat → Prop} {v : Value} {size : Int} {L : List On} (n : Int) (w : World) (h : Ca w F v size L) (hw : wfI n) :
    Calls Try.prog 17 #[v, .int .i64 n] w fun e w' => e = .returned (.tuple #[]) ∧ Ca w' F v size (cleanL n L) ∧ Ch F w w' := by
  obtain ⟨gc, gr, gm, gs, E, rfl, hc, rfl, hl, hf⟩ := h
  rcases hc.split n with ⟨xs, g, ys, hx, hg, hne⟩ | hne
  · have hgm : g ∈ gs := by rw [hx]; simp
    have hgu : ∀ k ∈ gs, (E k).n = n → k = g := fun k hk e => hc.key_inj hk hgm (e.trans hg.symm)
    refine (clean_yes n w hc hgm hg).mono fun e w' ⟨he, hc', hch⟩ => ⟨he, ⟨gc, gr, gm, gs, _, rfl, hc', ?_, hl, hf⟩, hch.mono fun k _ hk => hf k (by rw [hk]; simp [hgm])⟩
    unfold cleanL vals
    rw [List.map_map]
    refine List.map_congr_left fun k hk => ?_
    simp only [Function.comp]
    unfold setd
    by_cases e : k = g
    · subst e
      rw [if_pos rfl, if_pos (by simpa [val] using hg)]
      rfl
    · rw [if_neg e, if_neg (by simp only [val, beq_iff_eq]; exact fun h => e (hgu k hk h))]
  · refine (clean_no n w hc hw hne).mono fun e w' ⟨he, hww⟩ => ?_
    subst hww
    refine ⟨he, ⟨gc, gr, gm, gs, E, rfl, hc, ?_, hl, hf⟩, Ch.refl _ _⟩
    unfold cleanL vals
    rw [List.map_map]
    refine List.map_congr_left fun k hk => ?_
    simp only [Function.comp]
    rw [if_neg (by simp only [val, beq_iff_eq]; exact hne k hk)]

theorem ca_clear {F : Nat → Prop} {v : Value} {size : Int} {L : List On} (w : World) (h : Ca w F v size L) (h1 : 0 ≤ size) :
    Calls Try.prog 21 #[v] w fun e w' => ∃ F', e = .returned (.tuple #[]) ∧ Ca w' F' v size [] ∧ (∀ k, F' k → F k ∨ w.heap.size ≤ k) ∧ Ch F w w' := by
  obtain ⟨gc, gr, gm, gs, E, rfl, hc, rfl, hl, hf⟩ := h
  refine (clear_is gc size _ _ w hc.bc).mono fun e w' ⟨he, gr2, gm2, E2, hc', h3, h4, hch⟩ => ⟨fun k => k ∈ [gc, gm2, gr2], he, ⟨gc, gr2, gm2, [], E2, rfl, hc', rfl, h1, fun k hk => hk⟩, fun k hk => ?_, hch.mono fun k _ hk => hf k (by simp [hk])⟩
  simp only [List.mem_cons, List.not_mem_nil, or_false] at hk
  rcases hk with rfl | rfl | rfl
  · exact .inl (hf _ (by simp))
  · exact .inr h4
  · exact .inr h3

theorem ca_new (n : Int) (w : World) :
    Calls Try.prog 7 #[.int .i64 n] w fun e w' => ∃ v F, e = .returned v ∧ Ca w' F v (szC n) [] ∧ (∀ k, F k → w.heap.size ≤ k) ∧ Below w.heap.size w w' :=
  (new_is n w).mono fun e w' ⟨gc, gr, gm, E, he, hc, h1, h2, h3, hb⟩ => ⟨_, fun k => k ∈ [gc, gm, gr], he, ⟨gc, gr, gm, [], E, rfl, hc, rfl, by have := (szC_bd n).1; simp; omega, fun k hk => hk⟩, fun k hk => by
    simp only [List.mem_cons, List.not_mem_nil, or_false] at hk
    rcases hk with rfl | rfl | rfl <;> omega, hb⟩

theorem ca_len {F : Nat → Prop} {v : Value} {size : Int} {L : List On} (w : World) (h : Ca w F v size L) :
    Calls Try.prog 12 #[v] w fun e w' => e = .returned (.int .i64 L.length) ∧ w = w' := by
  obtain ⟨gc, gr, gm, gs, E, rfl, hc, rfl, hl, hf⟩ := h
  unfold vals
  rw [List.length_map]
  exact len_is w hc

theorem ca_dirty {F : Nat → Prop} {v : Value} {size : Int} {L : List On} (w : World) (h : Ca w F v size L) (h2 : size ≤ 256) :
    Calls Try.prog 11 #[v] w (DirtyP L w) := by
  obtain ⟨gc, gr, gm, gs, E, rfl, hc, rfl, hl, hf⟩ := h
  exact dirty_is w hc hl h2
end Go.Proofs.Ytjjiclbngoldaaa
