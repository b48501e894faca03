/- The plain law of CacheLoses: nothing is lost. -/
import Derived.Test.YtjjiclbngoldaaaCaTop
namespace Go.Proofs.Ytjjiclbngoldaaa
open Go.RowKit

/-- what stands last under a number -/
def lo (n : Int) (xs : List Pg) : Option ByteArray := xs.foldl (fun a x => if x.n == n then some x.s else a) none
theorem lo_snoc (n : Int) (xs : List Pg) (x : Pg) : lo n (xs ++ [x]) = if x.n == n then some x.s else lo n xs := by unfold lo; rw [List.foldl_append]; rfl
theorem lo_none {n : Int} {ys : List Pg} (xs : List Pg) (h : ∀ y ∈ ys, y.n ≠ n) : lo n (xs ++ ys) = lo n xs := by
  induction ys generalizing xs with
  | nil => simp
  | cons y ys ih =>
    rw [show xs ++ y :: ys = (xs ++ [y]) ++ ys by simp, ih _ (fun z hz => h z (List.mem_cons_of_mem _ hz)), lo_snoc, if_neg]
    simpa using h y (by simp)
theorem lo_mem {n : Int} {s : ByteArray} {ys : List Pg} (xs : List Pg) (hy : (⟨n, s⟩ : Pg) ∈ ys) (hn : (ys.map (·.n)).Nodup) : lo n (xs ++ ys) = some s := by
  obtain ⟨a, b, rfl⟩ := List.append_of_mem hy
  rw [List.map_append, List.map_cons, List.nodup_append] at hn
  have hb : ∀ y ∈ b, y.n ≠ n := fun y hy e => (List.nodup_cons.1 hn.2.1).1 (e ▸ List.mem_map.2 ⟨y, hy, rfl⟩)
  rw [show xs ++ (a ++ ⟨n, s⟩ :: b) = ((xs ++ a) ++ [⟨n, s⟩]) ++ b by simp, lo_none _ hb, lo_snoc, if_pos (by simp)]

/-- what was put last under each number -/
def updL (n : Int) (s : ByteArray) (La : List Pg) : List Pg := if La.findIdx (fun x => x.n == n) < La.length then La.set (La.findIdx fun x => x.n == n) ⟨n, s⟩ else La ++ [⟨n, s⟩]
structure LoseP (L : List On) (St La : List Pg) : Prop where
  kv : kv L
  dirty : ∀ x ∈ L, x.2.2 = true
  back : ∀ x ∈ L, (⟨x.1, x.2.1⟩ : Pg) ∈ La
  fwd : ∀ y ∈ La, (y.n, y.s, true) ∈ L ∨ ((∀ x ∈ L, x.1 ≠ y.n) ∧ lo y.n St = some y.s)
  nd : (La.map (·.n)).Nodup
theorem LoseP.start : LoseP [] [] [] := ⟨List.Pairwise.nil, fun _ h => absurd h List.not_mem_nil, fun _ h => absurd h List.not_mem_nil, fun _ h => absurd h List.not_mem_nil, List.Pairwise.nil⟩

theorem find_spec {La : List Pg} {n : Int} (h : La.findIdx (fun x => x.n == n) < La.length) : (La[La.findIdx fun x => x.n == n]).n = n := by
  have := List.findIdx_getElem (w := h)
  simpa using this
theorem find_none {La : List Pg} {n : Int} (h : ¬ La.findIdx (fun x => x.n == n) < La.length) : ∀ x ∈ La, x.n ≠ n := fun x hx e => h (List.findIdx_lt_length_of_exists ⟨x, hx, by simpa using e⟩)
theorem upd_mem {La : List Pg} {n : Int} {s : ByteArray} (hn : (La.map (·.n)).Nodup) (y : Pg) : y ∈ updL n s La ↔ y = ⟨n, s⟩ ∨ (y ∈ La ∧ y.n ≠ n) := by
  unfold updL
  split
  · rename_i h
    have hs := find_spec h
    generalize hk : La.findIdx (fun x => x.n == n) = k at *
    constructor
    · intro hy
      obtain ⟨i, hi, e⟩ := List.getElem_of_mem hy
      rw [List.length_set] at hi
      rw [List.getElem_set] at e
      split at e
      · exact .inl e.symm
      · rename_i hne
        refine .inr ⟨e ▸ List.getElem_mem hi, fun e2 => hne ?_⟩
        subst e
        have h1 : (La.map (·.n))[i]'(by simpa using hi) = (La.map (·.n))[k]'(by simpa using h) := by simp only [List.getElem_map]; rw [e2, hs]
        exact ((List.getElem_inj hn).1 h1).symm
    · rintro (rfl | ⟨hy, hne⟩)
      · exact List.mem_iff_getElem.2 ⟨k, by simpa using h, by simp⟩
      · obtain ⟨i, hi, rfl⟩ := List.getElem_of_mem hy
        refine List.mem_iff_getElem.2 ⟨i, by simpa using hi, ?_⟩
        rw [List.getElem_set, if_neg]
        rintro rfl
        exact hne hs
  · rename_i h
    have hno := find_none h
    simp only [List.mem_append, List.mem_singleton]
    constructor
    · rintro (hy | hy)
      · exact .inr ⟨hy, hno y hy⟩
      · exact .inl hy
    · rintro (hy | ⟨hy, _⟩)
      · exact .inr hy
      · exact .inl hy
theorem upd_nd {La : List Pg} {n : Int} {s : ByteArray} (hn : (La.map (·.n)).Nodup) : ((updL n s La).map (·.n)).Nodup := by
  unfold updL
  split
  · rename_i h
    rw [List.map_set]
    have hs := find_spec h
    have : (La.map (·.n)).set (La.findIdx fun x => x.n == n) n = La.map (·.n) := by
      refine List.ext_getElem (by simp) fun i h1 h2 => ?_
      rw [List.getElem_set]
      split
      · rename_i e
        subst e
        rw [List.getElem_map]
        exact hs.symm
      · rfl
    rw [this]
    exact hn
  · rename_i h
    have hno := find_none h
    rw [List.map_append, List.nodup_append]
    refine ⟨hn, by simp, fun a ha b hb e => ?_⟩
    simp at hb
    obtain ⟨x, hx, rfl⟩ := List.mem_map.1 ha
    exact hno x hx (e.trans hb)
theorem upd_len (n : Int) (s : ByteArray) (La : List Pg) : (updL n s La).length ≤ La.length + 1 := by
  unfold updL
  split
  · simp
  · simp

theorem mem_without {n : Int} {L : List On} {x : On} : x ∈ without n L ↔ x ∈ L ∧ x.1 ≠ n := by unfold without; simp

theorem LoseP.put {L : List On} {St La : List Pg} (h : LoseP L St La) {size n : Int} {s : ByteArray} (h1 : 1 ≤ size) (hL : (L.length : Int) ≤ size) :
    LoseP (putL size n s true L).1 (St ++ (putL size n s true L).2) (updL n s La) ∧ (putL size n s true L).2.length ≤ 1 := by
  have hwl : (without n L).length ≤ L.length := List.length_filter_le _ _
  have hmem : ∀ x : On, x ∈ without n L ++ [(n, s, true)] ↔ (x ∈ L ∧ x.1 ≠ n) ∨ x = (n, s, true) := fun x => by rw [List.mem_append, mem_without, List.mem_singleton]
  have hkv : Ytjjiclbngoldaaa.kv (without n L ++ [(n, s, true)]) := by
    unfold Ytjjiclbngoldaaa.kv
    rw [List.map_append, List.nodup_append]
    refine ⟨List.Nodup.sublist ((List.filter_sublist).map _) h.kv, by simp, fun a ha b hb e => ?_⟩
    simp at hb
    obtain ⟨x, hx, rfl⟩ := List.mem_map.1 ha
    exact (mem_without.1 hx).2 (e.trans hb)
  by_cases hfull : ((without n L ++ [(n, s, true)]).length : Int) ≤ size
  · rw [putL_stay rfl hfull]
    refine ⟨⟨hkv, fun x hx => ?_, fun x hx => ?_, fun y hy => ?_, upd_nd h.nd⟩, by simp⟩
    · rcases (hmem x).1 hx with hx | hx
      · exact h.dirty x hx.1
      · rw [hx]
    · rw [upd_mem h.nd]
      rcases (hmem x).1 hx with hx | hx
      · exact .inr ⟨h.back x hx.1, hx.2⟩
      · rw [hx]; exact .inl rfl
    · simp only [List.append_nil]
      rcases (upd_mem h.nd y).1 hy with rfl | ⟨hy, hne⟩
      · exact .inl ((hmem _).2 (.inr rfl))
      · rcases h.fwd y hy with hf | ⟨hf1, hf2⟩
        · exact .inl ((hmem _).2 (.inl ⟨hf, hne⟩))
        · refine .inr ⟨fun x hx e => ?_, hf2⟩
          rcases (hmem x).1 hx with hx | hx
          · exact hf1 x hx.1 e
          · rw [hx] at e; exact hne e.symm
  · obtain ⟨y, l, hyl⟩ : ∃ y l, y :: l = without n L ++ [(n, s, true)] := by
      cases hh : without n L ++ [(n, s, true)] with
      | nil => simp at hh
      | cons y l => exact ⟨y, l, rfl⟩
    have hlen : (l.length : Int) = size := by
      have := congrArg List.length hyl
      rw [List.length_append, List.length_singleton, List.length_cons] at this
      rw [List.length_append, List.length_singleton] at hfull
      omega
    rw [putL_pop hyl hlen]
    rw [← hyl] at hkv
    have hyd : y.2.2 = true := by
      rcases (hmem y).1 (hyl ▸ by simp) with hx | hx
      · exact h.dirty y hx.1
      · rw [hx]
    rw [if_pos hyd]
    have hkl : Ytjjiclbngoldaaa.kv l := by unfold Ytjjiclbngoldaaa.kv at hkv ⊢; rw [List.map_cons, List.nodup_cons] at hkv; exact hkv.2
    have hyn : ∀ x ∈ l, x.1 ≠ y.1 := fun x hx e => by unfold Ytjjiclbngoldaaa.kv at hkv; rw [List.map_cons, List.nodup_cons] at hkv; exact hkv.1 (e ▸ List.mem_map.2 ⟨x, hx, rfl⟩)
    have hml : ∀ x ∈ l, (x ∈ L ∧ x.1 ≠ n) ∨ x = (n, s, true) := fun x hx => (hmem x).1 (hyl ▸ List.mem_cons_of_mem _ hx)
    have hlm : ∀ x, ((x ∈ L ∧ x.1 ≠ n) ∨ x = (n, s, true)) → x = y ∨ x ∈ l := fun x hx => by
      have := (hmem x).2 hx
      rw [← hyl] at this
      simpa using this
    have hnl : (n, s, true) ∈ l := by
      have h2 : l ≠ [] := fun e => by rw [e] at hlen; simp at hlen; omega
      have := congrArg List.getLast? hyl
      rw [List.getLast?_append, List.getLast?_singleton, Option.some_or] at this
      obtain ⟨z, l', rfl⟩ := List.exists_cons_of_ne_nil h2
      rw [List.getLast?_cons_cons] at this
      exact List.mem_of_getLast? this
    refine ⟨⟨hkl, fun x hx => ?_, fun x hx => ?_, fun p hp => ?_, upd_nd h.nd⟩, by simp⟩
    · rcases hml x hx with hx | hx
      · exact h.dirty x hx.1
      · rw [hx]
    · rw [upd_mem h.nd]
      rcases hml x hx with hx | hx
      · exact .inr ⟨h.back x hx.1, hx.2⟩
      · rw [hx]; exact .inl rfl
    · rcases (upd_mem h.nd p).1 hp with rfl | ⟨hp, hne⟩
      · exact .inl hnl
      · rcases h.fwd p hp with hf | ⟨hf1, hf2⟩
        · rcases hlm _ (.inl ⟨hf, hne⟩) with e | hx
          · refine .inr ⟨fun x hx e2 => hyn x hx (by rw [e2, ← e]), ?_⟩
            rw [lo_snoc, if_pos (by rw [← e]; simp [pgOf]), ← e]
            rfl
          · exact .inl hx
        · refine .inr ⟨fun x hx e => ?_, ?_⟩
          · rcases hml x hx with hx | hx
            · exact hf1 x hx.1 e
            · rw [hx] at e; exact hne e.symm
          · rw [lo_snoc, if_neg, hf2]
            have : y.1 ≠ p.n := fun e => by
              rcases (hmem y).1 (hyl ▸ by simp) with hx | hx
              · exact hf1 y hx.1 e
              · rw [hx] at e; exact hne e.symm
            simpa [pgOf] using this

theorem mem_getL {n : Int} {L : List On} (hk : kv L) (x : On) : x ∈ getL n L ↔ x ∈ L := by
  unfold getL
  split
  · rename_i z hz
    have hzm := List.mem_of_find?_eq_some hz
    have hzn : z.1 = n := by simpa using List.find?_some hz
    rw [List.mem_append, mem_without, List.mem_singleton]
    constructor
    · rintro (h | h)
      · exact h.1
      · rw [h]; exact hzm
    · intro h
      by_cases e : x.1 = n
      · refine .inr ?_
        obtain ⟨i, hi, rfl⟩ := List.getElem_of_mem h
        obtain ⟨j, hj, rfl⟩ := List.getElem_of_mem hzm
        have h1 : (L.map (·.1))[i]'(by simpa using hi) = (L.map (·.1))[j]'(by simpa using hj) := by simp only [List.getElem_map]; rw [e, hzn]
        have := (List.getElem_inj hk).1 h1
        subst this
        rfl
      · exact .inl ⟨h, e⟩
  · rfl
theorem LoseP.get {L : List On} {St La : List Pg} (h : LoseP L St La) {L' : List On} (hk : Ytjjiclbngoldaaa.kv L') (hm : ∀ x, x ∈ L' ↔ x ∈ L) : LoseP L' St La :=
  ⟨hk, fun x hx => h.dirty x ((hm x).1 hx), fun x hx => h.back x ((hm x).1 hx), fun y hy => (h.fwd y hy).imp (fun h => (hm _).2 h) (fun ⟨h1, h2⟩ => ⟨fun x hx => h1 x ((hm x).1 hx), h2⟩), h.nd⟩
/-- what is at hand is what was put last -/
theorem LoseP.seen {L : List On} {St La : List Pg} (h : LoseP L St La) {n : Int} (hg : (getR n L).2 = true) : ∃ hi : La.findIdx (fun x => x.n == n) < La.length, (La[La.findIdx fun x => x.n == n]).s = (getR n L).1 := by
  unfold getR at hg ⊢
  split at hg
  · rename_i z hz
    simp only []
    have hzm := List.mem_of_find?_eq_some hz
    have hzn : z.1 = n := by simpa using List.find?_some hz
    have hb := h.back z hzm
    have hi : La.findIdx (fun x => x.n == n) < La.length := List.findIdx_lt_length_of_exists ⟨_, hb, by simpa using hzn⟩
    refine ⟨hi, ?_⟩
    obtain ⟨j, hj, e⟩ := List.getElem_of_mem hb
    have hs := find_spec hi
    have h1 : (La.map (·.n))[La.findIdx fun x => x.n == n]'(by simpa using hi) = (La.map (·.n))[j]'(by simpa using hj) := by simp only [List.getElem_map]; rw [hs, e, hzn]
    have e2 := (List.getElem_inj h.nd).1 h1
    have e3 : La[La.findIdx fun x => x.n == n] = La[j] := by congr 1
    rw [e3, e]
  · cases hg
theorem LoseP.fin {L : List On} {St La : List Pg} (h : LoseP L St La) : ∀ y ∈ La, lo y.n (St ++ dirtyL L) = some y.s := by
  intro y hy
  have hd : L.filter (fun x => x.2.2) = L := List.filter_eq_self.2 fun x hx => h.dirty x hx
  have hp : (dirtyL L).Perm (L.map pgOf) := by unfold dirtyL; rw [hd]; exact List.mergeSort_perm _ _
  have hnd : ((dirtyL L).map (·.n)).Nodup := by
    rw [(hp.map _).nodup_iff, List.map_map]
    exact h.kv
  rcases h.fwd y hy with hf | ⟨hf1, hf2⟩
  · exact lo_mem _ (hp.mem_iff.2 (List.mem_map.2 ⟨_, hf, rfl⟩)) hnd
  · rw [lo_none _ (fun z hz e => ?_), hf2]
    obtain ⟨x, hx, rfl⟩ := List.mem_map.1 (hp.mem_iff.1 hz)
    exact hf1 x hx e
end Go.Proofs.Ytjjiclbngoldaaa
