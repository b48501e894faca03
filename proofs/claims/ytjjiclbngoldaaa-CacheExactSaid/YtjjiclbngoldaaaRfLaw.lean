/- The plain law of CacheExact: the reference's answers are the cache's. -/
import Derived.Test.YtjjiclbngoldaaaRfDirty
namespace Go.Proofs.Ytjjiclbngoldaaa
open Go.RowKit

def valI (p : Pg) (st : List Pg × Bool) : List Pg := if st.2 then st.1 else st.1 ++ [p]
theorem valI_step (p : Pg) (st : List Pg × Bool) (y : Pg) : (valI p (stepI p st y)).Perm (y :: valI p st) := by
  obtain ⟨l, b⟩ := st
  unfold valI stepI
  cases b
  · by_cases h : p.n < y.n
    · simp only [h, and_self, if_true, Bool.false_eq_true, if_false]
      exact List.perm_append_singleton _ _
    · simp only [h, and_false, if_false, Bool.false_eq_true]
      rw [List.append_assoc]
      refine (List.Perm.append_left l (List.Perm.swap p y [])).trans ?_
      rw [show l ++ [p, y] = (l ++ [p]) ++ [y] by simp]
      exact List.perm_append_singleton _ _
  · simp only [Bool.true_eq_false, false_and, if_false, if_true]
    exact List.perm_append_singleton _ _
theorem valI_fold (p : Pg) (xs : List Pg) (st : List Pg × Bool) : (valI p (xs.foldl (stepI p) st)).Perm (xs ++ valI p st) := by
  induction xs generalizing st with
  | nil => exact List.Perm.refl _
  | cons y ys ih =>
    rw [List.foldl_cons]
    refine (ih _).trans (((valI_step p st y).append_left ys).trans ?_)
    rw [List.cons_append]
    exact List.perm_middle
theorem finI_perm (p : Pg) (xs : List Pg) : (finI p xs).Perm (p :: xs) := by
  have h := valI_fold p xs ([], false)
  refine (show (finI p xs).Perm (xs ++ [p]) from h).trans (List.perm_append_singleton _ _)
theorem fold_rise (p : Pg) (xs : List Pg) (st : List Pg × Bool) (h1 : st.1.Pairwise (fun a b => a.n ≤ b.n)) (h2 : ∀ a ∈ st.1, ∀ b ∈ xs, a.n ≤ b.n) (h3 : st.2 = false → ∀ a ∈ st.1, a.n ≤ p.n) (hx : xs.Pairwise (fun a b => a.n ≤ b.n)) :
    (valI p (xs.foldl (stepI p) st)).Pairwise (fun a b => a.n ≤ b.n) := by
  induction xs generalizing st with
  | nil =>
    obtain ⟨l, b⟩ := st
    unfold valI
    cases b
    · simp only [List.foldl_nil, Bool.false_eq_true, if_false]
      exact List.pairwise_append.2 ⟨h1, List.pairwise_singleton _ _, fun a ha b hb => by rw [List.mem_singleton.1 hb]; exact h3 rfl a ha⟩
    · exact h1
  | cons y ys ih =>
    rw [List.foldl_cons]
    obtain ⟨hy, hys⟩ := List.pairwise_cons.1 hx
    obtain ⟨l, b⟩ := st
    simp only at h1 h2 h3
    by_cases h : b = false ∧ p.n < y.n
    · rw [show stepI p (l, b) y = (l ++ [p] ++ [y], true) from if_pos h]
      refine ih _ ?_ ?_ (fun h => by cases h) hys
      · simp only [List.append_assoc]
        refine List.pairwise_append.2 ⟨h1, by simp; omega, fun a ha c hc => ?_⟩
        simp only [List.mem_append, List.mem_singleton] at hc
        rcases hc with rfl | rfl
        · exact h3 h.1 a ha
        · exact h2 a ha _ List.mem_cons_self
      · intro a ha c hc
        simp only [List.mem_append, List.mem_singleton] at ha
        have := hy c hc
        rcases ha with (ha | rfl) | rfl
        · exact h2 a ha c (List.mem_cons_of_mem _ hc)
        · omega
        · exact this
    · rw [show stepI p (l, b) y = (l ++ [y], b) from if_neg h]
      refine ih _ ?_ ?_ ?_ hys
      · exact List.pairwise_append.2 ⟨h1, List.pairwise_singleton _ _, fun a ha c hc => by rw [List.mem_singleton.1 hc]; exact h2 a ha y List.mem_cons_self⟩
      · intro a ha c hc
        simp only [List.mem_append, List.mem_singleton] at ha
        rcases ha with ha | rfl
        · exact h2 a ha c (List.mem_cons_of_mem _ hc)
        · exact hy c hc
      · intro hb a ha
        simp only at hb
        simp only [List.mem_append, List.mem_singleton] at ha
        rcases ha with ha | rfl
        · exact h3 hb a ha
        · exact Int.not_lt.1 fun hh => h ⟨hb, hh⟩
theorem finI_rise (p : Pg) (xs : List Pg) (h : xs.Pairwise (fun a b => a.n ≤ b.n)) : (finI p xs).Pairwise (fun a b => a.n ≤ b.n) :=
  fold_rise p xs ([], false) List.Pairwise.nil (fun _ h => absurd h List.not_mem_nil) (fun _ _ h => absurd h List.not_mem_nil) h
theorem dirtyO_fold (L : List On) (o : List Pg) (ho : o.Pairwise (fun a b => a.n ≤ b.n)) : (L.foldl (fun out x => if x.2.2 then finI (pgOf x) out else out) o).Pairwise (fun a b => a.n ≤ b.n) ∧ (L.foldl (fun out x => if x.2.2 then finI (pgOf x) out else out) o).Perm ((L.filter fun x => x.2.2).map pgOf ++ o) := by
  induction L generalizing o with
  | nil => exact ⟨ho, List.Perm.refl _⟩
  | cons x L ih =>
    rw [List.foldl_cons]
    cases hd : x.2.2
    · rw [if_neg (by simp)]
      rw [List.filter_cons_of_neg (by simp [hd])]
      exact ih o ho
    · rw [if_pos rfl, show (x :: L).filter (fun x => x.2.2) = x :: L.filter (fun x => x.2.2) from List.filter_cons_of_pos hd, List.map_cons]
      obtain ⟨h1, h2⟩ := ih (finI (pgOf x) o) (finI_rise _ _ ho)
      exact ⟨h1, h2.trans (((finI_perm _ _).append_left _).trans (by rw [List.cons_append]; exact List.perm_middle))⟩
theorem dirtyO_eq {L : List On} (h : kv L) : dirtyO L = dirtyL L := by
  obtain ⟨h1, h2⟩ := dirtyO_fold L [] List.Pairwise.nil
  rw [List.append_nil] at h2
  have hnd : ((((L.filter fun x => x.2.2).map pgOf)).map (·.n)).Nodup := by
    rw [List.map_map]
    exact List.Nodup.sublist ((List.filter_sublist).map _) h
  exact (pg_sorted h2 hnd h1)
theorem hitW_find (n : Int) (L : List On) (h : kv L) : (L.find? fun x => x.1 == n) = if hitW n L then some (lastW n L) else none := by
  obtain ⟨M, rfl⟩ : ∃ M, L = M.reverse := ⟨L.reverse, by simp⟩
  induction M with
  | nil => rfl
  | cons x M ih =>
    rw [List.reverse_cons] at h ⊢
    generalize M.reverse = L at *
    have hk : kv L := by unfold kv at h ⊢; rw [List.map_append] at h; exact (List.nodup_append.1 h).1
    have hn : ∀ y ∈ L, y.1 ≠ x.1 := fun y hy e => by
      unfold kv at h
      rw [List.map_append] at h
      exact (List.nodup_append.1 h).2.2 y.1 (List.mem_map.2 ⟨y, hy, rfl⟩) x.1 (by simp) e
    rw [List.find?_append, ih hk, hitW_snoc, lastW_snoc]
    cases hx : (x.1 == n)
    · simp only [Bool.or_false, Bool.false_eq_true, if_false]
      cases hitW n L <;> simp [hx]
    · have hh : hitW n L = false := by
        unfold hitW
        rw [List.any_eq_false]
        intro y hy e
        exact hn y hy ((by simpa using e : y.1 = n).trans (by simpa using hx : x.1 = n).symm)
      simp [hh, hx]
theorem getL_eq {n : Int} {L : List On} (h : kv L) : (if hitW n L then without n L ++ [lastW n L] else L) = getL n L := by
  unfold getL
  rw [hitW_find n L h]
  cases hitW n L <;> rfl
theorem getR_eq {n : Int} {L : List On} (h : kv L) : ((if hitW n L then (lastW n L).2.1 else ⟨#[]⟩, hitW n L) : ByteArray × Bool) = getR n L := by
  unfold getR
  rw [hitW_find n L h]
  cases hitW n L <;> rfl
end Go.Proofs.Ytjjiclbngoldaaa
