/- The plain law of CacheLast: what was used last, each once. -/
import Derived.Test.YtjjiclbngoldaaaCaTop
namespace Go.Proofs.Ytjjiclbngoldaaa
open Go.RowKit

def addD (A : List Int) (x : Int) : List Int := if x ∈ A then A else A ++ [x]
/-- each once, in the order in which they come first -/
def dd (xs : List Int) : List Int := xs.foldl addD []
theorem dd_snoc (xs : List Int) (x : Int) : dd (xs ++ [x]) = addD (dd xs) x := by unfold dd; rw [List.foldl_append]; rfl
theorem addD_nd {A : List Int} {x : Int} (h : A.Nodup) : (addD A x).Nodup := by
  unfold addD
  split
  · exact h
  · rename_i hx
    rw [List.nodup_append]
    exact ⟨h, by simp, fun a ha b hb e => by simp at hb; subst hb e; exact hx ha⟩
theorem fold_nd : ∀ (xs A : List Int), A.Nodup → (xs.foldl addD A).Nodup
  | [], _, h => h
  | _ :: xs, _, h => fold_nd xs _ (addD_nd h)
theorem dd_nd (xs : List Int) : (dd xs).Nodup := fold_nd xs [] List.nodup_nil
theorem fold_prefix : ∀ (xs A : List Int), ∃ B, xs.foldl addD A = A ++ B
  | [], A => ⟨[], by simp⟩
  | x :: xs, A => by
    obtain ⟨B, hB⟩ := fold_prefix xs (addD A x)
    rw [List.foldl_cons, hB]
    unfold addD
    split
    · exact ⟨B, rfl⟩
    · exact ⟨[x] ++ B, by simp⟩
theorem dd_prefix (a b : List Int) : ∃ B, dd (a ++ b) = dd a ++ B := by unfold dd; rw [List.foldl_append]; exact fold_prefix b _
theorem fold_cons (n : Int) : ∀ (xs A : List Int), xs.foldl addD (n :: A.filter fun x => !(x == n)) = n :: ((xs.foldl addD A).filter fun x => !(x == n))
  | [], _ => rfl
  | x :: xs, A => by
    rw [List.foldl_cons, List.foldl_cons, ← fold_cons n xs]
    congr 1
    by_cases e : x = n
    · subst e
      unfold addD
      rw [if_pos (by simp)]
      split
      · rfl
      · rw [List.filter_append]; simp
    · by_cases hx : x ∈ A
      · unfold addD
        rw [if_pos (by simp [hx, e]), if_pos hx]
      · unfold addD
        rw [if_neg (by simp [hx, e]), if_neg hx, List.filter_append]
        simp [e]
theorem dd_cons (n : Int) (xs : List Int) : dd (n :: xs) = n :: ((dd xs).filter fun x => !(x == n)) := by
  unfold dd
  rw [List.foldl_cons]
  exact fold_cons n xs []

theorem take_filter {n : Int} : ∀ (D : List Int) (t : Nat), D.Nodup → ((D.take (t + 1)).filter fun x => !(x == n)).take t = (D.filter fun x => !(x == n)).take t
  | [], _, _ => by simp
  | x :: D, 0, _ => by simp
  | x :: D, u + 1, h => by
    rw [List.nodup_cons] at h
    rw [List.take_succ_cons]
    by_cases e : x = n
    · subst e
      have hk : ∀ l : List Int, (∀ y ∈ l, y ∈ D) → l.filter (fun y => !(y == x)) = l := fun l hl => List.filter_eq_self.2 fun y hy => by
        have : y ≠ x := fun e => h.1 (e ▸ hl y hy)
        simpa using this
      rw [List.filter_cons_of_neg (by simp), List.filter_cons_of_neg (by simp), hk _ (fun y hy => List.mem_of_mem_take hy), hk _ (fun y hy => hy), List.take_take, Nat.min_self]
    · rw [List.filter_cons_of_pos (by simpa using e), List.filter_cons_of_pos (by simpa using e), List.take_succ_cons, List.take_succ_cons, take_filter D u h.2]

/-- the numbers, the one used last first -/
def revK (L : List On) : List Int := (L.map (·.1)).reverse
theorem revK_put (size : Int) (n : Int) (s : ByteArray) (d : Bool) (L : List On) : revK (putL size n s d L).1 = (n :: (revK L).filter fun x => !(x == n)).take size.toNat := by
  unfold revK putL
  simp only []
  rw [List.map_drop, List.reverse_drop, List.map_append, List.reverse_append]
  have e : (without n L).map (·.1) = (L.map (·.1)).filter fun x => !(x == n) := by unfold without; rw [List.filter_map]; rfl
  rw [e, ← List.filter_reverse]
  simp only [List.map_cons, List.map_nil, List.reverse_cons, List.reverse_nil, List.nil_append, List.singleton_append, List.length_append, List.length_cons, List.length_nil]
  have hl : ((L.map (·.1)).filter fun x => !(x == n)).length = (without n L).length := by rw [← e, List.length_map]
  by_cases h : (without n L).length + 1 ≤ size.toNat
  · rw [List.take_of_length_le (by simp [List.filter_reverse, hl]; omega), List.take_of_length_le (by simp [List.filter_reverse, hl]; omega)]
  · congr 1
    rw [hl]
    omega
theorem last_put {size n : Int} {s : ByteArray} {d : Bool} {L : List On} {xs : List Int} (h1 : 1 ≤ size) (h : revK L = (dd xs).take size.toNat) : revK (putL size n s d L).1 = (dd (n :: xs)).take size.toNat := by
  rw [revK_put, h, dd_cons]
  obtain ⟨t, ht⟩ : ∃ t, size.toNat = t + 1 := ⟨size.toNat - 1, by omega⟩
  rw [ht, List.take_succ_cons, List.take_succ_cons, take_filter _ _ (dd_nd xs)]
theorem last_len {size : Int} {L : List On} {X : List Int} {m : Nat} (h : revK L = (dd X).take size.toNat) (hle : (dd (X.take m)).length ≤ size.toNat) (hend : X.length ≤ m ∨ (dd (X.take m)).length = size.toNat) : (dd (X.take m)).length = L.length := by
  have hL : L.length = ((dd X).take size.toNat).length := by rw [← h]; unfold revK; simp
  rw [hL, List.length_take]
  rcases hend with he | he
  · rw [List.take_of_length_le he] at hle ⊢
    omega
  · obtain ⟨B, hB⟩ := dd_prefix (X.take m) (X.drop m)
    rw [List.take_append_drop] at hB
    rw [hB, List.length_append]
    omega
end Go.Proofs.Ytjjiclbngoldaaa
