/- The ring of a cache: entries, each between the one used ahead of it and the one used behind it; plain. -/
import Derived.Test.YtjjiclbngoldaaaRows
import Derived.WalkKit
namespace Go.Proofs.Ytjjiclbngoldaaa
open Go.RowKit

/-- An entry's cells: number, data, dirty, the block ahead of it, the block behind it. -/
structure En where
  n : Int
  s : ByteArray
  d : Bool
  o : Nat
  x : Nat

def setx (E : Nat → En) (g v : Nat) : Nat → En := fun k => if k = g then { E k with x := v } else E k
def seto (E : Nat → En) (g v : Nat) : Nat → En := fun k => if k = g then { E k with o := v } else E k
theorem setx_x (E : Nat → En) (g v k : Nat) : (setx E g v k).x = if k = g then v else (E k).x := by unfold setx; split <;> rfl
theorem setx_o (E : Nat → En) (g v k : Nat) : (setx E g v k).o = (E k).o := by unfold setx; split <;> rfl
theorem seto_x (E : Nat → En) (g v k : Nat) : (seto E g v k).x = (E k).x := by unfold seto; split <;> rfl
theorem seto_o (E : Nat → En) (g v k : Nat) : (seto E g v k).o = if k = g then v else (E k).o := by unfold seto; split <;> rfl
theorem setx_val (E : Nat → En) (g v k : Nat) : (setx E g v k).n = (E k).n ∧ (setx E g v k).s = (E k).s ∧ (setx E g v k).d = (E k).d := by unfold setx; split <;> exact ⟨rfl, rfl, rfl⟩
theorem seto_val (E : Nat → En) (g v k : Nat) : (seto E g v k).n = (E k).n ∧ (seto E g v k).s = (E k).s ∧ (seto E g v k).d = (E k).d := by unfold seto; split <;> exact ⟨rfl, rfl, rfl⟩

/-- From block p the blocks gs follow, then q. -/
def Seg (E : Nat → En) : Nat → List Nat → Nat → Prop
  | p, [], q => (E p).x = q ∧ (E q).o = p
  | p, g :: gs, q => (E p).x = g ∧ (E g).o = p ∧ Seg E g gs q

theorem Seg.congr {E E' : Nat → En} : ∀ {p : Nat} {gs : List Nat} {q : Nat}, Seg E p gs q → (∀ g ∈ p :: gs, (E' g).x = (E g).x) → (∀ g ∈ gs ++ [q], (E' g).o = (E g).o) → Seg E' p gs q
  | p, [], q, h, hx, ho => ⟨by rw [hx p (by simp)]; exact h.1, by rw [ho q (by simp)]; exact h.2⟩
  | p, g :: gs, q, h, hx, ho => ⟨by rw [hx p (by simp)]; exact h.1, by rw [ho g (by simp)]; exact h.2.1, h.2.2.congr (fun k hk => hx k (List.mem_cons_of_mem _ hk)) (fun k hk => ho k (List.mem_cons_of_mem _ hk))⟩

/-- what stands next to p, and ahead of q -/
theorem Seg.first {E : Nat → En} : ∀ {p : Nat} {gs : List Nat} {q : Nat}, Seg E p gs q → (E p).x = (gs ++ [q]).head (by simp)
  | _, [], _, h => h.1
  | _, _ :: _, _, h => h.1
theorem Seg.last {E : Nat → En} : ∀ {p : Nat} {gs : List Nat} {q : Nat}, Seg E p gs q → (E q).o = (p :: gs).getLast (by simp)
  | _, [], _, h => h.2
  | _, g :: gs, _, h => by rw [List.getLast_cons (by simp)]; exact h.2.2.last
theorem Seg.split {E : Nat → En} {g q : Nat} {bs : List Nat} : ∀ {p : Nat} {xs : List Nat}, Seg E p (xs ++ g :: bs) q → Seg E p xs g ∧ Seg E g bs q
  | _, [], h => ⟨⟨h.1, h.2.1⟩, h.2.2⟩
  | _, _ :: _, h => ⟨⟨h.1, h.2.1, h.2.2.split.1⟩, h.2.2.split.2⟩

/-- An entry leaves. -/
theorem Seg.out {E : Nat → En} {g q : Nat} {bs : List Nat} (hq : q ∉ bs) (hgq : g ≠ q) : ∀ {p : Nat} {xs : List Nat}, Seg E p (xs ++ g :: bs) q → (p :: (xs ++ g :: bs)).Nodup → q ∉ xs →
    Seg (seto (setx E (E g).o (E g).x) (E g).x (E g).o) p (xs ++ bs) q
  | p, [], h, hn, _ => by
    obtain ⟨h1, h2, h3⟩ := h
    simp only [List.nil_append] at hn ⊢
    rw [List.nodup_cons, List.nodup_cons] at hn
    obtain ⟨n1, n2, n3⟩ := hn
    rw [h2]
    cases bs with
    | nil =>
      obtain ⟨h4, h5⟩ := h3
      rw [h4]
      exact ⟨by rw [seto_x, setx_x, if_pos rfl], by rw [seto_o, if_pos rfl]⟩
    | cons b bs =>
      obtain ⟨h4, h5, h6⟩ := h3
      rw [h4]
      refine ⟨by rw [seto_x, setx_x, if_pos rfl], by rw [seto_o, if_pos rfl], h6.congr (fun k hk => ?_) (fun k hk => ?_)⟩
      · rw [seto_x, setx_x, if_neg]
        rintro rfl
        exact n1 (List.mem_cons_of_mem _ hk)
      · rw [seto_o, setx_o, if_neg]
        rintro rfl
        rcases List.mem_append.1 hk with hk | hk
        · exact (List.nodup_cons.1 n3).1 hk
        · simp at hk
          subst hk
          exact hq (by simp)
  | p, a :: xs, h, hn, hqa => by
    obtain ⟨h1, h2, h3⟩ := h
    simp only [List.cons_append] at hn ⊢
    rw [List.nodup_cons] at hn
    obtain ⟨n1, n2⟩ := hn
    have hsp := h3.split
    have ho : (E g).o ∈ a :: xs := by rw [hsp.1.last]; exact List.getLast_mem _
    have hx : (E g).x ∈ bs ++ [q] := by rw [hsp.2.first]; exact List.head_mem _
    simp only [List.mem_cons, not_or] at hqa
    refine ⟨?_, ?_, Seg.out hq hgq h3 n2 hqa.2⟩
    · rw [seto_x, setx_x, if_neg]
      · exact h1
      · rintro rfl
        exact n1 (by rcases List.mem_cons.1 ho with h | h <;> simp [h])
    · rw [seto_o, setx_o, if_neg]
      · exact h2
      · intro e
        rw [← e] at hx
        rcases List.mem_append.1 hx with hx | hx
        · exact (List.nodup_cons.1 n2).1 (by simp [hx])
        · simp at hx
          exact hqa.1 hx.symm

/-- An entry stands at the end. -/
theorem Seg.use {E : Nat → En} {g q : Nat} (hgq : g ≠ q) : ∀ {p : Nat} {xs : List Nat}, Seg E p xs q → (p :: xs).Nodup → q ∉ xs → g ∉ p :: xs →
    Seg (seto (setx (setx (seto E g (E q).o) g q) (E q).o g) q g) p (xs ++ [g]) q
  | p, [], h, hn, hqa, hg => by
    obtain ⟨h1, h2⟩ := h
    simp only [List.mem_cons, List.not_mem_nil, or_false] at hg
    rw [h2]
    refine ⟨by rw [seto_x, setx_x, if_pos rfl], ?_, ?_, by rw [seto_o, if_pos rfl]⟩
    · rw [seto_o, if_neg hgq, setx_o, setx_o, seto_o, if_pos rfl]
    · rw [seto_x, setx_x, if_neg hg, setx_x, if_pos rfl]
  | p, a :: xs, h, hn, hqa, hg => by
    obtain ⟨h1, h2, h3⟩ := h
    rw [List.nodup_cons] at hn
    obtain ⟨n1, n2⟩ := hn
    have ho : (E q).o ∈ a :: xs := by rw [h3.last]; exact List.getLast_mem _
    simp only [List.mem_cons, not_or] at hqa hg
    refine ⟨?_, ?_, Seg.use hgq h3 n2 hqa.2 (by simp only [List.mem_cons, not_or]; exact hg.2)⟩
    · rw [seto_x, setx_x, if_neg, setx_x, if_neg (fun e => hg.1 e.symm), seto_x]
      · exact h1
      · rintro rfl
        exact n1 ho
    · rw [seto_o, if_neg (fun e => hqa.1 e.symm), setx_o, setx_o, seto_o, if_neg (fun e => hg.2.1 e.symm)]
      exact h2
end Go.Proofs.Ytjjiclbngoldaaa
