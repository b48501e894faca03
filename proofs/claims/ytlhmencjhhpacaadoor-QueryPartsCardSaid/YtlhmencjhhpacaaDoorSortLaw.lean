/- A stable sort by symmetric merges: the plain law, over functions from places to what stands there. -/
import Derived.Test.YtlhmencjhhpacaaDoorMem
namespace Go.Proofs.YtlhmencjhhpacaaDoor
/-- swap of positions i and j -/
def swp (d : Nat → Nat) (i j : Nat) : Nat → Nat := fun k => if k = i then d j else if k = j then d i else d k
/-- swap of the ranges [a, a + n) and [b, b + n) -/
def swr (d : Nat → Nat) (a b n : Nat) : Nat → Nat := fun k => if a ≤ k ∧ k < a + n then d (k - a + b) else if b ≤ k ∧ k < b + n then d (k - b + a) else d k
/-- [a, m) and [m, b) exchanged -/
def rot (d : Nat → Nat) (a m b : Nat) : Nat → Nat := fun k => if a ≤ k ∧ k < a + (b - m) then d (k + (m - a)) else if a + (b - m) ≤ k ∧ k < b then d (k - (b - m)) else d k
theorem swr_zero (d : Nat → Nat) (a b : Nat) : swr d a b 0 = d := by
  funext k; unfold swr; rw [if_neg (by omega), if_neg (by omega)]
theorem swr_succ (d : Nat → Nat) (a b i : Nat) (h : a + i < b) : swp (swr d a b i) (a + i) (b + i) = swr d a b (i + 1) := by
  funext k
  unfold swp swr
  by_cases h1 : k = a + i
  · subst h1
    rw [if_pos rfl, if_neg (by omega), if_neg (by omega), if_pos (by omega)]
    congr 1; omega
  · by_cases h2 : k = b + i
    · subst h2
      rw [if_neg h1, if_pos rfl, if_neg (by omega), if_neg (by omega), if_neg (by omega), if_pos (by omega)]
      congr 1; omega
    · rw [if_neg h1, if_neg h2]
      by_cases h3 : a ≤ k ∧ k < a + i
      · rw [if_pos h3, if_pos (show a ≤ k ∧ k < a + (i + 1) by omega)]
      · rw [if_neg h3, if_neg (show ¬ (a ≤ k ∧ k < a + (i + 1)) by omega)]
        by_cases h4 : b ≤ k ∧ k < b + i
        · rw [if_pos h4, if_pos (show b ≤ k ∧ k < b + (i + 1) by omega)]
        · rw [if_neg h4, if_neg (show ¬ (b ≤ k ∧ k < b + (i + 1)) by omega)]

/-- what [a, b) holds is moved about in it; all else stands -/
def Shuf (d d' : Nat → Nat) (a b : Nat) : Prop :=
  (∀ k, k < a ∨ b ≤ k → d' k = d k) ∧ (∀ k, a ≤ k → k < b → ∃ j, a ≤ j ∧ j < b ∧ d' k = d j) ∧ (∀ j, a ≤ j → j < b → ∃ k, a ≤ k ∧ k < b ∧ d' k = d j)
theorem Shuf.refl (d : Nat → Nat) (a b : Nat) : Shuf d d a b := ⟨fun _ _ => rfl, fun k h1 h2 => ⟨k, h1, h2, rfl⟩, fun k h1 h2 => ⟨k, h1, h2, rfl⟩⟩
theorem Shuf.trans {d d' d'' : Nat → Nat} {a b : Nat} (h : Shuf d d' a b) (h2 : Shuf d' d'' a b) : Shuf d d'' a b := by
  refine ⟨fun k hk => (h2.1 k hk).trans (h.1 k hk), fun k h1 h3 => ?_, fun j h1 h3 => ?_⟩
  · obtain ⟨j, j1, j2, e⟩ := h2.2.1 k h1 h3
    obtain ⟨i, i1, i2, e'⟩ := h.2.1 j j1 j2
    exact ⟨i, i1, i2, e.trans e'⟩
  · obtain ⟨k, k1, k2, e⟩ := h.2.2 j h1 h3
    obtain ⟨i, i1, i2, e'⟩ := h2.2.2 k k1 k2
    exact ⟨i, i1, i2, e'.trans e⟩
theorem Shuf.wide {d d' : Nat → Nat} {a b a' b' : Nat} (h : Shuf d d' a b) (h1 : a' ≤ a) (h2 : b ≤ b') : Shuf d d' a' b' := by
  refine ⟨fun k hk => h.1 k (by omega), fun k k1 k2 => ?_, fun k k1 k2 => ?_⟩
  · by_cases hk : a ≤ k ∧ k < b
    · obtain ⟨j, j1, j2, e⟩ := h.2.1 k hk.1 hk.2
      exact ⟨j, by omega, by omega, e⟩
    · exact ⟨k, k1, k2, h.1 k (by omega)⟩
  · by_cases hk : a ≤ k ∧ k < b
    · obtain ⟨j, j1, j2, e⟩ := h.2.2 k hk.1 hk.2
      exact ⟨j, by omega, by omega, e⟩
    · exact ⟨k, k1, k2, h.1 k (by omega)⟩
theorem Shuf.swp (d : Nat → Nat) {a b i j : Nat} (h1 : a ≤ i) (h2 : i < b) (h3 : a ≤ j) (h4 : j < b) : Shuf d (swp d i j) a b := by
  refine ⟨fun k hk => ?_, fun k k1 k2 => ?_, fun k k1 k2 => ?_⟩
  · unfold Go.Proofs.YtlhmencjhhpacaaDoor.swp; rw [if_neg (by omega), if_neg (by omega)]
  · unfold Go.Proofs.YtlhmencjhhpacaaDoor.swp
    by_cases e : k = i
    · exact ⟨j, h3, h4, by rw [if_pos e]⟩
    · by_cases e2 : k = j
      · exact ⟨i, h1, h2, by rw [if_neg e, if_pos e2]⟩
      · exact ⟨k, k1, k2, by rw [if_neg e, if_neg e2]⟩
  · unfold Go.Proofs.YtlhmencjhhpacaaDoor.swp
    by_cases e : k = i
    · subst e
      refine ⟨j, h3, h4, ?_⟩
      by_cases e2 : j = k
      · rw [if_pos e2, e2]
      · rw [if_neg e2, if_pos rfl]
    · by_cases e2 : k = j
      · subst e2; exact ⟨i, h1, h2, by rw [if_pos rfl]⟩
      · exact ⟨k, k1, k2, by rw [if_neg e, if_neg e2]⟩
theorem Shuf.rot (d : Nat → Nat) {a m b : Nat} (h1 : a ≤ m) (h2 : m ≤ b) : Shuf d (rot d a m b) a b := by
  refine ⟨fun k hk => ?_, fun k k1 k2 => ?_, fun k k1 k2 => ?_⟩
  · unfold Go.Proofs.YtlhmencjhhpacaaDoor.rot; rw [if_neg (by omega), if_neg (by omega)]
  · unfold Go.Proofs.YtlhmencjhhpacaaDoor.rot
    by_cases e : a ≤ k ∧ k < a + (b - m)
    · exact ⟨k + (m - a), by omega, by omega, by rw [if_pos e]⟩
    · exact ⟨k - (b - m), by omega, by omega, by rw [if_neg e, if_pos (by omega)]⟩
  · unfold Go.Proofs.YtlhmencjhhpacaaDoor.rot
    by_cases e : k < m
    · exact ⟨k + (b - m), by omega, by omega, by rw [if_neg (by omega), if_pos (by omega)]; congr 1; omega⟩
    · exact ⟨k - (m - a), by omega, by omega, by rw [if_pos (by omega)]; congr 1; omega⟩

/-- [a, b) stands in the order R -/
def Srt (R : Nat → Nat → Prop) (d : Nat → Nat) (a b : Nat) : Prop := ∀ i j, a ≤ i → i < j → j < b → R (d i) (d j)
theorem Srt.small {R : Nat → Nat → Prop} {d : Nat → Nat} {a b : Nat} (h : b ≤ a + 1) : Srt R d a b := fun i j h1 h2 h3 => by omega
theorem Srt.sub {R : Nat → Nat → Prop} {d : Nat → Nat} {a b a' b' : Nat} (h : Srt R d a b) (h1 : a ≤ a') (h2 : b' ≤ b) : Srt R d a' b' := fun i j i1 i2 i3 => h i j (by omega) i2 (by omega)
theorem Srt.congr {R : Nat → Nat → Prop} {d d' : Nat → Nat} {a b : Nat} (h : Srt R d a b) (he : ∀ k, a ≤ k → k < b → d' k = d k) : Srt R d' a b := fun i j i1 i2 i3 => by
  rw [he i i1 (by omega), he j (by omega) i3]; exact h i j i1 i2 i3
/-- two pieces, all of the first ahead of all of the second -/
theorem Srt.join {R : Nat → Nat → Prop} {d : Nat → Nat} {a m b : Nat} (h1 : Srt R d a m) (h2 : Srt R d m b) (h : ∀ i j, a ≤ i → i < m → m ≤ j → j < b → R (d i) (d j)) : Srt R d a b := by
  intro i j i1 i2 i3
  by_cases e : j < m
  · exact h1 i j i1 i2 e
  · by_cases e2 : m ≤ i
    · exact h2 i j e2 i2 i3
    · exact h i j i1 (by omega) (by omega) i3

/-- the order: by 'lt', equals by their places at first -/
def Bef (lt : Nat → Nat → Bool) (x y : Nat) : Prop := lt x y = true ∨ (lt y x = false ∧ x < y)
structure Swo (lt : Nat → Nat → Bool) : Prop where
  asym : ∀ x y, lt x y = true → lt y x = false
  trans : ∀ x y z, lt x y = true → lt y z = true → lt x z = true
  inc : ∀ x y z, lt x y = false → lt y z = false → lt x z = false
section
variable {lt : Nat → Nat → Bool} (O : Swo lt)
include O
theorem Swo.irr (x : Nat) : lt x x = false := by
  rcases Bool.eq_false_or_eq_true (lt x x) with h | h
  · exact O.asym _ _ h
  · exact h
theorem Bef.trans {x y z : Nat} (h : Bef lt x y) (h2 : Bef lt y z) : Bef lt x z := by
  -- lt z x must be false; and either lt x z, or x < z
  have hyx : lt y x = false := by rcases h with h | h; exact O.asym _ _ h; exact h.1
  have hzy : lt z y = false := by rcases h2 with h | h; exact O.asym _ _ h; exact h.1
  have hzx := O.inc _ _ _ hzy hyx
  rcases Bool.eq_false_or_eq_true (lt x z) with e | e
  · exact .inl e
  · have hxy : lt x y = false := by
      rcases Bool.eq_false_or_eq_true (lt x y) with e' | e'
      · have := O.inc _ _ _ e hzy
        rw [e'] at this; cases this
      · exact e'
    have hyz : lt y z = false := by
      rcases Bool.eq_false_or_eq_true (lt y z) with e' | e'
      · have := O.inc _ _ _ hyx e
        rw [e'] at this; cases this
      · exact e'
    have h1 : x < y := by rcases h with h | h; (rw [hxy] at h; cases h); exact h.2
    have h3 : y < z := by rcases h2 with h | h; (rw [hyz] at h; cases h); exact h.2
    exact .inr ⟨hzx, by omega⟩
theorem Bef.irr (x : Nat) : ¬ Bef lt x x := by
  rintro (h | h)
  · rw [O.irr x] at h; cases h
  · omega
theorem Bef.asym {x y : Nat} (h : Bef lt x y) (h2 : Bef lt y x) : False := Bef.irr O x (Bef.trans O h h2)
end

/-! insertion sort -/
section
variable {lt : Nat → Nat → Bool} {d0 d : Nat → Nat} {a i j b : Nat}
/-- ahead of round i -/
def InsO (lt : Nat → Nat → Bool) (d0 d : Nat → Nat) (a i : Nat) : Prop := Shuf d0 d a i ∧ Srt (Bef lt) d a i
/-- in round i, its element at j -/
structure InsI (lt : Nat → Nat → Bool) (d0 d : Nat → Nat) (a i j : Nat) : Prop where
  lo : a ≤ j
  hi : j ≤ i
  sh : Shuf d0 d a (i + 1)
  s1 : Srt (Bef lt) d a j
  s2 : ∀ q, j < q → q ≤ i → Bef lt (d j) (d q)
  s3 : Srt (Bef lt) d (j + 1) (i + 1)
  s4 : ∀ p q, a ≤ p → p < j → j < q → q ≤ i → Bef lt (d p) (d q)
  ix : ∀ p, a ≤ p → p ≤ i → p ≠ j → d p < d j
theorem InsO.start : InsO lt d0 d0 a (a + 1) := ⟨Shuf.refl _ _ _, Srt.small (by omega)⟩
theorem InsO.inner (h : InsO lt d0 d a i) (ha : a ≤ i) (hinc : ∀ p q, a ≤ p → p < q → q ≤ i → d0 p < d0 q) : InsI lt d0 d a i i := by
  refine ⟨ha, Nat.le_refl _, h.1.wide (by omega) (by omega), h.2, fun q h1 h2 => by omega, Srt.small (by omega), fun p q _ _ h1 h2 => by omega, fun p h1 h2 h3 => ?_⟩
  obtain ⟨q, q1, q2, e⟩ := h.1.2.1 p h1 (by omega)
  rw [e, h.1.1 i (by omega)]
  exact hinc q i q1 q2 (by omega)
theorem InsI.step (h : InsI lt d0 d a i j) (hj : a < j) (hlt : lt (d j) (d (j - 1)) = true) : InsI lt d0 (swp d j (j - 1)) a i (j - 1) := by
  obtain ⟨lo, hi, sh, s1, s2, s3, s4, ix⟩ := h
  have e1 : swp d j (j - 1) (j - 1) = d j := by unfold swp; rw [if_neg (by omega), if_pos rfl]
  have e2 : swp d j (j - 1) j = d (j - 1) := by unfold swp; rw [if_pos rfl]
  have e3 : ∀ k, k ≠ j → k ≠ j - 1 → swp d j (j - 1) k = d k := fun k h1 h2 => by unfold swp; rw [if_neg h1, if_neg h2]
  have hR : Bef lt (d j) (d (j - 1)) := .inl hlt
  refine ⟨by omega, by omega, sh.trans (Shuf.swp d (by omega) (by omega) (by omega) (by omega)), ?_, ?_, ?_, ?_, ?_⟩
  · intro p q h1 h2 h3
    rw [e3 p (by omega) (by omega), e3 q (by omega) (by omega)]
    exact s1 p q h1 h2 (by omega)
  · intro q h1 h2
    rw [e1]
    by_cases e : q = j
    · rw [e, e2]; exact hR
    · rw [e3 q e (by omega)]; exact s2 q (by omega) h2
  · intro p q h1 h2 h3
    rw [e3 q (by omega) (by omega)]
    by_cases e : p = j
    · rw [e, e2]; exact s4 _ _ (by omega) (by omega) (by omega) (by omega)
    · rw [e3 p e (by omega)]; exact s3 _ _ (by omega) h2 h3
  · intro p q h1 h2 h3 h4
    rw [e3 p (by omega) (by omega)]
    by_cases e : q = j
    · rw [e, e2]; exact s1 _ _ h1 (by omega) (by omega)
    · rw [e3 q e (by omega)]; exact s4 _ _ h1 (by omega) (by omega) h4
  · intro p h1 h2 h3
    rw [e1]
    by_cases e : p = j
    · rw [e, e2]; exact ix _ (by omega) (by omega) (by omega)
    · rw [e3 p e h3]; exact ix _ h1 h2 e
theorem InsI.stop (O : Swo lt) (h : InsI lt d0 d a i j) (hst : j = a ∨ (a < j ∧ lt (d j) (d (j - 1)) = false)) : InsO lt d0 d a (i + 1) := by
  obtain ⟨lo, hi, sh, s1, s2, s3, s4, ix⟩ := h
  refine ⟨sh, ?_⟩
  have s5 : ∀ p, a ≤ p → p < j → Bef lt (d p) (d j) := fun p h1 h2 => by
    rcases hst with e | ⟨h3, h4⟩
    · omega
    · have hR : Bef lt (d (j - 1)) (d j) := .inr ⟨h4, ix _ (by omega) (by omega) (by omega)⟩
      by_cases e : p = j - 1
      · rw [e]; exact hR
      · exact Bef.trans O (s1 p (j - 1) h1 (by omega) (by omega)) hR
  intro p q h1 h2 h3
  by_cases e : q < j
  · exact s1 p q h1 h2 e
  · by_cases e2 : q = j
    · rw [e2]; exact s5 p h1 (by omega)
    · by_cases e3 : p = j
      · rw [e3]; exact s2 q (by omega) (by omega)
      · by_cases e4 : p < j
        · exact s4 p q h1 e4 (by omega) (by omega)
        · exact s3 p q (by omega) h2 h3
end

/-! symmetric merge -/
section
variable {lt : Nat → Nat → Bool} {d : Nat → Nat} {a m b : Nat}
/-- two pieces, each in order, all of the first from ahead of all of the second -/
structure Two (lt : Nat → Nat → Bool) (d : Nat → Nat) (a m b : Nat) : Prop where
  s1 : Srt (Bef lt) d a m
  s2 : Srt (Bef lt) d m b
  ix : ∀ i j, a ≤ i → i < m → m ≤ j → j < b → d i < d j
theorem rot_at1 (d : Nat → Nat) {a m b k : Nat} (h1 : a ≤ k) (h2 : k < a + (b - m)) : rot d a m b k = d (k + (m - a)) := by unfold rot; rw [if_pos ⟨h1, h2⟩]
theorem rot_at2 (d : Nat → Nat) {a m b k : Nat} (h1 : a + (b - m) ≤ k) (h2 : k < b) : rot d a m b k = d (k - (b - m)) := by unfold rot; rw [if_neg (by omega), if_pos ⟨h1, h2⟩]
theorem rot_out (d : Nat → Nat) {a m b k : Nat} (h1 : k < a ∨ b ≤ k) (h2 : a ≤ m) (h3 : m ≤ b) : rot d a m b k = d k := by unfold rot; rw [if_neg (by omega), if_neg (by omega)]
theorem rot_left (d : Nat → Nat) (m b : Nat) : rot d m m b = d := by
  funext k; unfold rot
  by_cases h : m ≤ k ∧ k < m + (b - m)
  · rw [if_pos h]; congr 1; omega
  · rw [if_neg h]
    by_cases h2 : m + (b - m) ≤ k ∧ k < b
    · omega
    · rw [if_neg h2]
theorem rot_right (d : Nat → Nat) (a m : Nat) : rot d a m m = d := by
  funext k; unfold rot
  rw [if_neg (by omega)]
  by_cases h2 : a + (m - m) ≤ k ∧ k < m
  · rw [if_pos h2]; congr 1; omega
  · rw [if_neg h2]
/-- one more step of the single element's way to the right -/
theorem rot_up (d : Nat → Nat) {a k : Nat} (h : a ≤ k) : swp (rot d a (a + 1) (k + 1)) k (k + 1) = rot d a (a + 1) (k + 1 + 1) := by
  funext p
  unfold swp
  by_cases h1 : p = k
  · rw [if_pos h1, h1, rot_out _ (by omega) (by omega) (by omega), rot_at1 _ (by omega) (by omega)]; congr 1; omega
  · rw [if_neg h1]
    by_cases h2 : p = k + 1
    · rw [if_pos h2, h2, rot_at2 _ (by omega) (by omega), rot_at2 _ (by omega) (by omega)]; congr 1; omega
    · rw [if_neg h2]
      by_cases h3 : a ≤ p ∧ p < k
      · rw [rot_at1 _ (by omega) (by omega), rot_at1 _ (by omega) (by omega)]
      · rw [rot_out _ (by omega) (by omega) (by omega), rot_out _ (by omega) (by omega) (by omega)]
/-- .. to the left -/
theorem rot_down (d : Nat → Nat) {k m : Nat} (h : 0 < k) (h2 : k ≤ m) : swp (rot d k m (m + 1)) k (k - 1) = rot d (k - 1) m (m + 1) := by
  funext p
  unfold swp
  by_cases h1 : p = k
  · rw [if_pos h1, h1, rot_out _ (by omega) (by omega) (by omega), rot_at2 _ (by omega) (by omega)]; congr 1; omega
  · rw [if_neg h1]
    by_cases h3 : p = k - 1
    · rw [if_pos h3, h3, rot_at1 _ (by omega) (by omega), rot_at1 _ (by omega) (by omega)]; congr 1; omega
    · rw [if_neg h3]
      by_cases h4 : k < p ∧ p ≤ m
      · rw [rot_at2 _ (by omega) (by omega), rot_at2 _ (by omega) (by omega)]
      · rw [rot_out _ (by omega) (by omega) (by omega), rot_out _ (by omega) (by omega) (by omega)]

/-- the single element on the left finds its place -/
theorem Two.oneL (O : Swo lt) (h : Two lt d a (a + 1) b) {i : Nat} (h1 : a + 1 ≤ i) (h2 : i ≤ b) (hl : a + 1 < i → lt (d (i - 1)) (d a) = true) (hr : i < b → lt (d i) (d a) = false) :
    Shuf d (rot d a (a + 1) i) a b ∧ Srt (Bef lt) (rot d a (a + 1) i) a b := by
  refine ⟨(Shuf.rot d (by omega) h1).wide (Nat.le_refl _) h2, ?_⟩
  have L : ∀ q, a + 1 ≤ q → q < i → Bef lt (d q) (d a) := fun q q1 q2 => by
    have hb : Bef lt (d (i - 1)) (d a) := .inl (hl (by omega))
    by_cases e : q = i - 1
    · rw [e]; exact hb
    · exact Bef.trans O (h.s2 q (i - 1) q1 (by omega) (by omega)) hb
  have Rr : ∀ q, i ≤ q → q < b → Bef lt (d a) (d q) := fun q q1 q2 => by
    have hb : Bef lt (d a) (d i) := .inr ⟨hr (by omega), h.ix a i (by omega) (by omega) (by omega) (by omega)⟩
    by_cases e : q = i
    · rw [e]; exact hb
    · exact Bef.trans O hb (h.s2 i q (by omega) (by omega) q2)
  intro p q p1 p2 p3
  by_cases e : p < i - 1
  · rw [rot_at1 _ (by omega) (by omega)]
    by_cases e2 : q < i - 1
    · rw [rot_at1 _ (by omega) (by omega)]; exact h.s2 _ _ (by omega) (by omega) (by omega)
    · by_cases e3 : q < i
      · rw [rot_at2 _ (by omega) (by omega), show q - (i - (a + 1)) = a by omega]; exact L _ (by omega) (by omega)
      · rw [rot_out _ (by omega) (by omega) (by omega)]; exact h.s2 _ _ (by omega) (by omega) (by omega)
  · rw [rot_out _ (show q < a ∨ i ≤ q by omega) (by omega) (by omega)]
    by_cases e3 : p < i
    · rw [rot_at2 _ (by omega) (by omega), show p - (i - (a + 1)) = a by omega]; exact Rr _ (by omega) (by omega)
    · rw [rot_out _ (by omega) (by omega) (by omega)]; exact h.s2 _ _ (by omega) (by omega) (by omega)
/-- .. on the right -/
theorem Two.oneR (O : Swo lt) (h : Two lt d a m (m + 1)) {i : Nat} (h1 : a ≤ i) (h2 : i ≤ m) (hl : a < i → lt (d m) (d (i - 1)) = false) (hr : i < m → lt (d m) (d i) = true) :
    Shuf d (rot d i m (m + 1)) a (m + 1) ∧ Srt (Bef lt) (rot d i m (m + 1)) a (m + 1) := by
  refine ⟨(Shuf.rot d h2 (by omega)).wide h1 (Nat.le_refl _), ?_⟩
  have L : ∀ q, a ≤ q → q < i → Bef lt (d q) (d m) := fun q q1 q2 => by
    have hb : Bef lt (d (i - 1)) (d m) := .inr ⟨hl (by omega), h.ix (i - 1) m (by omega) (by omega) (by omega) (by omega)⟩
    by_cases e : q = i - 1
    · rw [e]; exact hb
    · exact Bef.trans O (h.s1 q (i - 1) q1 (by omega) (by omega)) hb
  have Rr : ∀ q, i ≤ q → q < m → Bef lt (d m) (d q) := fun q q1 q2 => by
    have hb : Bef lt (d m) (d i) := .inl (hr (by omega))
    by_cases e : q = i
    · rw [e]; exact hb
    · exact Bef.trans O hb (h.s1 i q (by omega) (by omega) q2)
  intro p q p1 p2 p3
  by_cases e : p < i
  · rw [rot_out _ (by omega) (by omega) (by omega)]
    by_cases e2 : q < i
    · rw [rot_out _ (by omega) (by omega) (by omega)]; exact h.s1 _ _ (by omega) (by omega) (by omega)
    · by_cases e3 : q = i
      · rw [rot_at1 _ (by omega) (by omega), show q + (m - i) = m by omega]; exact L _ (by omega) (by omega)
      · rw [rot_at2 _ (by omega) (by omega)]; exact h.s1 _ _ (by omega) (by omega) (by omega)
  · rw [rot_at2 _ (show i + (m + 1 - m) ≤ q by omega) (by omega)]
    by_cases e3 : p = i
    · rw [rot_at1 _ (by omega) (by omega), show p + (m - i) = m by omega]; exact Rr _ (by omega) (by omega)
    · rw [rot_at2 _ (by omega) (by omega)]; exact h.s1 _ _ (by omega) (by omega) (by omega)

/-- what the search for the cut leaves: s the cut on the left, e that on the right -/
structure Cutp (lt : Nat → Nat → Bool) (d : Nat → Nat) (a m b s e : Nat) : Prop where
  las : a ≤ s
  sm : s ≤ m
  me : m ≤ e
  eb : e ≤ b
  hl : a < s → e < b → lt (d e) (d (s - 1)) = false
  hr : s < m → m < e → lt (d (e - 1)) (d s) = true
section
variable {s e : Nat}
theorem Two.cut (O : Swo lt) (h : Two lt d a m b) (c : Cutp lt d a m b s e) :
    Shuf d (rot d s m e) a b ∧ Two lt (rot d s m e) a s (s + (e - m)) ∧ Two lt (rot d s m e) (s + (e - m)) e b ∧
    ∀ i j, a ≤ i → i < s + (e - m) → s + (e - m) ≤ j → j < b → Bef lt (rot d s m e i) (rot d s m e j) := by
  obtain ⟨las, sm, me, eb, hl, hr⟩ := c
  have o1 : ∀ k, k < s → rot d s m e k = d k := fun k hk => rot_out _ (by omega) sm me
  have o2 : ∀ k, e ≤ k → rot d s m e k = d k := fun k hk => rot_out _ (by omega) sm me
  have o3 : ∀ k, s ≤ k → k < s + (e - m) → rot d s m e k = d (k + (m - s)) := fun k h1 h2 => rot_at1 _ h1 h2
  have o4 : ∀ k, s + (e - m) ≤ k → k < e → rot d s m e k = d (k - (e - m)) := fun k h1 h2 => rot_at2 _ h1 h2
  refine ⟨(Shuf.rot d sm me).wide las eb, ⟨?_, ?_, ?_⟩, ⟨?_, ?_, ?_⟩, ?_⟩
  · intro i j i1 i2 i3
    rw [o1 i (by omega), o1 j (by omega)]; exact h.s1 _ _ i1 i2 (by omega)
  · intro i j i1 i2 i3
    rw [o3 i (by omega) (by omega), o3 j (by omega) (by omega)]; exact h.s2 _ _ (by omega) (by omega) (by omega)
  · intro i j i1 i2 j1 j2
    rw [o1 i (by omega), o3 j (by omega) (by omega)]; exact h.ix _ _ (by omega) (by omega) (by omega) (by omega)
  · intro i j i1 i2 i3
    rw [o4 i (by omega) (by omega), o4 j (by omega) (by omega)]; exact h.s1 _ _ (by omega) (by omega) (by omega)
  · intro i j i1 i2 i3
    rw [o2 i (by omega), o2 j (by omega)]; exact h.s2 _ _ (by omega) i2 i3
  · intro i j i1 i2 j1 j2
    rw [o4 i (by omega) (by omega), o2 j (by omega)]; exact h.ix _ _ (by omega) (by omega) (by omega) (by omega)
  · intro i j i1 i2 j1 j2
    by_cases ei : i < s
    · rw [o1 i ei]
      by_cases ej : j < e
      · rw [o4 j j1 ej]; exact h.s1 _ _ i1 (by omega) (by omega)
      · rw [o2 j (by omega)]
        have hb : Bef lt (d (s - 1)) (d e) := .inr ⟨hl (by omega) (by omega), h.ix _ _ (by omega) (by omega) (by omega) (by omega)⟩
        have h1 : Bef lt (d i) (d e) := by
          by_cases e1 : i = s - 1
          · rw [e1]; exact hb
          · exact Bef.trans O (h.s1 i (s - 1) i1 (by omega) (by omega)) hb
        by_cases e2 : j = e
        · rw [e2]; exact h1
        · exact Bef.trans O h1 (h.s2 e j me (by omega) j2)
    · rw [o3 i (by omega) i2]
      by_cases ej : j < e
      · rw [o4 j j1 ej]
        have hb : Bef lt (d (e - 1)) (d s) := .inl (hr (by omega) (by omega))
        have h1 : Bef lt (d (i + (m - s))) (d s) := by
          by_cases e1 : i + (m - s) = e - 1
          · rw [e1]; exact hb
          · exact Bef.trans O (h.s2 _ (e - 1) (by omega) (by omega) (by omega)) hb
        by_cases e2 : j - (e - m) = s
        · rw [e2]; exact h1
        · exact Bef.trans O h1 (h.s1 s _ las (by omega) (by omega))
      · rw [o2 j (by omega)]; exact h.s2 _ _ (by omega) (by omega) j2
end
/-- the halves' own sorting joins -/
theorem halves {d1 d2 d3 : Nat → Nat} {mid : Nat} (h1 : a ≤ mid) (h2 : mid ≤ b) (hx : ∀ i j, a ≤ i → i < mid → mid ≤ j → j < b → Bef lt (d1 i) (d1 j)) (sh2 : Shuf d1 d2 a mid) (so2 : Srt (Bef lt) d2 a mid)
    (sh3 : Shuf d2 d3 mid b) (so3 : Srt (Bef lt) d3 mid b) : Shuf d1 d3 a b ∧ Srt (Bef lt) d3 a b := by
  refine ⟨(sh2.wide (Nat.le_refl _) h2).trans (sh3.wide h1 (Nat.le_refl _)), Srt.join (so2.congr fun k k1 k2 => sh3.1 k (by omega)) so3 fun i j i1 i2 j1 j2 => ?_⟩
  rw [sh3.1 i (by omega)]
  obtain ⟨p, p1, p2, e⟩ := sh2.2.1 i i1 i2
  obtain ⟨q, q1, q2, e'⟩ := sh3.2.1 j j1 j2
  rw [e, e', sh2.1 q (by omega)]
  exact hx p q p1 p2 q1 q2

/-- rotation: the window that is left -/
def RotW (d0 d : Nat → Nat) (a m b i j : Nat) : Prop := 0 < i ∧ 0 < j ∧ a + i ≤ m ∧ m + j ≤ b ∧ rot d (m - i) m (m + j) = rot d0 a m b
end
theorem swr_out (d : Nat → Nat) {a b n k : Nat} (h1 : k < a ∨ a + n ≤ k) (h2 : k < b ∨ b + n ≤ k) : swr d a b n k = d k := by unfold swr; rw [if_neg (by omega), if_neg (by omega)]
theorem swr_at1 (d : Nat → Nat) {a b n k : Nat} (h1 : a ≤ k) (h2 : k < a + n) : swr d a b n k = d (k - a + b) := by unfold swr; rw [if_pos ⟨h1, h2⟩]
theorem swr_at2 (d : Nat → Nat) {a b n k : Nat} (h0 : a + n ≤ b) (h1 : b ≤ k) (h2 : k < b + n) : swr d a b n k = d (k - b + a) := by unfold swr; rw [if_neg (by omega), if_pos ⟨h1, h2⟩]
theorem RotW.gt {d0 d : Nat → Nat} {a m b i j : Nat} (h : RotW d0 d a m b i j) (hij : j < i) : RotW d0 (swr d (m - i) m j) a m b (i - j) j := by
  obtain ⟨h1, h2, h3, h4, h5⟩ := h
  refine ⟨by omega, h2, by omega, h4, ?_⟩
  rw [← h5]
  funext k
  by_cases e1 : k < m - i ∨ m + j ≤ k
  · rw [rot_out _ (by omega) (by omega) (by omega), rot_out _ (by omega) (by omega) (by omega), swr_out _ (by omega) (by omega)]
  · by_cases e2 : k < m - i + j
    · rw [rot_out _ (by omega) (by omega) (by omega), rot_at1 _ (by omega) (by omega), swr_at1 _ (by omega) (by omega)]; congr 1; omega
    · rw [rot_at2 (k := k) d (by omega) (by omega)]
      by_cases e3 : k < m - (i - j) + (m + j - m)
      · rw [rot_at1 _ (by omega) e3, swr_at2 _ (by omega) (by omega) (by omega)]; congr 1; omega
      · rw [rot_at2 _ (by omega) (by omega), swr_out _ (by omega) (by omega)]
theorem RotW.lt {d0 d : Nat → Nat} {a m b i j : Nat} (h : RotW d0 d a m b i j) (hij : i < j) : RotW d0 (swr d (m - i) (m + j - i) i) a m b i (j - i) := by
  obtain ⟨h1, h2, h3, h4, h5⟩ := h
  refine ⟨h1, by omega, h3, by omega, ?_⟩
  rw [← h5]
  funext k
  by_cases e1 : k < m - i ∨ m + j ≤ k
  · rw [rot_out _ (by omega) (by omega) (by omega), rot_out _ (by omega) (by omega) (by omega), swr_out _ (by omega) (by omega)]
  · by_cases e2 : k < m + (j - i)
    · rw [rot_at1 (k := k) d (by omega) (by omega)]
      by_cases e3 : k < m - i + (m + (j - i) - m)
      · rw [rot_at1 _ (by omega) e3, swr_out _ (by omega) (by omega)]
      · rw [rot_at2 _ (by omega) (by omega), swr_at1 _ (by omega) (by omega)]; congr 1; omega
    · rw [rot_out (k := k) _ (by omega) (by omega) (by omega), swr_at2 _ (by omega) (by omega) (by omega), rot_at2 _ (by omega) (by omega)]; congr 1; omega
theorem RotW.eq {d0 d : Nat → Nat} {a m b i : Nat} (h : RotW d0 d a m b i i) : swr d (m - i) m i = rot d0 a m b := by
  obtain ⟨h1, h2, h3, h4, h5⟩ := h
  rw [← h5]
  funext k
  by_cases e1 : k < m - i ∨ m + i ≤ k
  · rw [rot_out _ (by omega) (by omega) (by omega), swr_out _ (by omega) (by omega)]
  · by_cases e2 : k < m
    · rw [rot_at1 _ (by omega) (by omega), swr_at1 _ (by omega) (by omega)]; congr 1; omega
    · rw [rot_at2 _ (by omega) (by omega), swr_at2 _ (by omega) (by omega) (by omega)]; congr 1; omega
end Go.Proofs.YtlhmencjhhpacaaDoor
