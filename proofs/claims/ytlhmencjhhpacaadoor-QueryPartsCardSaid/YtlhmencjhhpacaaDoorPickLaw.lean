/- How picked rows stand: the plain law. -/
import Derived.Test.YtlhmencjhhpacaaDoorSort5
import Derived.Test.YtlhmencjhhpacaaDoorOrd
namespace Go.Proofs.YtlhmencjhhpacaaDoor
open Go.RowKit

/-- a three-way comparison that orders -/
structure Tw (f : Nat → Nat → Int) : Prop where
  anti : ∀ x y, f y x = - f x y
  tr : ∀ x y z, f x y ≤ 0 → f y z ≤ 0 → f x z ≤ 0
section
variable {f g : Nat → Nat → Int}
theorem Tw.lt1 (h : Tw f) {x y z : Nat} (h1 : f x y < 0) (h2 : f y z ≤ 0) : f x z < 0 := by
  have h3 := h.tr x y z (by omega) h2
  rcases Int.lt_or_eq_of_le h3 with h4 | h4
  · exact h4
  · have := h.tr y z x h2 (by rw [h.anti x z]; omega)
    rw [h.anti x y] at this
    omega
theorem Tw.lt2 (h : Tw f) {x y z : Nat} (h1 : f x y ≤ 0) (h2 : f y z < 0) : f x z < 0 := by
  have h3 := h.tr x y z h1 (by omega)
  rcases Int.lt_or_eq_of_le h3 with h4 | h4
  · exact h4
  · have := h.tr z x y (by rw [h.anti x z]; omega) h1
    rw [h.anti y z] at this
    omega
theorem Tw.zero : Tw fun _ _ => 0 := ⟨fun _ _ => rfl, fun _ _ _ h _ => h⟩
theorem Tw.neg (h : Tw f) : Tw fun x y => - f x y := ⟨fun x y => by rw [h.anti x y], fun x y z h1 h2 => by
  have := h.tr z y x (by rw [h.anti y z]; exact h2) (by rw [h.anti x y]; exact h1)
  rw [h.anti x z] at this
  exact this⟩
theorem Tw.lex (h : Tw f) (k : Tw g) : Tw fun x y => if f x y = 0 then g x y else f x y := by
  refine ⟨fun x y => ?_, fun x y z h1 h2 => ?_⟩
  · show (if f y x = 0 then g y x else f y x) = - (if f x y = 0 then g x y else f x y)
    rw [h.anti x y, k.anti x y]
    by_cases e : f x y = 0
    · rw [if_pos (by omega), if_pos e]
    · rw [if_neg (by omega), if_neg e]
  · show (if f x z = 0 then g x z else f x z) ≤ 0
    by_cases e1 : f x y = 0
    · rw [if_pos e1] at h1
      by_cases e2 : f y z = 0
      · rw [if_pos e2] at h2
        have h3 := h.tr x y z (by omega) (by omega)
        have h4 := h.tr z y x (by rw [h.anti y z]; omega) (by rw [h.anti x y]; omega)
        rw [h.anti x z] at h4
        rw [if_pos (by omega)]
        exact k.tr x y z h1 h2
      · rw [if_neg e2] at h2
        have := h.lt2 (x := x) (y := y) (z := z) (by omega) (by omega)
        rw [if_neg (by omega)]
        omega
    · rw [if_neg e1] at h1
      have h3 : f y z ≤ 0 := by
        by_cases e2 : f y z = 0
        · omega
        · rw [if_neg e2] at h2; omega
      have := h.lt1 (x := x) (y := y) (z := z) (by omega) h3
      rw [if_neg (by omega)]
      omega
theorem Tw.congr (h : Tw f) (e : ∀ x y, g x y = f x y) : Tw g := ⟨fun x y => by rw [e, e]; exact h.anti _ _, fun x y z => by rw [e, e, e]; exact h.tr _ _ _⟩
theorem Tw.swo (h : Tw f) : Swo (ltc f) := by
  refine ⟨fun x y h1 => ?_, fun x y z h1 h2 => ?_, fun x y z h1 h2 => ?_⟩
  · have h1 := of_decide_eq_true h1
    refine decide_eq_false ?_
    rw [h.anti x y]; omega
  · have h1 := of_decide_eq_true h1
    have h2 := of_decide_eq_true h2
    exact decide_eq_true (h.lt1 h1 (by omega))
  · have h1 := of_decide_eq_false h1
    have h2 := of_decide_eq_false h2
    refine decide_eq_false ?_
    have := h.tr z y x (by rw [h.anti y z]; omega) (by rw [h.anti x y]; omega)
    rw [h.anti x z] at this
    omega
end
theorem cInt_anti (a b : Int) : Lib.compareInt b a = - Lib.compareInt a b := by
  unfold Lib.compareInt
  rcases Int.lt_trichotomy a b with h | h | h
  · rw [if_neg (by omega), if_pos (by omega), if_pos h]; rfl
  · subst h; simp
  · rw [if_pos h, if_neg (by omega), if_pos (by omega)]
theorem cInt_le (a b : Int) : Lib.compareInt a b ≤ 0 ↔ a ≤ b := by
  unfold Lib.compareInt
  rcases Int.lt_trichotomy a b with h | h | h
  · rw [if_pos h]; omega
  · subst h; simp
  · rw [if_neg (by omega), if_pos (by omega)]; omega
theorem cInt_tr (a b c : Int) (h1 : Lib.compareInt a b ≤ 0) (h2 : Lib.compareInt b c ≤ 0) : Lib.compareInt a c ≤ 0 := by
  rw [cInt_le] at *; omega
theorem cB_cons (x y : UInt8) (a b : List UInt8) : Lib.compareBytes (x :: a) (y :: b) = if x < y then -1 else if y < x then 1 else Lib.compareBytes a b := rfl
theorem cB_anti (a b : List UInt8) : Lib.compareBytes b a = - Lib.compareBytes a b := by
  induction a generalizing b with
  | nil => cases b <;> simp [Lib.compareBytes]
  | cons x a ih =>
    cases b with
    | nil => simp [Lib.compareBytes]
    | cons y b =>
      have := ih b
      rw [cB_cons, cB_cons]
      simp only [UInt8.lt_iff_toNat_lt]
      rcases Nat.lt_trichotomy x.toNat y.toNat with h | h | h
      · rw [if_neg (by omega), if_pos h, if_pos h]; rfl
      · rw [if_neg (by omega), if_neg (by omega), if_neg (by omega), if_neg (by omega)]; exact this
      · rw [if_pos h, if_neg (by omega), if_pos h]
theorem cB_tr (a b c : List UInt8) (h1 : Lib.compareBytes a b ≤ 0) (h2 : Lib.compareBytes b c ≤ 0) : Lib.compareBytes a c ≤ 0 := by
  induction a generalizing b c with
  | nil => cases c <;> simp [Lib.compareBytes]
  | cons x a ih =>
    cases b with
    | nil => simp [Lib.compareBytes] at h1
    | cons y b =>
      cases c with
      | nil => simp [Lib.compareBytes] at h2
      | cons z c =>
        rw [cB_cons] at *
        simp only [UInt8.lt_iff_toNat_lt] at *
        by_cases q1 : x.toNat < y.toNat
        · by_cases q2 : y.toNat < z.toNat
          · rw [if_pos (by omega)]; omega
          · rw [if_neg q2] at h2
            by_cases q3 : z.toNat < y.toNat
            · rw [if_pos q3] at h2; omega
            · rw [if_pos (by omega)]; omega
        · rw [if_neg q1] at h1
          by_cases q4 : y.toNat < x.toNat
          · rw [if_pos q4] at h1; omega
          · rw [if_neg q4] at h1
            by_cases q2 : y.toNat < z.toNat
            · rw [if_pos (by omega)]; omega
            · rw [if_neg q2] at h2
              by_cases q3 : z.toNat < y.toNat
              · rw [if_pos q3] at h2; omega
              · rw [if_neg q3] at h2
                rw [if_neg (by omega), if_neg (by omega)]
                exact ih b c h1 h2

/-- good values only -/
def goodV (x : V) : Bool := goodB x.k x.n x.s
theorem cmpVV_good {x y : V} (hx : goodV x = true) (hy : goodV y = true) : cmpVV x y = orI [Lib.compareInt x.k y.k, Lib.compareInt x.n y.n, Lib.compareBytes x.s.data.toList y.s.data.toList] := by
  unfold cmpVV cmpV
  unfold goodV at hx hy
  rw [hx, hy]; rfl
theorem tw_val (p : Nat → V) (hp : ∀ i, goodV (p i) = true) : Tw fun x y => cmpVV (p x) (p y) := by
  have t1 : Tw fun x y => Lib.compareInt (p x).k (p y).k := ⟨fun x y => cInt_anti _ _, fun x y z => cInt_tr _ _ _⟩
  have t2 : Tw fun x y => Lib.compareInt (p x).n (p y).n := ⟨fun x y => cInt_anti _ _, fun x y z => cInt_tr _ _ _⟩
  have t3 : Tw fun x y => Lib.compareBytes (p x).s.data.toList (p y).s.data.toList := ⟨fun x y => cB_anti _ _, fun x y z => cB_tr _ _ _⟩
  refine (t1.lex (t2.lex t3)).congr fun x y => ?_
  rw [cmpVV_good (hp x) (hp y)]
  simp only [orI]
  by_cases e1 : Lib.compareInt (p x).k (p y).k = 0
  · rw [if_pos e1, if_pos e1]
    by_cases e2 : Lib.compareInt (p x).n (p y).n = 0
    · rw [if_pos e2, if_pos e2]
      split
      · rename_i h; rw [h]
      · rfl
    · rw [if_neg e2, if_neg e2]
  · rw [if_neg e1, if_neg e1]

/-- rows of one length, of good values: their order is one -/
theorem tw_row (ord : Int) (down : Bool) (row : Nat → List V) (len : Nat) (hl : ∀ i, (row i).length = len) (hg : ∀ i, ∀ x ∈ row i, goodV x = true) : Tw fun x y => ordC ord down (row x) (row y) := by
  have hat : ∀ (j : Nat), j < len → Tw fun x y => cmpVV ((row x).getD j vZero) ((row y).getD j vZero) := fun j hj => by
    refine tw_val (fun x => (row x).getD j vZero) fun i => ?_
    have : j < (row i).length := by rw [hl]; exact hj
    have e : (row i).getD j vZero = (row i)[j] := by simp [this]
    rw [e]
    exact hg i _ (List.getElem_mem this)
  have hk : Tw fun x y => ordK ord down (row x) (row y) := by
    by_cases h : 1 ≤ ord ∧ ord ≤ len
    · have hj := hat (ord - 1).toNat (by omega)
      have hin : ∀ x, inC ord (row x) = true := fun x => decide_eq_true (by rw [hl]; exact h)
      cases down with
      | false => exact hj.congr fun x y => by unfold ordK; rw [if_pos (hin x)]; rfl
      | true => exact hj.neg.congr fun x y => by unfold ordK; rw [if_pos (hin x)]; rfl
    · have hin : ∀ x, inC ord (row x) = false := fun x => decide_eq_false (by rw [hl]; exact h)
      exact Tw.zero.congr fun x y => by unfold ordK; rw [hin x]; rfl
  by_cases h0 : 0 < len
  · refine (hk.lex (hat 0 h0)).congr fun x y => ?_
    unfold ordC
    by_cases e : ordK ord down (row x) (row y) = 0
    · rw [if_pos ⟨e, by rw [hl]; exact h0⟩, if_pos e]
    · rw [if_neg (fun h => e h.1), if_neg e]
  · refine hk.congr fun x y => ?_
    unfold ordC
    rw [if_neg (fun h => by have := h.2; rw [hl] at this; omega)]

/-! insertion, one by one: the reference's way -/
def insB {α : Type} (lt : α → α → Bool) (x : α) : List α → List α
  | [] => [x]
  | y :: ys => if lt x y = true then x :: y :: ys else y :: insB lt x ys
def isort {α : Type} (lt : α → α → Bool) (xs : List α) : List α := xs.foldl (fun acc x => insB lt x acc) []
theorem insB_mem {α : Type} {lt : α → α → Bool} {x z : α} {l : List α} : z ∈ insB lt x l ↔ z = x ∨ z ∈ l := by
  induction l with
  | nil => simp [insB]
  | cons y ys ih =>
    unfold insB
    split
    · simp
    · simp only [List.mem_cons, ih]
      constructor
      · rintro (h | h | h)
        · exact .inr (.inl h)
        · exact .inl h
        · exact .inr (.inr h)
      · rintro (h | h | h)
        · exact .inr (.inl h)
        · exact .inl h
        · exact .inr (.inr h)
theorem insB_map {α β : Type} (f : α → β) (lt : β → β → Bool) (x : α) (l : List α) : insB lt (f x) (l.map f) = (insB (fun a b => lt (f a) (f b)) x l).map f := by
  induction l with
  | nil => rfl
  | cons y ys ih =>
    simp only [List.map_cons, insB]
    split
    · rfl
    · rw [ih]; rfl
theorem isort_snoc {α : Type} (lt : α → α → Bool) (xs : List α) (x : α) : isort lt (xs ++ [x]) = insB lt x (isort lt xs) := by
  unfold isort; rw [List.foldl_append]; rfl
theorem isort_map {α β : Type} (f : α → β) (lt : β → β → Bool) (xs : List α) : isort lt (xs.map f) = (isort (fun a b => lt (f a) (f b)) xs).map f := by
  unfold isort
  rw [List.foldl_map]
  suffices h : ∀ (acc : List α), xs.foldl (fun a x => insB lt (f x) a) (acc.map f) = (xs.foldl (fun a x => insB (fun a b => lt (f a) (f b)) x a) acc).map f from h []
  induction xs with
  | nil => intro acc; rfl
  | cons x xs ih =>
    intro acc
    rw [List.foldl_cons, List.foldl_cons, insB_map]
    exact ih _
theorem insB_len {α : Type} (lt : α → α → Bool) (x : α) (l : List α) : (insB lt x l).length = l.length + 1 := by
  induction l with
  | nil => rfl
  | cons y ys ih => unfold insB; split <;> simp [ih]
theorem isort_len {α : Type} (lt : α → α → Bool) (xs : List α) : (isort lt xs).length = xs.length := by
  suffices h : ∀ (acc : List α), (xs.foldl (fun a x => insB lt x a) acc).length = acc.length + xs.length by
    have := h []; simpa [isort] using this
  induction xs with
  | nil => intro acc; rfl
  | cons x xs ih => intro acc; rw [List.foldl_cons, ih, insB_len, List.length_cons]; omega
section
variable {lt : Nat → Nat → Bool} (O : Swo lt)
include O
theorem insB_srt {x : Nat} {l : List Nat} (h : l.Pairwise (Bef lt)) (hx : ∀ y ∈ l, y < x) : (insB lt x l).Pairwise (Bef lt) := by
  induction l with
  | nil => simp [insB]
  | cons y ys ih =>
    have h' := List.pairwise_cons.1 h
    unfold insB
    split
    · rename_i hl
      refine List.pairwise_cons.2 ⟨fun z hz => ?_, h⟩
      rcases List.mem_cons.1 hz with rfl | hz
      · exact .inl hl
      · exact Bef.trans O (.inl hl) (h'.1 z hz)
    · rename_i hl
      refine List.pairwise_cons.2 ⟨fun z hz => ?_, ih h'.2 fun z hz => hx z (List.mem_cons_of_mem _ hz)⟩
      rcases insB_mem.1 hz with rfl | hz
      · exact .inr ⟨by simpa using hl, hx y (List.mem_cons_self ..)⟩
      · exact h'.1 z hz
theorem isort_range (n : Nat) : (isort lt (List.range n)).Pairwise (Bef lt) ∧ ∀ z, z ∈ isort lt (List.range n) ↔ z < n := by
  induction n with
  | zero => exact ⟨List.Pairwise.nil, fun z => by simp [isort]⟩
  | succ n ih =>
    rw [List.range_succ, isort_snoc]
    refine ⟨insB_srt O ih.1 fun y hy => (ih.2 y).1 hy, fun z => ?_⟩
    rw [insB_mem, ih.2]
    omega
/-- two lists in order that hold the same are one -/
theorem bef_unique : ∀ {l l' : List Nat}, l.Pairwise (Bef lt) → l'.Pairwise (Bef lt) → (∀ z, z ∈ l ↔ z ∈ l') → l = l'
  | [], [], _, _, _ => rfl
  | [], y :: ys, _, _, h => by have := (h y).2 (List.mem_cons_self ..); cases this
  | x :: xs, [], _, _, h => by have := (h x).1 (List.mem_cons_self ..); cases this
  | x :: xs, y :: ys, h1, h2, h => by
    have p1 := List.pairwise_cons.1 h1
    have p2 := List.pairwise_cons.1 h2
    have e : x = y := by
      rcases List.mem_cons.1 ((h x).1 (List.mem_cons_self ..)) with e | hx
      · exact e
      · rcases List.mem_cons.1 ((h y).2 (List.mem_cons_self ..)) with e | hy
        · exact e.symm
        · exact (Bef.asym O (p1.1 y hy) (p2.1 x hx)).elim
    subst e
    congr 1
    refine bef_unique p1.2 p2.2 fun z => ⟨fun hz => ?_, fun hz => ?_⟩
    · rcases List.mem_cons.1 ((h z).1 (List.mem_cons_of_mem _ hz)) with e | hz'
      · subst e; exact (Bef.irr O z (p1.1 z hz)).elim
      · exact hz'
    · rcases List.mem_cons.1 ((h z).2 (List.mem_cons_of_mem _ hz)) with e | hz'
      · subst e; exact (Bef.irr O z (p2.1 z hz)).elim
      · exact hz'
/-- what the stable sort left is what insertion, one by one, makes -/
theorem srt_isort {n : Nat} {d : Nat → Nat} (hs : Shuf (fun k => k) d 0 n) (ho : Srt (Bef lt) d 0 n) : (List.range n).map d = isort lt (List.range n) := by
  refine bef_unique O ?_ (isort_range O n).1 fun z => ?_
  · rw [List.pairwise_map]
    refine (List.pairwise_iff_getElem.2 fun i j hi hj hij => ?_)
    simp only [List.getElem_range]
    simp at hi hj
    exact ho i j (Nat.zero_le _) hij hj
  · rw [(isort_range O n).2, List.mem_map]
    constructor
    · rintro ⟨k, hk, rfl⟩
      obtain ⟨j, _, j2, e⟩ := hs.2.1 k (Nat.zero_le _) (List.mem_range.1 hk)
      rw [e]; exact j2
    · intro hz
      obtain ⟨k, _, k2, e⟩ := hs.2.2 z (Nat.zero_le _) hz
      exact ⟨k, List.mem_range.2 k2, e⟩
end
end Go.Proofs.YtlhmencjhhpacaaDoor
