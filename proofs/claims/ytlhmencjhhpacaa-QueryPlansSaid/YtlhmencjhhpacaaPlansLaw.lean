/- What a plan leaves out doesn't match: the plain law. -/
import Derived.Test.YtlhmencjhhpacaaSays
namespace Go.Proofs.Ytlhmencjhhpacaa
open Go.RowKit

theorem str_ne {a b : ByteArray} (h : ¬ a = b) : (a.toList == b.toList) = false := by
  rw [ByteArray.toList_eq, ByteArray.toList_eq]
  simp only [beq_eq_false_iff_ne, ne_eq]
  intro e
  apply h
  obtain ⟨⟨l⟩⟩ := a
  obtain ⟨⟨l'⟩⟩ := b
  simp only at e
  subst e; rfl
theorem str_eq (a : ByteArray) : (a.toList == a.toList) = true := beq_self_eq_true _
def nmS : ByteArray := ⟨#[115, 116, 121, 108, 101, 115, 46, 110, 97, 109, 101]⟩
def nmP : ByteArray := ⟨#[112, 97, 114, 97, 115, 46, 112, 108, 97, 99, 101]⟩
open Classical in
noncomputable def colStep (t : Int) (nm : ByteArray) (c : Int) (x : Ix) : Int := if x.name = nm ∧ x.table = t ∧ c = 0 then x.col else c
noncomputable def colL (t : Int) (nm : ByteArray) (l : List Ix) : Int := l.foldl (colStep t nm) 0
theorem colL_succ {t : Int} {nm : ByteArray} {l : List Ix} {k : Nat} (h : k < l.length) : colL t nm (l.take (k + 1)) = colStep t nm (colL t nm (l.take k)) l[k] := by
  unfold colL
  rw [List.take_succ_eq_append_getElem h, List.foldl_append]; rfl
open Classical in
noncomputable def colP (t : Int) (p : Pl) (l : List Ix) : Int := if p.way = 4 then (if p.name = nmS ∨ p.name = nmP then 2 else colL t p.name l) else 1

theorem step_keep {t : Int} {nm : ByteArray} {c : Int} (hc : c ≠ 0) (l : List Ix) : l.foldl (colStep t nm) c = c := by
  induction l with
  | nil => rfl
  | cons x l ih =>
    rw [List.foldl_cons]
    have : colStep t nm c x = c := by unfold colStep; rw [if_neg (fun h => hc h.2.2)]
    rw [this, ih]
/-- the first index of the name, in a list of unlike names -/
theorem colL_at {t : Int} {l : List Ix} {x : Ix} (hx : x ∈ l) (ht : x.table = t) (hc : x.col ≠ 0) (hp : l.Pairwise fun a b => a.name ≠ b.name) : colL t x.name l = x.col := by
  unfold colL
  induction l with
  | nil => cases hx
  | cons y l ih =>
    have hp' := List.pairwise_cons.1 hp
    rw [List.foldl_cons]
    rcases List.mem_cons.1 hx with rfl | hx
    · have : colStep t x.name 0 x = x.col := by unfold colStep; rw [if_pos ⟨rfl, ht, rfl⟩]
      rw [this, step_keep hc]
    · have : colStep t x.name 0 y = 0 := by unfold colStep; rw [if_neg (fun h => hp'.1 x hx h.1)]
      rw [this]
      exact ih hx hp'.2

/-! the conditions that a plan's bounds come from -/
theorem eqV_from {conds : List Cnd} {col : Int} (h : (eqV conds col).k ≠ 0) : ∃ c ∈ conds, c.col = col ∧ c.op = 1 ∧ c.v = eqV conds col := by
  induction conds with
  | nil => exact absurd rfl h
  | cons c cs ih =>
    unfold eqV at h ⊢
    split
    · rename_i hb
      simp only [eqB, Bool.and_eq_true, beq_iff_eq] at hb
      exact ⟨c, List.mem_cons_self .., hb.1, hb.2.1, rfl⟩
    · rename_i hb
      rw [if_neg hb] at h
      obtain ⟨c', hc', h'⟩ := ih h
      exact ⟨c', List.mem_cons_of_mem _ hc', h'⟩
theorem spanV_from {conds : List Cnd} {col : Int} : ∀ p : V × V,
    ((spanV conds col p).1 = p.1 ∨ ∃ c ∈ conds, c.col = col ∧ (c.op = 5 ∨ c.op = 6) ∧ c.v = (spanV conds col p).1) ∧
    ((spanV conds col p).2 = p.2 ∨ ∃ c ∈ conds, c.col = col ∧ (c.op = 3 ∨ c.op = 4) ∧ c.v = (spanV conds col p).2) := by
  induction conds with
  | nil => exact fun p => ⟨.inl rfl, .inl rfl⟩
  | cons c cs ih =>
    intro p
    have h := ih (spanS col c p)
    show ((spanV cs col (spanS col c p)).1 = p.1 ∨ _) ∧ ((spanV cs col (spanS col c p)).2 = p.2 ∨ _)
    have h1 : (spanS col c p).1 = p.1 ∨ (c.col = col ∧ (c.op = 5 ∨ c.op = 6) ∧ c.v = (spanS col c p).1) := by
      unfold spanS
      split
      · rename_i hc
        split
        · rename_i ho
          show orK p.1 c.v = p.1 ∨ _
          unfold orK
          split
          · exact .inr ⟨hc, ho, rfl⟩
          · exact .inl rfl
        · split <;> exact .inl rfl
      · exact .inl rfl
    have h2 : (spanS col c p).2 = p.2 ∨ (c.col = col ∧ (c.op = 3 ∨ c.op = 4) ∧ c.v = (spanS col c p).2) := by
      unfold spanS
      split
      · rename_i hc
        split
        · exact .inl rfl
        · split
          · rename_i ho
            show orK p.2 c.v = p.2 ∨ _
            unfold orK
            split
            · exact .inr ⟨hc, ho, rfl⟩
            · exact .inl rfl
          · exact .inl rfl
      · exact .inl rfl
    refine ⟨?_, ?_⟩
    · rcases h.1 with e | ⟨c', hc', h'⟩
      · rcases h1 with e1 | ⟨q1, q2, q3⟩
        · exact .inl (e.trans e1)
        · exact .inr ⟨c, List.mem_cons_self .., q1, q2, q3.trans e.symm⟩
      · exact .inr ⟨c', List.mem_cons_of_mem _ hc', h'⟩
    · rcases h.2 with e | ⟨c', hc', h'⟩
      · rcases h2 with e1 | ⟨q1, q2, q3⟩
        · exact .inl (e.trans e1)
        · exact .inr ⟨c, List.mem_cons_self .., q1, q2, q3.trans e.symm⟩
      · exact .inr ⟨c', List.mem_cons_of_mem _ hc', h'⟩
theorem spanZ_from {conds : List Cnd} {col : Int} : ((spanZ conds col).1.k ≠ 0 → ∃ c ∈ conds, c.col = col ∧ (c.op = 5 ∨ c.op = 6) ∧ c.v = (spanZ conds col).1) ∧
    ((spanZ conds col).2.k ≠ 0 → ∃ c ∈ conds, c.col = col ∧ (c.op = 3 ∨ c.op = 4) ∧ c.v = (spanZ conds col).2) := by
  have h := spanV_from (conds := conds) (col := col) (vZero, vZero)
  refine ⟨fun hk => ?_, fun hk => ?_⟩
  · rcases h.1 with e | h'
    · exact absurd (show (spanZ conds col).1.k = 0 by unfold spanZ; rw [e]; rfl) hk
    · exact h'
  · rcases h.2 with e | h'
    · exact absurd (show (spanZ conds col).2.k = 0 by unfold spanZ; rw [e]; rfl) hk
    · exact h'

/-! what matches keeps the bounds -/
theorem cB_zero {a b : List UInt8} (h : Lib.compareBytes a b = 0) : a = b := by
  induction a generalizing b with
  | nil => cases b with
    | nil => rfl
    | cons y b => simp [Lib.compareBytes] at h
  | cons x a ih =>
    cases b with
    | nil => simp [Lib.compareBytes] at h
    | cons y b =>
      rw [cB_cons] at h
      simp only [UInt8.lt_iff_toNat_lt] at h
      by_cases q1 : x.toNat < y.toNat
      · rw [if_pos q1] at h; omega
      · rw [if_neg q1] at h
        by_cases q2 : y.toNat < x.toNat
        · rw [if_pos q2] at h; omega
        · rw [if_neg q2] at h
          rw [ih h, show x = y from UInt8.toNat_inj.1 (by omega)]
theorem cInt_zero {a b : Int} (h : Lib.compareInt a b = 0) : a = b := by
  have h1 := (cInt_le a b).1 (by omega)
  have h2 := (cInt_le b a).1 (by rw [cInt_anti a b]; omega)
  omega
theorem cmp_zero {x y : V} (hx : goodV x = true) (hy : goodV y = true) (h : cmpVV x y = 0) : x = y := by
  rw [cmpVV_good hx hy] at h
  simp only [orI] at h
  split at h
  · rename_i h1
    split at h
    · rename_i h2
      split at h
      · rename_i h3
        obtain ⟨k, n, ⟨⟨s⟩⟩⟩ := x
        obtain ⟨k', n', ⟨⟨s'⟩⟩⟩ := y
        have e1 := cInt_zero h1
        have e2 := cInt_zero h2
        have e3 := cB_zero h3
        simp only at e1 e2 e3
        subst e1 e2 e3; rfl
      · rename_i h3; exact absurd h h3
    · rename_i h2; exact absurd h h2
  · rename_i h1; exact absurd h h1
/-- a matching row's value in a condition's column -/
theorem match_at {r : List V} {conds : List Cnd} {c : Cnd} (hm : matchB r conds = true) (hc : c ∈ conds) : 1 ≤ c.col ∧ c.col ≤ r.length ∧ meetsB (r.getD (c.col - 1).toNat vZero).k (r.getD (c.col - 1).toNat vZero).n (r.getD (c.col - 1).toNat vZero).s c.op c.v.k c.v.n c.v.s = true := by
  have h := List.all_eq_true.1 hm c hc
  unfold condB at h
  split at h
  · rename_i hin
    have hlt : (c.col - 1).toNat < r.length := by omega
    rw [List.getElem?_eq_getElem hlt] at h
    refine ⟨hin.1, hin.2, ?_⟩
    rw [List.getD_eq_getElem?_getD, List.getElem?_eq_getElem hlt]
    exact h
  · cases h
theorem meets_1 {x v : V} (h : meetsB x.k x.n x.s 1 v.k v.n v.s = true) : cmpVV x v = 0 := by
  unfold meetsB at h
  simp only [show ((1 : Int) == 7) = false from rfl, show ((1 : Int) == 8) = false from rfl, Bool.false_eq_true, if_false] at h
  split at h
  · cases h
  · simpa [cmpVV] using h
theorem meets_lo {x v : V} {op : Int} (ho : op = 5 ∨ op = 6) (h : meetsB x.k x.n x.s op v.k v.n v.s = true) : 0 ≤ cmpVV x v := by
  unfold meetsB at h
  rcases ho with rfl | rfl
  · simp at h
    have := h.2
    unfold cmpVV; omega
  · simp at h
    have := h.2
    unfold cmpVV; omega
theorem meets_hi {x v : V} {op : Int} (ho : op = 3 ∨ op = 4) (h : meetsB x.k x.n x.s op v.k v.n v.s = true) : cmpVV x v ≤ 0 := by
  unfold meetsB at h
  rcases ho with rfl | rfl
  · simp at h
    have := h.2
    unfold cmpVV; omega
  · simp at h
    have := h.2
    unfold cmpVV; omega

/-! the plan -/
theorem planE_spec (conds : List Cnd) (all : List Ix) : ∀ l : List Ix, (∃ x ∈ l, planE conds all l = ⟨4, x.name, eqV conds x.col, eqV conds x.col⟩ ∧ (eqV conds x.col).k ≠ 0) ∨ planE conds all l = planT conds all
  | [] => .inr rfl
  | x :: l => by
    show (∃ y ∈ x :: l, (if (eqV conds x.col).k ≠ 0 then _ else _) = _ ∧ _) ∨ (if (eqV conds x.col).k ≠ 0 then _ else _) = _
    by_cases h : (eqV conds x.col).k ≠ 0
    · rw [if_pos h]
      exact .inl ⟨x, List.mem_cons_self .., rfl, h⟩
    · rw [if_neg h]
      rcases planE_spec conds all l with ⟨y, hy, h'⟩ | h'
      · exact .inl ⟨y, List.mem_cons_of_mem _ hy, h'⟩
      · exact .inr h'
theorem planS_spec (conds : List Cnd) : ∀ l : List Ix, (∃ x ∈ l, planS conds l = ⟨4, x.name, (spanZ conds x.col).1, (spanZ conds x.col).2⟩ ∧ someB (spanZ conds x.col) = true) ∨ planS conds l = ⟨1, ⟨#[]⟩, vZero, vZero⟩
  | [] => .inr rfl
  | x :: l => by
    show (∃ y ∈ x :: l, (if someB (spanZ conds x.col) = true then _ else _) = _ ∧ _) ∨ (if someB (spanZ conds x.col) = true then _ else _) = _
    by_cases h : someB (spanZ conds x.col) = true
    · rw [if_pos h]
      exact .inl ⟨x, List.mem_cons_self .., rfl, h⟩
    · rw [if_neg h]
      rcases planS_spec conds l with ⟨y, hy, h'⟩ | h'
      · exact .inl ⟨y, List.mem_cons_of_mem _ hy, h'⟩
      · exact .inr h'
/-- what a plan says of rows that match, at a column -/
def Keeps (conds : List Cnd) (p : Pl) (col : Int) : Prop := 1 ≤ col ∧ ∀ r : List V, (∀ x ∈ r, goodV x = true) → matchB r conds = true → col ≤ r.length →
  (p.lo.k ≠ 0 → 0 ≤ cmpVV (r.getD (col - 1).toNat vZero) p.lo) ∧ (p.hi.k ≠ 0 → cmpVV (r.getD (col - 1).toNat vZero) p.hi ≤ 0) ∧ (p.way = 2 → r.getD (col - 1).toNat vZero = p.lo)
theorem cond_col {t : Int} {conds : List Cnd} {cs : List Int} {ord : Int} (h : checkE t conds cs ord = 0) {c : Cnd} (hc : c ∈ conds) : 1 ≤ c.col := by
  have hf : firstErr (conds.map (condErr t)) = 0 := by
    unfold checkE at h
    split at h
    · omega
    · split at h
      · omega
      · split at h
        · assumption
        · exact h
  have h0 := firstErr_zero _ hf _ (List.mem_map.2 ⟨c, hc, rfl⟩)
  unfold condErr at h0
  split at h0
  · omega
  · rename_i hn
    unfold noneB at hn
    simp at hn
    omega
theorem getD_good {r : List V} (hg : ∀ x ∈ r, goodV x = true) {j : Nat} (h : j < r.length) : goodV (r.getD j vZero) = true := by
  rw [List.getD_eq_getElem?_getD, List.getElem?_eq_getElem h]
  exact hg _ (List.getElem_mem h)
theorem keeps_eq {t : Int} {conds : List Cnd} {cs : List Int} {ord : Int} (hce : checkE t conds cs ord = 0) {col way : Int} {nm : ByteArray} (h : (eqV conds col).k ≠ 0) : Keeps conds ⟨way, nm, eqV conds col, eqV conds col⟩ col := by
  obtain ⟨c, hc, h1, h2, h3⟩ := eqV_from h
  refine ⟨by rw [← h1]; exact cond_col hce hc, fun r hg hm hl => ?_⟩
  obtain ⟨m1, m2, m3⟩ := match_at hm hc
  rw [h1, h2, h3] at m3
  have hz := meets_1 m3
  have hgv : goodV (eqV conds col) = true := by rw [← h3]; exact check_good hce c hc
  refine ⟨fun _ => by simp only; omega, fun _ => by simp only; omega, fun _ => cmp_zero (getD_good hg (by omega)) hgv hz⟩
theorem keeps_span {t : Int} {conds : List Cnd} {cs : List Int} {ord : Int} (hce : checkE t conds cs ord = 0) {col way : Int} {nm : ByteArray} (h : someB (spanZ conds col) = true) (hw : way ≠ 2) : Keeps conds ⟨way, nm, (spanZ conds col).1, (spanZ conds col).2⟩ col := by
  obtain ⟨f1, f2⟩ := spanZ_from (conds := conds) (col := col)
  refine ⟨?_, fun r hg hm hl => ⟨fun hk => ?_, fun hk => ?_, fun h2 => absurd h2 hw⟩⟩
  · unfold someB at h
    simp only [Bool.or_eq_true, bne_iff_ne, ne_eq] at h
    rcases h with h | h
    · obtain ⟨c, hc, h1, -⟩ := f1 h
      rw [← h1]; exact cond_col hce hc
    · obtain ⟨c, hc, h1, -⟩ := f2 h
      rw [← h1]; exact cond_col hce hc
  · obtain ⟨c, hc, h1, h2, h3⟩ := f1 hk
    obtain ⟨m1, m2, m3⟩ := match_at hm hc
    rw [h1, h3] at m3
    exact meets_lo h2 m3
  · obtain ⟨c, hc, h1, h2, h3⟩ := f2 hk
    obtain ⟨m1, m2, m3⟩ := match_at hm hc
    rw [h1, h3] at m3
    exact meets_hi h2 m3
theorem uniq_at {t : Int} {x : Ix} (h : x ∈ uniqI t (cols t) (cols t).length) : (x.name = nmS ∨ x.name = nmP) ∧ x.col = 2 := by
  by_cases h1 : t = 1
  · subst h1
    have e : uniqI 1 (cols 1) (cols 1).length = [⟨nmS, 1, 2⟩] := by kernel_rfl
    rw [e] at h
    simp only [List.mem_cons, List.mem_nil_iff, or_false] at h
    subst h; exact ⟨.inl rfl, rfl⟩
  · by_cases h2 : t = 2
    · subst h2
      have e : uniqI 2 (cols 2) (cols 2).length = [⟨nmP, 2, 2⟩] := by kernel_rfl
      rw [e] at h
      simp only [List.mem_cons, List.mem_nil_iff, or_false] at h
      subst h; exact ⟨.inr rfl, rfl⟩
    · by_cases h3 : t = 3
      · subst h3
        have e : uniqI 3 (cols 3) (cols 3).length = [] := by kernel_rfl
        rw [e] at h; cases h
      · have e : cols t = [] := by unfold cols; rw [if_neg h1, if_neg h2, if_neg h3]
        rw [e] at h; cases h
theorem name_not {t k : Int} {nm : ByteArray} (h : indexE nm t k = 0) : nm ≠ nmS ∧ nm ≠ nmP := by
  have hn : isNameB nm = true := by
    unfold indexE at h
    split at h
    · omega
    · rename_i hn; simpa using hn
  exact ⟨fun e => by subst e; exact absurd hn (by rw [show isNameB nmS = false by kernel_rfl]; simp), fun e => by subst e; exact absurd hn (by rw [show isNameB nmP = false by kernel_rfl]; simp)⟩
theorem colP_at {t : Int} {list : List Ix} {x : Ix} {lo hi : V} (hx : x ∈ overI t list) (hc : 1 ≤ x.col) (hix : ∀ x ∈ list, indexE x.name x.table x.col = 0) (hp : list.Pairwise fun a b => a.name ≠ b.name) : colP t ⟨4, x.name, lo, hi⟩ list = x.col := by
  unfold colP
  rw [if_pos rfl]
  unfold overI at hx
  rcases List.mem_append.1 hx with hx | hx
  · obtain ⟨h1, h2⟩ := uniq_at hx
    rw [if_pos h1, h2]
  · obtain ⟨h1, h2⟩ := List.mem_filter.1 hx
    have hn := name_not (hix x h1)
    simp only
    rw [if_neg (fun h => h.elim hn.1 hn.2)]
    exact colL_at h1 (by simpa [mineB] using h2) (by omega) hp
/-- **the plan leaves out nothing that matches** -/
theorem plan_law {t : Int} {conds : List Cnd} {cs : List Int} {ord : Int} {list : List Ix} (hce : checkE t conds cs ord = 0) (hix : ∀ x ∈ list, indexE x.name x.table x.col = 0) (hp : list.Pairwise fun a b => a.name ≠ b.name) :
    planB t conds list = ⟨1, ⟨#[]⟩, vZero, vZero⟩ ∨ (((planB t conds list).way = 2 ∨ (planB t conds list).way = 3 ∨ (planB t conds list).way = 4) ∧ Keeps conds (planB t conds list) (colP t (planB t conds list) list)) := by
  unfold planB
  by_cases h1 : (eqV conds 1).k ≠ 0
  · rw [if_pos h1]
    refine .inr ⟨.inl rfl, ?_⟩
    have : colP t ⟨2, ⟨#[]⟩, eqV conds 1, eqV conds 1⟩ list = 1 := by unfold colP; rw [if_neg (by simp)]
    rw [this]
    exact keeps_eq hce h1
  · rw [if_neg h1]
    rcases planE_spec conds (overI t list) (overI t list) with ⟨x, hx, e, hk⟩ | e
    · rw [e]
      have hkp : Keeps conds ⟨4, x.name, eqV conds x.col, eqV conds x.col⟩ x.col := keeps_eq hce hk
      refine .inr ⟨.inr (.inr rfl), ?_⟩
      rw [colP_at hx hkp.1 hix hp]
      exact hkp
    · rw [e]
      unfold planT
      by_cases h2 : someB (spanZ conds 1) = true
      · rw [if_pos h2]
        refine .inr ⟨.inr (.inl rfl), ?_⟩
        have : colP t ⟨3, ⟨#[]⟩, (spanZ conds 1).1, (spanZ conds 1).2⟩ list = 1 := by unfold colP; rw [if_neg (by simp)]
        rw [this]
        exact keeps_span hce h2 (by omega)
      · rw [if_neg h2]
        rcases planS_spec conds (overI t list) with ⟨x, hx, e, hk⟩ | e
        · rw [e]
          have hkp : Keeps conds ⟨4, x.name, (spanZ conds x.col).1, (spanZ conds x.col).2⟩ x.col := keeps_span hce hk (by omega)
          refine .inr ⟨.inr (.inr rfl), ?_⟩
          rw [colP_at hx hkp.1 hix hp]
          exact hkp
        · exact .inl e
end Go.Proofs.Ytlhmencjhhpacaa
