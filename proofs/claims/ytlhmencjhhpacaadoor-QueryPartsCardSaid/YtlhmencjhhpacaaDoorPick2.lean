/- The rows that query.Pick sorts. -/
import Derived.Test.YtlhmencjhhpacaaDoorPick
namespace Go.Proofs.YtlhmencjhhpacaaDoor
open Go.RowKit

/-- a row: where its slice lies, and what it holds -/
structure Rr where
  a : Option Addr
  c : Nat
  row : List V
def Rr.hd (p : Rr) : Value := .slice p.a p.row.length p.c
def Rr.cells (p : Rr) : List Value := [p.hd]
theorem Rr.len (p : Rr) : p.cells.length = 1 := rfl
theorem Rr.one (p : Rr) : ∀ u ∈ p.cells, u.oneCell' = true := by intro u hu; simp [Rr.cells] at hu; subst hu; rfl
theorem elR : ElemT Tryd.prog 22 34 Rr.cells 1 24 :=
  ElemT.mk' (z := .slice none 0 0) Tryd.underlying22 (by kernel_rfl) (by rfl) (by omega) Rr.len Rr.one
def dR : Rr := ⟨none, 0, []⟩
/-- every row lies in w as it reads -/
def Lies (w : World) (R : List Rr) : Prop := ∀ p ∈ R, Sl V.cells 3 w p.hd p.row
theorem Lies.keep {w w' : World} {R : List Rr} (h : Lies w R) (hb : Below w.heap.size w w') : Lies w' R := fun p hp => (h p hp).keep hb
/-- a row of values that can be told apart, each row as long as the others -/
structure Even (R : List (List V)) (m : Nat) : Prop where
  len : ∀ r ∈ R, r.length = m
  good : ∀ r ∈ R, ∀ x ∈ r, goodV x = true
  size : ∀ r ∈ R, ∀ x ∈ r, x.s.size ≤ maxLen
  small : m ≤ 1000000
def ltR (ord : Int) (down : Bool) (a b : List V) : Bool := decide (ordC ord down a b < 0)

theorem eg_order : ∀ args w, (callFunc 31 args).run Tryd.prog w = .ok (.enter 31 args) w := fun _ _ => by kernel_rfl

def clampR (M : List Rr) (x : Nat) : Rr := M.getD (min x (M.length - 1)) dR
theorem clamp_mem {M : List Rr} (h : M ≠ []) (x : Nat) : clampR M x ∈ M := by
  have h0 : 0 < M.length := List.length_pos_iff.2 h
  have h1 : min x (M.length - 1) < M.length := by omega
  unfold clampR
  rw [List.getD_eq_getElem?_getD, List.getElem?_eq_getElem h1]
  exact List.getElem_mem h1
theorem clamp_at {M : List Rr} {x : Nat} (h : x < M.length) : clampR M x = M[x] := by
  have h1 : min x (M.length - 1) = x := by omega
  unfold clampR
  rw [h1, List.getD_eq_getElem?_getD, List.getElem?_eq_getElem h]; rfl
theorem clamp_nil (x : Nat) : clampR [] x = dR := rfl

/-- **slices.SortStableFunc as query.Pick calls it.** -/
theorem sortRows_any (t : Int) (cv lv : Value) (ord : Int) (down : Bool) (lim : Int) (gq base len : Nat) (M : List Rr) (v : Value) (W w : World) (hown : Own Rr.cells 1 34 base w v M)
    (hq : w.heap[gq]? = some (.cells #[.int .i64 t, cv, lv, .int .i64 ord, .bool down, .int .i64 lim] 40 (0, 0))) (hne : v.ownBlock ≠ some gq) (hL : Lies W M) (hW : Below W.heap.size W w) (hbase : W.heap.size ≤ base) (hE : Even (M.map Rr.row) len) (hn : M.length ≤ 1000000) :
    Calls Tryd.prog 18 #[v, .func (.func 31) #[] #[.pointer (some ⟨gq, 0, none⟩)]] w fun e w' => e = .returned (.tuple #[]) ∧ ∃ S : List Rr, Sl Rr.cells 1 w' v S ∧ S.length = M.length ∧ (∀ p ∈ S, p ∈ M) ∧ S.map Rr.row = isort (ltR ord down) (M.map Rr.row) ∧ w.grownBy w' v.ownBlock := by
  rcases hown.2 with ⟨hv, h0⟩ | ⟨g, cap, cur, hv, hb, hg, hcap, hm, hcs, htk⟩
  · have hM : M = [] := List.eq_nil_of_length_eq_zero h0
    subst hM
    rw [hv]
    refine (sortStable_none _ _).mono ?_
    rintro e w' ⟨rfl, rfl⟩
    exact ⟨rfl, [], Sl.nil, rfl, fun p hp => hp, rfl, ⟨rfl, rfl, rfl, Nat.le_refl _, fun _ _ _ => rfl⟩⟩
  subst hv
  have hown' := hown
  have hgq : g ≠ gq := fun e => hne (by rw [e]; rfl)
  -- the block, row by row
  have hR : Rw (fun x => (clampR M x).a) (fun x => (clampR M x).row.length) (fun x => (clampR M x).c) M.length g w fun k => k := by
    refine ⟨cur, hg, fun i hi => ?_⟩
    have h1 := flat_at Rr.cells 1 Rr.len M i M[i] (List.getElem?_eq_getElem hi) 0 _ rfl
    rw [← htk, List.getElem?_take] at h1
    split at h1
    · simp only [Nat.mul_one, Nat.add_zero] at h1
      show cur[i]? = some (.slice (clampR M i).a (clampR M i).row.length (clampR M i).c)
      rw [clamp_at hi]
      have h2 : cur[i]? = some M[i].hd := by simpa using h1
      exact h2
    · cases h1
  have hmem : ∀ x, M ≠ [] → clampR M x ∈ M := fun x h => clamp_mem h x
  have hlen : ∃ l, l ≤ 1000000 ∧ (∀ x, (clampR M x).row.length = l) := by
    by_cases h : M = []
    · subst h; exact ⟨0, by omega, fun x => rfl⟩
    · exact ⟨len, hE.small, fun x => hE.len _ (List.mem_map.2 ⟨_, hmem x h, rfl⟩)⟩
  obtain ⟨l, hl6, hl⟩ := hlen
  have hgood : ∀ x, ∀ u ∈ (clampR M x).row, goodV u = true := fun x u hu => by
    by_cases h : M = []
    · subst h; cases hu
    · exact hE.good _ (List.mem_map.2 ⟨_, hmem x h, rfl⟩) u hu
  have hsize : ∀ x, ∀ u ∈ (clampR M x).row, u.s.size ≤ maxLen := fun x u hu => by
    by_cases h : M = []
    · subst h; cases hu
    · exact hE.size _ (List.mem_map.2 ⟨_, hmem x h, rfl⟩) u hu
  have hlies : ∀ (w' : World), Below W.heap.size W w' → ∀ x, Sl V.cells 3 w' (.slice (clampR M x).a (clampR M x).row.length (clampR M x).c) (clampR M x).row := fun w' hb' x => by
    by_cases h : M = []
    · subst h; exact Sl.nil
    · exact (hL _ (hmem x h)).keep hb'
  have hC : CmpOk (fun x => (clampR M x).a) (fun x => (clampR M x).row.length) (fun x => (clampR M x).c) 31 [.pointer (some ⟨gq, 0, none⟩)] (fun x y => ordC ord down (clampR M x).row (clampR M y).row) g w := by
    refine ⟨eg_order, fun w' hgr x y => ?_⟩
    have hbW : Below W.heap.size W w' := below_app (v := .slice (some ⟨g, 0, none⟩) M.length cap) hW hgr (Nat.le_trans hbase (Nat.le_trans hb (Nat.le_of_lt (blk_lt hg)))) (fun k hk => by simp only [Value.ownBlock, Option.some.injEq] at hk; subst hk; exact Nat.le_trans hbase hb)
    have hq' : w'.heap[gq]? = some (.cells #[.int .i64 t, cv, lv, .int .i64 ord, .bool down, .int .i64 lim] 40 (0, 0)) := by
      rw [hgr.block gq (blk_lt hq) (fun e => hgq (by injection e with e; exact e.symm))]; exact hq
    exact orderC_any t cv lv ord down lim gq _ _ _ _ w' hq' (hlies w' hbW x) (hlies w' hbW y) (by rw [hl, hl]) (hsize x) (hsize y) (by rw [hl]; exact hl6)
  have hT : Tw fun x y => ordC ord down (clampR M x).row (clampR M y).row := tw_row ord down (fun x => (clampR M x).row) l hl hgood
  have hrow : M.map Rr.row = (List.range M.length).map fun x => (clampR M x).row := by
    refine List.ext_getElem (by simp) fun i h1 h2 => ?_
    simp only [List.getElem_map, List.getElem_range]
    rw [clamp_at (by simpa using h1)]
  refine (sortStable_any _ _ _ M.length cap g 31 _ _ w hC hT.swo hR hn).mono ?_
  rintro e w' ⟨rfl, hgr, d', hR', hs, ho⟩
  have hd : ∀ i, i < M.length → d' i < M.length := fun i hi => by
    obtain ⟨j, _, j2, e⟩ := hs.2.1 i (Nat.zero_le _) hi
    rw [e]; exact j2
  refine ⟨rfl, (List.range M.length).map (fun i => clampR M (d' i)), ?_, by simp, fun p hp => ?_, ?_, hgr⟩
  · refine ⟨some ⟨g, 0, none⟩, cap, by simp, fun _ => ⟨g, 0, rfl, hR'.lt, fun i x hx j u hu => ?_⟩⟩
    obtain ⟨hi, rfl⟩ := List.getElem?_eq_some_iff.1 hx
    simp only [List.length_map, List.length_range] at hi
    simp only [List.getElem_map, List.getElem_range] at hu
    match j, hu with
    | 0, hu =>
      simp only [Rr.cells, List.getElem?_cons_zero, Option.some.injEq] at hu
      subst hu
      have := hR'.cell hi
      simp only [Nat.zero_add, Nat.mul_one, Nat.add_zero]
      exact this
    | j + 1, hu => simp [Rr.cells] at hu
  · obtain ⟨i, hi, rfl⟩ := List.mem_map.1 hp
    exact hmem _ (fun e => by subst e; simp at hi)
  · have h1 := srt_isort hT.swo hs ho
    rw [hrow, isort_map, List.map_map]
    show (List.range M.length).map (fun i => (clampR M (d' i)).row) = _
    have h2 : (fun a b => ltR ord down (clampR M a).row (clampR M b).row) = ltc fun x y => ordC ord down (clampR M x).row (clampR M y).row := rfl
    rw [h2, ← h1, List.map_map]
    rfl
end Go.Proofs.YtlhmencjhhpacaaDoor
