/- The reference's cache: in memory; New, without. -/
import Derived.Test.YtjjiclbngoldaaaCaLast
import Derived.Test.YtjjiclbngoldaaaCaPlace
namespace Go.Proofs.Ytjjiclbngoldaaa
open Go.RowKit

def oC (x : On) : List Value := [.int .i64 x.1, .string x.2.1, .bool x.2.2]
theorem oC_len (x : On) : (oC x).length = 3 := rfl
theorem elO : ElemT Try.prog 46 65 oC 3 32 :=
  ElemT.mk' (z := .agg #[.int .i64 0, .string ⟨#[]⟩, .bool false]) Try.underlying46 (by kernel_rfl) (by rfl) (by omega) oC_len (by intro x u hu; simp [oC] at hu; rcases hu with rfl | rfl | rfl <;> rfl)

/-- the block of the reference's cache -/
def rfB (size : Int) (lv : Value) : Obj := .cells #[.int .i64 size, lv] 48 (0, 0)
theorem blk_cell {w : World} {g : Nat} {cs : Array Value} {e : TypeId} (h : w.heap[g]? = some (.cells cs e (0, 0))) (i : Nat) : w.cell? ⟨g, i, none⟩ = cs[i]? := by
  simp [World.cell?, h]
theorem blk_frozen {w : World} {g : Nat} {cs : Array Value} {e : TypeId} (h : w.heap[g]? = some (.cells cs e (0, 0))) (i : Nat) : w.frozen? ⟨g, i, none⟩ = false := by
  simp [World.frozen?, h]
theorem blk_keep {w w' : World} {g : Nat} {o : Obj} (h : w.heap[g]? = some o) (hb : Below w.heap.size w w') : w'.heap[g]? = some o := (hb.block g (lt_of_heap h)).trans h
theorem rf_cells {w : World} {g : Nat} {size : Int} {lv : Value} (h : w.heap[g]? = some (rfB size lv)) : w.cell? ⟨g, 0, none⟩ = some (.int .i64 size) ∧ w.cell? ⟨g, 1, none⟩ = some lv ∧ w.frozen? ⟨g, 1, none⟩ = false ∧ g < w.heap.size :=
  ⟨blk_cell h 0, blk_cell h 1, blk_frozen h 1, lt_of_heap h⟩

theorem refNew_any (size : Int) (w : World) : Calls Try.prog 13 #[.int .i64 size] w fun e w' =>
    e = .returned (.pointer (some ⟨w.heap.size, 0, none⟩)) ∧ w' = w.alloc (rfB (szC size) (.slice none 0 0)) := by
  go_enter Try.func13, Try.ntmps13
  unfold szC rfB
  by_cases h1 : size < 1
  · rw [show min (max size 1) 256 = 1 by omega]
    go_wp2_with fail
    go_ret
    exact ⟨rfl, rfl⟩
  · by_cases h2 : 256 < size
    · rw [show min (max size 1) 256 = 256 by omega]
      go_wp2_with fail
      go_ret
      exact ⟨rfl, rfl⟩
    · rw [show min (max size 1) 256 = size by omega]
      go_wp2_with fail
      go_ret
      exact ⟨rfl, rfl⟩

def lastW (n : Int) (L : List On) : On := L.foldl (fun a x => if x.1 == n then x else a) (0, ⟨#[]⟩, false)
def hitW (n : Int) (L : List On) : Bool := L.any fun x => x.1 == n
theorem lastW_snoc (n : Int) (L : List On) (x : On) : lastW n (L ++ [x]) = if x.1 == n then x else lastW n L := by simp [lastW]
theorem hitW_snoc (n : Int) (L : List On) (x : On) : hitW n (L ++ [x]) = (hitW n L || (x.1 == n)) := by simp [hitW]
theorem without_snoc (n : Int) (L : List On) (x : On) : without n (L ++ [x]) = if x.1 == n then without n L else without n L ++ [x] := by
  unfold without
  rw [List.filter_append]
  by_cases h : x.1 == n <;> simp [h]
def oneB (x : On) : Obj := .cells #[.int .i64 x.1, .string x.2.1, .bool x.2.2] 65 (0, 0)
def oneV (x : On) : Value := .agg #[.int .i64 x.1, .string x.2.1, .bool x.2.2]
theorem one_cells {w : World} {g : Nat} {x : On} (h : w.heap[g]? = some (oneB x)) : w.cell? ⟨g, 0, none⟩ = some (.int .i64 x.1) ∧ w.cell? ⟨g, 1, none⟩ = some (.string x.2.1) ∧ w.cell? ⟨g, 2, none⟩ = some (.bool x.2.2) ∧ w.frozen? ⟨g, 0, none⟩ = false ∧ w.frozen? ⟨g, 1, none⟩ = false ∧ w.frozen? ⟨g, 2, none⟩ = false ∧ g < w.heap.size :=
  ⟨blk_cell h 0, blk_cell h 1, blk_cell h 2, blk_frozen h 0, blk_frozen h 1, blk_frozen h 2, lt_of_heap h⟩
theorem one_set {w : World} {g : Nat} {x : On} (h : w.heap[g]? = some (oneB x)) (a : Int) (b : ByteArray) (c : Bool) :
    (((w.setCell ⟨g, 0, none⟩ (.int .i64 a)).setCell ⟨g, 1, none⟩ (.string b)).setCell ⟨g, 2, none⟩ (.bool c)).heap[g]? = some (oneB (a, b, c)) := by
  simp [World.setCell, Array.getElem?_modify, h, oneB]
theorem ch_set3 {S : Nat → Prop} {a w : World} (h : Ch S a w) {g : Nat} (hp : S g) (u v x : Value) : Ch S a (((w.setCell ⟨g, 0, none⟩ u).setCell ⟨g, 1, none⟩ v).setCell ⟨g, 2, none⟩ x) := ((h.setCell (p := ⟨g, 0, none⟩) hp u).setCell (p := ⟨g, 1, none⟩) hp v).setCell (p := ⟨g, 2, none⟩) hp x

theorem heap_at_new {w0 : World} {o : Obj} {g : Nat} (h : g = w0.heap.size) : (w0.alloc o).heap[g]? = some o := by subst h; exact heap_alloc_new _ _
/-- without's round -/
structure WoI (w : World) (n : Int) (L : List On) (k : Nat) (sv iv : Value) (wr : World) : Prop where
  own : Own oC 3 65 (w.heap.size + 1) wr sv (without n (L.take k))
  is : iv = .bool (hitW n (L.take k))
  box : wr.heap[w.heap.size + 1 + 1]? = some (oneB (lastW n (L.take k)))
  ret : wr.heap[w.heap.size]? = some (oneB (0, ⟨#[]⟩, false))
  far : ∀ j, sv.ownBlock = some j → j ≠ w.heap.size + 1 + 1
  below : Below w.heap.size w wr

set_option maxRecDepth 100000 in
set_option maxHeartbeats 1000000 in
theorem without_any (n : Int) (gu : Nat) (size : Int) (lv : Value) (L : List On) (w : World) (hb : w.heap[gu]? = some (rfB size lv)) (hs : Sl oC 3 w lv L) (hl : L.length ≤ 256) :
    Calls Try.prog 30 #[.pointer (some ⟨gu, 0, none⟩), .int .i64 n] w fun e w' => ∃ v, e = .returned (.tuple #[v, oneV (lastW n L), .bool (hitW n L)]) ∧ Own oC 3 65 w.heap.size w' v (without n L) ∧ Below w.heap.size w w' := by
  obtain ⟨Al, cl, rfl⟩ := Sl.len' hs
  have HS := Lib.hid hs
  have HB := Lib.hid hb
  clear hs hb
  go_enter Try.func30, Try.ntmps30
  go_wp2_with fail
  go_loopw [7, 9, 10] (fun sv iv kv wr => ∃ k : Nat, k ≤ L.length ∧ kv = .int .i64 k ∧ WoI w n L k sv iv wr) (fun _ _ kv _ => L.length - (intOf kv).toNat)
  case atStart =>
    refine ⟨0, Nat.zero_le _, rfl, ?_, rfl, ?_, ?_, ?_, ?_⟩
    · have h0 := World.ownsRow_lit (e := 65) (size := 3) (base := w.heap.size + 1) (w.alloc (.cells #[.int .i64 0, .string ⟨#[]⟩, .bool false] 65)) #[] 0 (by simp) (by simp [maxLen]) (by simp)
      rw [World.size_alloc] at h0
      exact Own.alloc (f := oC) (xs := []) h0 _
    · exact heap_at_new (by simp)
    · rw [Below.heap_alloc _ _ _ (by simp; omega), Below.heap_alloc _ _ _ (by simp)]
      exact heap_at_new rfl
    · intro j hj
      simp only [Value.ownBlock, Option.some.injEq] at hj
      omega
    · exact (((Below.refl _ w).alloc (Nat.le_refl _) _).alloc (by simp) _).alloc (by simp; omega) _
  case round =>
    obtain ⟨k, hk, rfl, hw⟩ := hrel
    obtain ⟨hown, rfl, hbox, hret, hfar, hbel⟩ := hw
    obtain ⟨a0, a1, a2, a3⟩ := rf_cells (blk_keep HB.out hbel)
    obtain ⟨Av, cv, rfl⟩ := Sl.len' (hown.sl oC_len)
    have HOWN := Lib.hid hown
    have HBOX := Lib.hid hbox
    have HRET := Lib.hid hret
    have HFAR := Lib.hid hfar
    have HBEL := Lib.hid hbel
    clear hown hbox hret hfar hbel a0
    by_cases hlt : k < L.length
    · rcases (HS.out.keep HBEL.out).cases with ⟨A, c, he, hnil⟩ | ⟨b, off, c, he, -, hbl, hsl'⟩
      · rw [hnil] at hlt; simp at hlt
      injection he with he1 he2 he3
      subst he1 he3
      obtain ⟨-, hcells⟩ := hsl'.cells hlt
      have e0 : wr.cell? ⟨b, off + k * 3, none⟩ = some (.int .i64 L[k].1) := by simpa using hcells 0 _ rfl
      have e1 : wr.cell? ⟨b, off + k * 3 + 1, none⟩ = some (.string L[k].2.1) := by simpa using hcells 1 _ rfl
      have e2 : wr.cell? ⟨b, off + k * 3 + 2, none⟩ = some (.bool L[k].2.2) := by simpa using hcells 2 _ rfl
      have hk0 : (0 : Int) ≤ (k : Int) := by omega
      have hk1 : (k : Int) < (L.length : Int) := by omega
      have hk2 : L.length ≤ 256 := hl
      have HT := Lib.hid (List.take_succ_eq_append_getElem hlt)
      have HWL := Lib.hid (show (without n (L.take k)).length ≤ 256 by unfold without; exact Nat.le_trans (List.length_filter_le _ _) (by rw [List.length_take]; omega))
      clear hcells hsl'
      generalize L[k] = x at *
      obtain ⟨xn, xs, xd⟩ := x
      simp only at e0 e1 e2
      cases hx : (xn == n)
      · have HW2 := Lib.hid (show without n (L.take (k + 1)) = without n (L.take k) ++ [(xn, xs, xd)] by rw [HT.out, without_snoc, if_neg (by simp [hx])])
        have HH2 := Lib.hid (show hitW n (L.take (k + 1)) = hitW n (L.take k) by rw [HT.out, hitW_snoc]; simp [hx])
        have HL2 := Lib.hid (show lastW n (L.take (k + 1)) = lastW n (L.take k) by rw [HT.out, lastW_snoc, if_neg (by simp [hx])])
        go_wp2_with (at_builtin; refine Hid.out ?_)
        refine Lib.hid ?_
        refine wpList_append_sl rfl rfl elO rfl rfl (HOWN.out.alloc _) (Sl.one ((xn, xs, xd) : On) rfl oC_len rfl) (by have := HWL.out; simp [maxLen]; omega) (by have := HWL.out; simp; omega) (by have := HBEL.out.size; have := HRET.out; have := lt_of_heap HBOX.out; simp; omega) ?_
        intro v' w6 ho hg hat
        have HO6 := Lib.hid ho
        have hbx := lt_of_heap HBOX.out
        have hrx := lt_of_heap HRET.out
        have HX6 := Lib.hid (show w6.heap[w.heap.size + 1 + 1]? = _ from (hg.block _ (by simp; omega) (fun e => HFAR.out _ e.symm rfl)).trans ((Below.heap_alloc _ _ _ hbx).trans HBOX.out))
        have HR6 := Lib.hid (show w6.heap[w.heap.size]? = _ from (hg.block _ (by simp; omega) (fun e => by have := (HOWN.out.lt _ e.symm).1; omega)).trans ((Below.heap_alloc _ _ _ hrx).trans HRET.out))
        have HF6 := Lib.hid (show ∀ j, v'.ownBlock = some j → j ≠ w.heap.size + 1 + 1 from fun j hj => by
          rcases hat with hat | hat
          · exact HFAR.out j (hat ▸ hj)
          · rw [hat] at hj; simp at hj; omega)
        have HB6 := Lib.hid (below_app (HBEL.out.alloc HBEL.out.size _) hg (by have := HBEL.out.size; simp; omega) (fun k hk => by have := (HOWN.out.lt k hk).1; omega))
        clear ho hg hat
        obtain ⟨A6, c6, h6⟩ := Sl.len' (HO6.out.sl oC_len)
        simp only [List.length_append, List.length_cons, List.length_nil, Nat.zero_add] at h6
        subst h6
        go_wp2_with fail
        go_roundw
        case rel => exact ⟨k + 1, by omega, by go_num, by rw [HW2.out]; exact HO6.out, by rw [HH2.out], by rw [HL2.out]; exact HX6.out, HR6.out, HF6.out, HB6.out⟩
        case measure => simp [intOf]; omega
      · obtain ⟨b0, b1, b2, b3, b4, b5, b6⟩ := one_cells HBOX.out
        have HW2 := Lib.hid (show without n (L.take (k + 1)) = without n (L.take k) by rw [HT.out, without_snoc, if_pos (by simp [hx])])
        have HH2 := Lib.hid (show hitW n (L.take (k + 1)) = true by rw [HT.out, hitW_snoc]; simp [hx])
        have HL2 := Lib.hid (show lastW n (L.take (k + 1)) = (xn, xs, xd) by rw [HT.out, lastW_snoc, if_pos (by simp [hx])])
        go_wp2_with fail
        have hc := ch_set3 (S := fun j => j = w.heap.size + 1 + 1) (Ch.refl _ wr) (g := w.heap.size + 1 + 1) rfl (.int .i64 xn) (.string xs) (.bool xd)
        refine ⟨⟨k + 1, by omega, by go_num, by rw [HW2.out]; exact HOWN.out.ch hc (fun j hj => HFAR.out j hj), by rw [HH2.out], by rw [HL2.out]; exact one_set HBOX.out _ _ _, hc.keep HRET.out (fun e => absurd (show w.heap.size = w.heap.size + 1 + 1 from e) (by omega)), HFAR.out, HBEL.out.trans (hc.below HBEL.out.size (fun j e => by subst e; omega))⟩, ?_⟩
        simp [intOf]
        omega
    · obtain ⟨b0, b1, b2, b3, b4, b5, b6⟩ := one_cells HBOX.out
      obtain ⟨d0, d1, d2, d3, d4, d5, d6⟩ := one_cells HRET.out
      have HTK := Lib.hid (show L.take k = L from List.take_of_length_le (by omega))
      go_wp2_with fail
      go_region
      all_goals
        have hx : (((wr.setCell ⟨w.heap.size, 0, none⟩ (.int .i64 (lastW n (L.take k)).1)).setCell ⟨w.heap.size, 1, none⟩ (.string (lastW n (L.take k)).2.1)).setCell ⟨w.heap.size, 2, none⟩ (.bool (lastW n (L.take k)).2.2)).drew.heap[w.heap.size]? = some (oneB (lastW n (L.take k))) := one_set HRET.out _ _ _
        obtain ⟨q0, q1, q2, -⟩ := one_cells hx
        have hc := (ch_set3 (S := fun j => j = w.heap.size) (Ch.refl _ wr) (g := w.heap.size) rfl (.int .i64 (lastW n (L.take k)).1) (.string (lastW n (L.take k)).2.1) (.bool (lastW n (L.take k)).2.2)).drew
        have ho := HOWN.out.ch hc (fun j hj e => by have := (HOWN.out.lt j hj).1; omega)
        have hbb := HBEL.out.trans (hc.below HBEL.out.size (fun j e => by subst e; omega))
        go_wp2_with fail
        exact bodyPost_ret (v := .tuple #[.slice Av (without n (L.take k)).length cv, oneV (lastW n (L.take k)), .bool (hitW n (L.take k))]) (by simp [results, Try.results30, go_sem, q0, q1, q2, oneV]) rfl ⟨_, by rw [HTK.out], by rw [HTK.out] at ho ⊢; exact ⟨ho.1, ho.2.imp id fun ⟨g, cap, cur, h1, h2, h3⟩ => ⟨g, cap, cur, h1, by omega, h3⟩⟩, hbb⟩
end Go.Proofs.Ytjjiclbngoldaaa
