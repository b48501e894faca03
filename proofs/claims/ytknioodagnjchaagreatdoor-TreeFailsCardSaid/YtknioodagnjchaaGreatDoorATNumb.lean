/- cahierlaw16.numbered: a key of a number. -/
import Derived.Test.YtknioodagnjchaaGreatDoorANu
import Derived.Test.YtknioodagnjchaaGreatDoorAPl
namespace Go.Proofs.YtknioodagnjchaaGreatDoor
open Go.RowKit

theorem numB_snoc {n m : Nat} (h : 2 ≤ m) : numB n m ++ [UInt8.ofNat n] = numB n (m + 1) := by
  obtain ⟨k, rfl⟩ : ∃ k, m = k + 2 := ⟨m - 2, by omega⟩
  unfold numB
  rw [show k + 2 - 2 = k by omega, show k + 2 + 1 - 2 = k + 1 by omega, List.replicate_succ']
  rfl
def slLen : Value → Nat
  | .slice _ n _ => n
  | _ => 0
set_option maxRecDepth 100000 in
set_option maxHeartbeats 1000000 in
theorem numbered_any (n size : Nat) (w : World) (hn : n < 65536) (h2 : 2 ≤ size) (h3 : size ≤ 1000) :
    Calls Tryz.prog 26 #[.int .i64 n, .int .i64 size] w fun e w' => e = .returned (.string (mkS (numB n size))) ∧ Below w.heap.size w w' := by
  have hc1 : (n : Int) / 256 = ((UInt8.ofNat (n / 256)).toNat : Int) := by rw [UInt8.toNat_ofNat']; omega
  have hc2 : (n : Int) % 256 = ((UInt8.ofNat n).toNat : Int) := by rw [UInt8.toNat_ofNat']; omega
  have HO := Lib.hid (show Own uC 1 5 w.heap.size (w.alloc (.cells #[.int .u8 ((n : Int) / 256), .int .u8 ((n : Int) % 256)] 5)) (.slice (some ⟨w.heap.size, 0, none⟩) 2 2) (numB n 2) by
    rw [hc1, hc2]
    exact World.ownsRow_lit w _ 2 (Nat.le_refl _) (by simp [maxLen]) rfl)
  have HB := Lib.hid (show Below w.heap.size w (w.alloc (.cells #[.int .u8 ((n : Int) / 256), .int .u8 ((n : Int) % 256)] 5)) from (Below.refl _ w).alloc (Nat.le_refl _) _)
  have HU := Lib.hid hc2
  clear hc1 hc2
  go_enter Tryz.func26, Tryz.ntmps26
  go_wp2_with fail
  go_loopw [5] (fun v wr => ∃ m : Nat, 2 ≤ m ∧ m ≤ size ∧ Own uC 1 5 w.heap.size wr v (numB n m) ∧ Below w.heap.size w wr) (fun v _ => size - slLen v)
  case atStart => exact ⟨2, Nat.le_refl _, h2, HO.out, HB.out⟩
  case round =>
    obtain ⟨m, hm2, hm, ho, hb⟩ := hrel
    have HO2 := Lib.hid ho
    have HB2 := Lib.hid hb
    obtain ⟨A, c, hvv⟩ := Sl.len' (ho.sl uC_len)
    rw [numB_len hm2] at hvv
    subst hvv
    clear ho hb
    by_cases hlt : m < size
    · go_wp2_with (at_builtin; refine Hid.out ?_)
      refine Lib.hid ?_
      refine wpList_append_sl rfl rfl elU rfl rfl (HO2.out.alloc _) (Sl.one (UInt8.ofNat n) (by simp) uC_len (by rw [HU.out]; rfl)) (by rw [numB_len hm2]; simp [maxLen]; omega) (by rw [numB_len hm2]; simp; omega) (by have := HB2.out.size; simp; omega) ?_
      intro v' w6 ho hg hat
      have HO6 := Lib.hid (show Own uC 1 5 w.heap.size w6 v' (numB n (m + 1)) by rw [← numB_snoc hm2]; exact ho)
      have HB6 := Lib.hid (below_app (HB2.out.alloc HB2.out.size _) hg (by have := HB2.out.size; simp; omega) (fun k hk => (HO2.out.lt k hk).1))
      have HL6 := Lib.hid (show slLen v' = m + 1 by
        obtain ⟨A6, c6, hv6⟩ := Sl.len' (HO6.out.sl uC_len)
        rw [hv6, numB_len (by omega)]; rfl)
      clear ho hg hat
      go_wp2_with fail
      refine ⟨⟨m + 1, by omega, by omega, HO6.out, HB6.out⟩, ?_⟩
      rw [HL6.out]
      simp [slLen]
      omega
    · obtain rfl : m = size := by omega
      obtain ⟨g, rfl⟩ : ∃ g, A = some ⟨g, 0, none⟩ := by
        rcases HO2.out.2 with ⟨hv, h0⟩ | ⟨g, cap, cur, hv, _⟩
        · rw [numB_len hm2] at h0; omega
        · injection hv with hv; exact ⟨g, hv⟩
      have hcv := conv_own HO2.out
      go_wp2_with fail
      go_ret
      exact ⟨rfl, HB2.out⟩
end Go.Proofs.YtknioodagnjchaaGreatDoor
