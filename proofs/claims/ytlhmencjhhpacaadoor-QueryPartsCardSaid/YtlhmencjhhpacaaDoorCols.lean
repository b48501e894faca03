/- schema.Cols, cahierref18.Cols: the columns of each table, in new memory. schema.Name, cahierref18.Name. -/
import Derived.Test.YtlhmencjhhpacaaDoorMem
namespace Go.Proofs.YtlhmencjhhpacaaDoor
open Go.RowKit

def cId : C := ⟨⟨#[105, 100]⟩, 1, false, true, 0⟩
def cols (t : Int) : List C :=
  if t = 1 then [cId, ⟨⟨#[110, 97, 109, 101]⟩, 2, false, true, 0⟩, ⟨⟨#[115, 105, 122, 101]⟩, 1, true, false, 0⟩]
  else if t = 2 then [cId, ⟨⟨#[112, 108, 97, 99, 101]⟩, 1, false, true, 0⟩, ⟨⟨#[115, 116, 121, 108, 101]⟩, 1, true, false, 1⟩, ⟨⟨#[98, 111, 100, 121]⟩, 3, false, false, 0⟩]
  else if t = 3 then [cId, ⟨⟨#[112, 97, 114, 97]⟩, 1, false, false, 2⟩, ⟨⟨#[110, 97, 109, 101]⟩, 2, true, false, 0⟩, ⟨⟨#[100, 97, 116, 97]⟩, 4, false, false, 0⟩]
  else []

theorem cols_any (t : Int) (w : World) :
    Calls Tryd.prog 24 #[.int .i64 t] w fun e w' => ∃ v, e = .returned v ∧ Sl C.cells 5 w' v (cols t) ∧ New w v ∧ Below w.heap.size w w' := by
  by_cases h1 : t = 1
  · subst h1
    go_enter Tryd.func24, Tryd.ntmps24
    go_wp2
    go_ret
    exact ⟨_, rfl, Sl.new (by simp) C.len rfl rfl, New.at_ (by simp), by go_grown⟩
  by_cases h2 : t = 2
  · subst h2
    go_enter Tryd.func24, Tryd.ntmps24
    go_wp2
    go_ret
    exact ⟨_, rfl, Sl.new (by simp) C.len rfl rfl, New.at_ (by simp), by go_grown⟩
  by_cases h3 : t = 3
  · subst h3
    go_enter Tryd.func24, Tryd.ntmps24
    go_wp2
    go_ret
    exact ⟨_, rfl, Sl.new (by simp) C.len rfl rfl, New.at_ (by simp), by go_grown⟩
  have hc : cols t = [] := by unfold cols; rw [if_neg h1, if_neg h2, if_neg h3]
  rw [hc]
  clear hc
  have e1 : (t == 1) = false := by simpa using h1
  have e2 : (t == 2) = false := by simpa using h2
  have e3 : (t == 3) = false := by simpa using h3
  clear h1 h2 h3
  go_enter Tryd.func24, Tryd.ntmps24
  go_wp2
  go_ret
  exact ⟨_, rfl, Sl.nil, New.nil, by go_grown⟩

def tname (t : Int) : ByteArray := if t = 1 then ⟨#[115, 116, 121, 108, 101, 115]⟩ else if t = 2 then ⟨#[112, 97, 114, 97, 115]⟩ else if t = 3 then ⟨#[98, 108, 111, 98, 115]⟩ else ⟨#[]⟩
theorem name_any (t : Int) (w : World) :
    Calls Tryd.prog 33 #[.int .i64 t] w fun e w' => e = .returned (.string (tname t)) ∧ w = w' := by
  by_cases h1 : t = 1
  · subst h1
    go_enter Tryd.func33, Tryd.ntmps33
    go_wp2
    go_ret
    exact ⟨rfl, rfl⟩
  by_cases h2 : t = 2
  · subst h2
    go_enter Tryd.func33, Tryd.ntmps33
    go_wp2
    go_ret
    exact ⟨rfl, rfl⟩
  by_cases h3 : t = 3
  · subst h3
    go_enter Tryd.func33, Tryd.ntmps33
    go_wp2
    go_ret
    exact ⟨rfl, rfl⟩
  have hc : tname t = ⟨#[]⟩ := by unfold tname; rw [if_neg h1, if_neg h2, if_neg h3]
  rw [hc]
  clear hc
  have e1 : (t == 1) = false := by simpa using h1
  have e2 : (t == 2) = false := by simpa using h2
  have e3 : (t == 3) = false := by simpa using h3
  clear h1 h2 h3
  go_enter Tryd.func33, Tryd.ntmps33
  go_wp2
  go_ret
  exact ⟨rfl, rfl⟩
end Go.Proofs.YtlhmencjhhpacaaDoor
