/- A cache's map: numbers to entries' blocks, as a list of pairs. -/
import Derived.Test.YtjjiclbngoldaaaCaMem
import Derived.Maps.OwnSet
namespace Go.Proofs.Ytjjiclbngoldaaa
open Go.RowKit Go.Maps

/-- how a pointer to an entry reads: its block's number; nil: -1 -/
def ptrR (v : Value) : Option (DataW Unit × List MemPlace) := match v with
  | .pointer none => some (.lit (.int .i64 (-1)), [])
  | .pointer (some ⟨b, 0, none⟩) => some (.lit (.int .i64 b), [])
  | _ => none
theorem ptrR_nil {v : Value} {ps : List MemPlace} (h : ptrR v = some (.lit (.int .i64 (-1)), ps)) : v = .pointer none := by
  unfold ptrR at h
  split at h
  · rfl
  · simp only [Option.some.injEq, Prod.mk.injEq, DataW.lit.injEq, Lit.int.injEq, true_and] at h
    omega
  · cases h
theorem ptrR_some {v : Value} {b : Nat} {ps : List MemPlace} (h : ptrR v = some (.lit (.int .i64 b), ps)) : v = .pointer (some ⟨b, 0, none⟩) := by
  unfold ptrR at h
  split at h
  · simp only [Option.some.injEq, Prod.mk.injEq, DataW.lit.injEq, Lit.int.injEq, true_and] at h
    omega
  · simp only [Option.some.injEq, Prod.mk.injEq, DataW.lit.injEq, Lit.int.injEq, true_and] at h
    have e := Int.natCast_inj.1 h.1
    subst e
    rfl
  · cases h
theorem ptrR_inv {v : Value} {z : DataW Unit × List MemPlace} (h : ptrR v = some z) : v = .pointer none ∨ ∃ b, v = .pointer (some ⟨b, 0, none⟩) ∧ z = (.lit (.int .i64 b), []) := by
  unfold ptrR at h
  split at h
  · exact .inl rfl
  · cases h; exact .inr ⟨_, rfl, rfl⟩
  · cases h

def wfI (n : Int) : Prop := (Lit.int .i64 n).wf = true
abbrev keyL (n : Int) : Lit := .int .i64 n
theorem int_law : Keyed Try.prog 3 := int_keyed Try.underlying3
theorem keyOf_n {n : Int} (h : wfI n) : keyOf Try.prog 3 (.int .i64 n) = some (.int .i64 n) := keyOf_int_mk Try.underlying3 h
theorem zeroPtr (w : World) : (zeroValue 50).run Try.prog w = .ok (.pointer none) w := by kernel_rfl

structure MapOf (D : DataW Unit) (K : List (Int × Nat)) : Prop where
  tidy : Tidy D
  nd : (K.map (·.1)).Nodup
  yes : ∀ p ∈ K, ∀ z, D.atKey (keyL p.1) z = .lit (.int .i64 p.2)
  no : ∀ n, n ∉ K.map (·.1) → has D (keyL n) = false
  size : size D = K.length

theorem keyL_ok (n : Int) : WideAt.IsKeyLit (keyL n) := trivial
theorem MapOf.empty : MapOf (.map []) [] := ⟨tidy_empty, List.Pairwise.nil, fun _ h => absurd h List.not_mem_nil, fun _ _ => rfl, rfl⟩
theorem MapOf.put {D : DataW Unit} {K : List (Int × Nat)} (h : MapOf D K) {n : Int} (hn : n ∉ K.map (·.1)) (b : Nat) : MapOf (D.put (keyL n) (.lit (.int .i64 b))) (K ++ [(n, b)]) := by
  have hne : ∀ m, m ≠ n → keyL m ≠ keyL n := fun m hm e => hm (by cases e; rfl)
  refine ⟨h.tidy.put (keyL_ok n) _, ?_, fun p hp z => ?_, fun m hm => ?_, ?_⟩
  · rw [List.map_append, List.nodup_append]
    refine ⟨h.nd, by simp, fun a ha b hb e => ?_⟩
    simp at hb
    subst e hb
    exact hn ha
  · rcases List.mem_append.1 hp with hp | hp
    · have : p.1 ≠ n := fun e => hn (e ▸ List.mem_map.2 ⟨p, hp, rfl⟩)
      rw [atKey_put_other (hne _ this)]
      exact h.yes p hp z
    · rw [List.mem_singleton.1 hp]
      exact atKey_put_same h.tidy.isMap (keyL_ok n) _ _
  · rw [List.map_append, List.mem_append, not_or] at hm
    rw [has_put_other (hne _ (by simpa using hm.2))]
    exact h.no m hm.1
  · rw [size_put h.tidy, h.no n hn, if_neg (by simp), h.size, List.length_append]
    rfl
theorem MapOf.del {D : DataW Unit} {K1 K2 : List (Int × Nat)} {n : Int} {b : Nat} (h : MapOf D (K1 ++ (n, b) :: K2)) : MapOf (D.del (keyL n)) (K1 ++ K2) := by
  have hne : ∀ m, m ≠ n → keyL m ≠ keyL n := fun m hm e => hm (by cases e; rfl)
  have hnd := h.nd
  rw [List.map_append, List.map_cons, List.nodup_append] at hnd
  obtain ⟨n1, n2, n3⟩ := hnd
  rw [List.nodup_cons] at n2
  have hmem : ∀ p ∈ K1 ++ K2, p.1 ≠ n := fun p hp e => by
    rcases List.mem_append.1 hp with hp | hp
    · exact n3 p.1 (List.mem_map.2 ⟨p, hp, rfl⟩) n (by simp) e
    · exact n2.1 (e ▸ List.mem_map.2 ⟨p, hp, rfl⟩)
  refine ⟨h.tidy.del _, ?_, fun p hp z => ?_, fun m hm => ?_, ?_⟩
  · rw [List.map_append, List.nodup_append]
    exact ⟨n1, n2.2, fun a ha b hb => n3 a ha b (List.mem_cons_of_mem _ hb)⟩
  · rw [atKey_del_other (hne _ (hmem p hp))]
    exact h.yes p (by rcases List.mem_append.1 hp with hp | hp <;> simp [hp]) z
  · by_cases e : m = n
    · subst e; exact has_del_same
    · rw [has_del_other (hne _ e)]
      refine h.no m ?_
      rw [List.map_append, List.mem_append, not_or] at hm
      rw [List.map_append, List.map_cons, List.mem_append, List.mem_cons, not_or, not_or]
      exact ⟨hm.1, e, hm.2⟩
  · have h1 := size_del (k := keyL n) h.tidy
    rw [has_true_of_atKey (fun z => h.yes (n, b) (by simp) z), if_pos rfl, h.size] at h1
    simp only [List.length_append, List.length_cons] at h1 ⊢
    omega

/-- Block gm of w is the map of the pairs K. -/
def MapIs (w : World) (gm : Nat) (K : List (Int × Nat)) : Prop := ∃ D, w.ownsMap Try.prog 3 ptrR gm K.length D ∧ MapOf D K

section
variable {w w' : World} {gm : Nat} {K : List (Int × Nat)}
theorem own_tight {P : Program} {k : TypeId} {R : Value → Option (DataW Unit × List MemPlace)} {b n m : Nat} {D : DataW Unit} (h : w.ownsMap P k R b n D) (hm : Maps.size D = m) : w.ownsMap P k R b m D := by
  obtain ⟨es, clock, hb, F, hs, rfl⟩ := h
  exact ⟨es, clock, hb, F, by rw [← hm]; simp [Maps.size, length_sorted], rfl⟩
theorem MapIs.made (w : World) : MapIs (w.alloc (.map #[] 0)) w.heap.size [] := ⟨_, World.ownsMap_made w _ _ _, MapOf.empty⟩
theorem MapIs.lt (h : MapIs w gm K) : gm < w.heap.size := let ⟨_, h, _⟩ := h; h.lt
theorem MapIs.nd (h : MapIs w gm K) : (K.map (·.1)).Nodup := let ⟨_, _, h⟩ := h; h.nd
theorem MapIs.block (h : MapIs w gm K) (hb : w'.heap[gm]? = w.heap[gm]?) : MapIs w' gm K := by
  obtain ⟨D, ⟨es, clock, hh, F, hs, hD⟩, hm⟩ := h
  exact ⟨D, ⟨es, clock, hb.trans hh, F, hs, hD⟩, hm⟩
theorem MapIs.ch {S : Nat → Prop} (h : MapIs w gm K) (hc : Ch S w w') (hn : ¬ S gm) : MapIs w' gm K := h.block (hc.block gm h.lt hn)
theorem MapIs.look_yes (h : MapIs w gm K) {n : Int} {b : Nat} (hw : wfI n) (hp : (n, b) ∈ K) : (Instr.lookup 51 (.map (some gm)) (.int .i64 n) false).run Try.prog w = .ok (.pointer (some ⟨b, 0, none⟩)) w := by
  obtain ⟨D, hown, hm⟩ := h
  obtain ⟨v, ps, hrun, hv⟩ := hown.lookup int_law Try.underlying51 (zeroPtr w) (zd := .lit (.int .i64 (-1))) (zp := []) rfl (keyOf_n hw)
  rw [hm.yes _ hp] at hv
  rw [hrun, ptrR_some hv]
theorem MapIs.look_no (h : MapIs w gm K) {n : Int} (hw : wfI n) (hp : n ∉ K.map (·.1)) : (Instr.lookup 51 (.map (some gm)) (.int .i64 n) false).run Try.prog w = .ok (.pointer none) w := by
  obtain ⟨D, hown, hm⟩ := h
  obtain ⟨v, ps, hrun, hv⟩ := hown.lookup int_law Try.underlying51 (zeroPtr w) (zd := .lit (.int .i64 (-1))) (zp := []) rfl (keyOf_n hw)
  rw [atKey_of_not_has (hm.no _ hp)] at hv
  rw [hrun, ptrR_nil hv]
theorem MapIs.len (h : MapIs w gm K) (ty : TypeId) : (Builtin.len_ #[51] ty #[.map (some gm)]).run Try.prog w = .ok (.int .i64 K.length) w := by
  obtain ⟨D, hown, hm⟩ := h
  rw [hown.len Try.underlying51, hm.size]
theorem MapIs.put (h : MapIs w gm K) {n : Int} (b : Nat) (hw : wfI n) (hn : n ∉ K.map (·.1)) (hl : K.length < maxLen) :
    ∃ w', (Instr.mapUpdate 51 (.map (some gm)) (.int .i64 n) (.pointer (some ⟨b, 0, none⟩))).run Try.prog w = .ok () w' ∧ MapIs w' gm (K ++ [(n, b)]) ∧ w.grownBy w' (some gm) := by
  obtain ⟨D, hown, hm⟩ := h
  obtain ⟨w', hrun, hown', hg⟩ := hown.update int_law Try.underlying51 hl (keyOf_n hw) (val := .pointer (some ⟨b, 0, none⟩)) (d := .lit (.int .i64 b)) (ps := []) rfl
  have hm' := hm.put hn b
  exact ⟨w', hrun, ⟨_, own_tight hown' hm'.size, hm'⟩, hg⟩
theorem MapIs.del {K1 K2 : List (Int × Nat)} {n : Int} {b : Nat} (h : MapIs w gm (K1 ++ (n, b) :: K2)) (hw : wfI n) (ty : TypeId) :
    ∃ w', (Builtin.delete_ #[51, 3] ty #[.map (some gm), .int .i64 n]).run Try.prog w = .ok (.tuple #[]) w' ∧ MapIs w' gm (K1 ++ K2) ∧ w.grownBy w' (some gm) := by
  obtain ⟨D, hown, hm⟩ := h
  obtain ⟨w', hrun, hown', hg⟩ := hown.drop int_law Try.underlying51 (keyOf_n hw) ty
  have hm' := hm.del
  exact ⟨w', hrun, ⟨_, own_tight hown' hm'.size, hm'⟩, hg.grown⟩
end
end Go.Proofs.Ytjjiclbngoldaaa
