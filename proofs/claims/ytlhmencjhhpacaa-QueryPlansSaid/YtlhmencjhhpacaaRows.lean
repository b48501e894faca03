/-
  No cell of these rows narrows 'for every input' (looked for: loops, veiled, ifaces, maps, wideKeys, modest, calm, conditions, laid).
  DERIVED. THE GIVEN ROWS OF THIS SEAT. 7 by the template 'for every input the law returns true; each argument reads behind the call as it read before'; 0 by the template 'total and deterministic' (their statements: YtlhmencjhhpacaaTotals.lean).
  GIVEN WITH THE SEED: the statements are not yours to turn. If you find one false, say at which input.
  Laid BY PROGRAM, IN A SANDBOX (cutbox-rows.mjs): the forced cells as the released guide's own fill.sh prints them over the translation 5fe564e528adbaa4… (all of the seat's roots in one cut). By AI agents, Wed Nov 11 2026. No macro, syntax, notation, axiom, sorry.
-/
import Derived.Test.YtlhmencjhhpacaaChecked
import GoSem.Claim
import GoSem.ClaimJoined
import GoSem.ClaimMapViews
import Derived.JoinedTies
import Derived.KernelRfl
namespace Go.Proofs.Ytlhmencjhhpacaa
/- THE CELL 'sum', in the pinned program and in every row, IS THE sha256 OF THE DUMP (.gsa) THAT YtlhmencjhhpacaaProg.lean LOADS. Nothing in Lean hashes anything: it is a label: what it is worth is what the hold of that sum in a sandbox is worth. -/
noncomputable def Try.pinned : Pinned := { name := "ytlhmencjhhpacaa", sum := "5fe564e528adbaa4bb3e883b81c8c805d95bf3210069022e81a8772d3654d81d", checked := Try.checked }
namespace Rows
def none {H : Type} : Left H := { results := [], args := [] }

/-- 'cahierlaw18.SchemaNames': WHATEVER THE INPUT: true; the input reads as it did. -/
def schemaNamesSpec : ChangeSpec := { name := "schemaNames", fn := fun _ => fun
  | [d1, d2, d3] => { results := [.lit (.bool true)], args := [d1, d2, d3] }
  | _ => none }
def schemaNamesRow : OpenClaim := { program := "ytlhmencjhhpacaa", sum := "5fe564e528adbaa4bb3e883b81c8c805d95bf3210069022e81a8772d3654d81d", func := "cahier/cahierlaw18.SchemaNames", spec := "schemaNames", unfollowed := true, recurses := true, apart := false }
def SchemaNamesSaid : Prop := schemaNamesRow.holds Try.pinned (OpenSpec.ofChange schemaNamesSpec)

/-- ITS FALSE NEIGHBOUR: 'it returns false'. Refute it at one input. -/
def schemaNamesWrong : ChangeSpec := { name := "schemaNames", fn := fun _ => fun
  | [d1, d2, d3] => { results := [.lit (.bool false)], args := [d1, d2, d3] }
  | _ => none }
def SchemaNamesWrongFalsely : Prop := schemaNamesRow.holds Try.pinned (OpenSpec.ofChange schemaNamesWrong)

/-- 'cahierlaw18.SchemaFits': WHATEVER THE INPUT: true; the input reads as it did. -/
def schemaFitsSpec : ChangeSpec := { name := "schemaFits", fn := fun _ => fun
  | [d1, d2, d3] => { results := [.lit (.bool true)], args := [d1, d2, d3] }
  | _ => none }
def schemaFitsRow : OpenClaim := { program := "ytlhmencjhhpacaa", sum := "5fe564e528adbaa4bb3e883b81c8c805d95bf3210069022e81a8772d3654d81d", func := "cahier/cahierlaw18.SchemaFits", spec := "schemaFits", unfollowed := true, recurses := true, apart := false }
def SchemaFitsSaid : Prop := schemaFitsRow.holds Try.pinned (OpenSpec.ofChange schemaFitsSpec)

/-- ITS FALSE NEIGHBOUR: 'it returns false'. Refute it at one input. -/
def schemaFitsWrong : ChangeSpec := { name := "schemaFits", fn := fun _ => fun
  | [d1, d2, d3] => { results := [.lit (.bool false)], args := [d1, d2, d3] }
  | _ => none }
def SchemaFitsWrongFalsely : Prop := schemaFitsRow.holds Try.pinned (OpenSpec.ofChange schemaFitsWrong)

/-- 'cahierlaw18.SchemaRefs': WHATEVER THE INPUT: true; the input reads as it did. -/
def schemaRefsSpec : ChangeSpec := { name := "schemaRefs", fn := fun _ => fun
  | [d1, d2] => { results := [.lit (.bool true)], args := [d1, d2] }
  | _ => none }
def schemaRefsRow : OpenClaim := { program := "ytlhmencjhhpacaa", sum := "5fe564e528adbaa4bb3e883b81c8c805d95bf3210069022e81a8772d3654d81d", func := "cahier/cahierlaw18.SchemaRefs", spec := "schemaRefs", unfollowed := true, recurses := true, apart := false }
def SchemaRefsSaid : Prop := schemaRefsRow.holds Try.pinned (OpenSpec.ofChange schemaRefsSpec)

/-- ITS FALSE NEIGHBOUR: 'it returns false'. Refute it at one input. -/
def schemaRefsWrong : ChangeSpec := { name := "schemaRefs", fn := fun _ => fun
  | [d1, d2] => { results := [.lit (.bool false)], args := [d1, d2] }
  | _ => none }
def SchemaRefsWrongFalsely : Prop := schemaRefsRow.holds Try.pinned (OpenSpec.ofChange schemaRefsWrong)

/-- 'cahierlaw20.QuerySays': WHATEVER THE INPUT: true; the input reads as it did. -/
def querySaysSpec : ChangeSpec := { name := "querySays", fn := fun _ => fun
  | [d1, d2] => { results := [.lit (.bool true)], args := [d1, d2] }
  | _ => none }
def querySaysRow : OpenClaim := { program := "ytlhmencjhhpacaa", sum := "5fe564e528adbaa4bb3e883b81c8c805d95bf3210069022e81a8772d3654d81d", func := "cahier/cahierlaw20.QuerySays", spec := "querySays", inPlace := ["internal/bytealg.abigen_runtime_cmpstring"], unfollowed := true, recurses := true, apart := false }
def QuerySaysSaid : Prop := querySaysRow.holds Try.pinned (OpenSpec.ofChange querySaysSpec)

/-- ITS FALSE NEIGHBOUR: 'it returns false'. Refute it at one input. -/
def querySaysWrong : ChangeSpec := { name := "querySays", fn := fun _ => fun
  | [d1, d2] => { results := [.lit (.bool false)], args := [d1, d2] }
  | _ => none }
def QuerySaysWrongFalsely : Prop := querySaysRow.holds Try.pinned (OpenSpec.ofChange querySaysWrong)

/-- 'cahierlaw20.QueryPicks': WHATEVER THE INPUT: true; the input reads as it did. -/
def queryPicksSpec : ChangeSpec := { name := "queryPicks", fn := fun _ => fun
  | [d1, d2] => { results := [.lit (.bool true)], args := [d1, d2] }
  | _ => none }
def queryPicksRow : OpenClaim := { program := "ytlhmencjhhpacaa", sum := "5fe564e528adbaa4bb3e883b81c8c805d95bf3210069022e81a8772d3654d81d", func := "cahier/cahierlaw20.QueryPicks", spec := "queryPicks", inPlace := ["internal/bytealg.abigen_runtime_cmpstring"], unfollowed := true, recurses := true, apart := false }
def QueryPicksSaid : Prop := queryPicksRow.holds Try.pinned (OpenSpec.ofChange queryPicksSpec)

/-- ITS FALSE NEIGHBOUR: 'it returns false'. Refute it at one input. -/
def queryPicksWrong : ChangeSpec := { name := "queryPicks", fn := fun _ => fun
  | [d1, d2] => { results := [.lit (.bool false)], args := [d1, d2] }
  | _ => none }
def QueryPicksWrongFalsely : Prop := queryPicksRow.holds Try.pinned (OpenSpec.ofChange queryPicksWrong)

/-- 'cahierlaw20.QueryLimits': WHATEVER THE INPUT: true; the input reads as it did. -/
def queryLimitsSpec : ChangeSpec := { name := "queryLimits", fn := fun _ => fun
  | [d1, d2, d3] => { results := [.lit (.bool true)], args := [d1, d2, d3] }
  | _ => none }
def queryLimitsRow : OpenClaim := { program := "ytlhmencjhhpacaa", sum := "5fe564e528adbaa4bb3e883b81c8c805d95bf3210069022e81a8772d3654d81d", func := "cahier/cahierlaw20.QueryLimits", spec := "queryLimits", inPlace := ["internal/bytealg.abigen_runtime_cmpstring"], unfollowed := true, recurses := true, apart := false }
def QueryLimitsSaid : Prop := queryLimitsRow.holds Try.pinned (OpenSpec.ofChange queryLimitsSpec)

/-- ITS FALSE NEIGHBOUR: 'it returns false'. Refute it at one input. -/
def queryLimitsWrong : ChangeSpec := { name := "queryLimits", fn := fun _ => fun
  | [d1, d2, d3] => { results := [.lit (.bool false)], args := [d1, d2, d3] }
  | _ => none }
def QueryLimitsWrongFalsely : Prop := queryLimitsRow.holds Try.pinned (OpenSpec.ofChange queryLimitsWrong)

/-- 'cahierlaw20.QueryPlans': WHATEVER THE INPUT: true; the input reads as it did. -/
def queryPlansSpec : ChangeSpec := { name := "queryPlans", fn := fun _ => fun
  | [d1, d2, d3] => { results := [.lit (.bool true)], args := [d1, d2, d3] }
  | _ => none }
def queryPlansRow : OpenClaim := { program := "ytlhmencjhhpacaa", sum := "5fe564e528adbaa4bb3e883b81c8c805d95bf3210069022e81a8772d3654d81d", func := "cahier/cahierlaw20.QueryPlans", spec := "queryPlans", inPlace := ["internal/bytealg.abigen_runtime_cmpstring"], unfollowed := true, recurses := true, apart := false }
def QueryPlansSaid : Prop := queryPlansRow.holds Try.pinned (OpenSpec.ofChange queryPlansSpec)

/-- ITS FALSE NEIGHBOUR: 'it returns false'. Refute it at one input. -/
def queryPlansWrong : ChangeSpec := { name := "queryPlans", fn := fun _ => fun
  | [d1, d2, d3] => { results := [.lit (.bool false)], args := [d1, d2, d3] }
  | _ => none }
def QueryPlansWrongFalsely : Prop := queryPlansRow.holds Try.pinned (OpenSpec.ofChange queryPlansWrong)

/- THE SECOND FORM. 'bulk': how many values and letters a reading holds, each counted each time it is reached (what is shared counts as often as it is met; a slice's spare places count too). A statement '..UptoSaid' is the law's where the arguments, and the package variables that the reading takes, are together of bulk at most 1048576: NARROWER than '..Said'. Prove '..Said' where nothing that the law and all that it calls make is longer than what came in: it says more and counts as full. Else prove '..UptoSaid'. A law counts once. -/
mutual
def uptoBulk {H : Type} : DataW H → Nat
  | .lit (.string bytes) => bytes.length + 1
  | .lit _ => 1
  | .nil => 1
  | .ptr d => uptoBulk d + 1
  | .slice elems spare => uptoBulkAll elems + uptoBulkAll spare + 1
  | .agg parts => uptoBulkAll parts + 1
  | .iface _ d => uptoBulk d + 1
  | .map entries => uptoBulkEntries entries + 1
  | .held _ => 1
def uptoBulkAll {H : Type} : List (DataW H) → Nat
  | [] => 0
  | d :: r => uptoBulk d + uptoBulkAll r
def uptoBulkEntries {H : Type} : List (Lit × DataW H) → Nat
  | [] => 0
  | x :: r => uptoBulkEntry x + uptoBulkEntries r
def uptoBulkEntry {H : Type} : Lit × DataW H → Nat
  | (.string bytes, d) => bytes.length + uptoBulk d + 1
  | (_, d) => uptoBulk d + 1
 end
def uptoSmall : (H : Type) → List (DataW H) → Bool := fun _ ds => decide (uptoBulkAll ds ≤ 1048576)
def OpenSpec.upto (s : _root_.Go.ChangeSpec) : _root_.Go.OpenSpec := { _root_.Go.OpenSpec.ofChange s with cond := some uptoSmall }

/-- 'cahierlaw18.SchemaNames', WHERE WHAT IT READS IS OF BULK AT MOST 1048576: true; the input reads as it did. -/
def schemaNamesUptoRow : OpenClaim := { program := "ytlhmencjhhpacaa", sum := "5fe564e528adbaa4bb3e883b81c8c805d95bf3210069022e81a8772d3654d81d", func := "cahier/cahierlaw18.SchemaNames", spec := "schemaNames", unfollowed := true, recurses := true, apart := false, narrowed := true }
def SchemaNamesUptoSaid : Prop := schemaNamesUptoRow.holds Try.pinned (OpenSpec.upto schemaNamesSpec)

/-- 'cahierlaw18.SchemaFits', WHERE WHAT IT READS IS OF BULK AT MOST 1048576: true; the input reads as it did. -/
def schemaFitsUptoRow : OpenClaim := { program := "ytlhmencjhhpacaa", sum := "5fe564e528adbaa4bb3e883b81c8c805d95bf3210069022e81a8772d3654d81d", func := "cahier/cahierlaw18.SchemaFits", spec := "schemaFits", unfollowed := true, recurses := true, apart := false, narrowed := true }
def SchemaFitsUptoSaid : Prop := schemaFitsUptoRow.holds Try.pinned (OpenSpec.upto schemaFitsSpec)

/-- 'cahierlaw18.SchemaRefs', WHERE WHAT IT READS IS OF BULK AT MOST 1048576: true; the input reads as it did. -/
def schemaRefsUptoRow : OpenClaim := { program := "ytlhmencjhhpacaa", sum := "5fe564e528adbaa4bb3e883b81c8c805d95bf3210069022e81a8772d3654d81d", func := "cahier/cahierlaw18.SchemaRefs", spec := "schemaRefs", unfollowed := true, recurses := true, apart := false, narrowed := true }
def SchemaRefsUptoSaid : Prop := schemaRefsUptoRow.holds Try.pinned (OpenSpec.upto schemaRefsSpec)

/-- 'cahierlaw20.QuerySays', WHERE WHAT IT READS IS OF BULK AT MOST 1048576: true; the input reads as it did. -/
def querySaysUptoRow : OpenClaim := { program := "ytlhmencjhhpacaa", sum := "5fe564e528adbaa4bb3e883b81c8c805d95bf3210069022e81a8772d3654d81d", func := "cahier/cahierlaw20.QuerySays", spec := "querySays", inPlace := ["internal/bytealg.abigen_runtime_cmpstring"], unfollowed := true, recurses := true, apart := false, narrowed := true }
def QuerySaysUptoSaid : Prop := querySaysUptoRow.holds Try.pinned (OpenSpec.upto querySaysSpec)

/-- 'cahierlaw20.QueryPicks', WHERE WHAT IT READS IS OF BULK AT MOST 1048576: true; the input reads as it did. -/
def queryPicksUptoRow : OpenClaim := { program := "ytlhmencjhhpacaa", sum := "5fe564e528adbaa4bb3e883b81c8c805d95bf3210069022e81a8772d3654d81d", func := "cahier/cahierlaw20.QueryPicks", spec := "queryPicks", inPlace := ["internal/bytealg.abigen_runtime_cmpstring"], unfollowed := true, recurses := true, apart := false, narrowed := true }
def QueryPicksUptoSaid : Prop := queryPicksUptoRow.holds Try.pinned (OpenSpec.upto queryPicksSpec)

/-- 'cahierlaw20.QueryLimits', WHERE WHAT IT READS IS OF BULK AT MOST 1048576: true; the input reads as it did. -/
def queryLimitsUptoRow : OpenClaim := { program := "ytlhmencjhhpacaa", sum := "5fe564e528adbaa4bb3e883b81c8c805d95bf3210069022e81a8772d3654d81d", func := "cahier/cahierlaw20.QueryLimits", spec := "queryLimits", inPlace := ["internal/bytealg.abigen_runtime_cmpstring"], unfollowed := true, recurses := true, apart := false, narrowed := true }
def QueryLimitsUptoSaid : Prop := queryLimitsUptoRow.holds Try.pinned (OpenSpec.upto queryLimitsSpec)

/-- 'cahierlaw20.QueryPlans', WHERE WHAT IT READS IS OF BULK AT MOST 1048576: true; the input reads as it did. -/
def queryPlansUptoRow : OpenClaim := { program := "ytlhmencjhhpacaa", sum := "5fe564e528adbaa4bb3e883b81c8c805d95bf3210069022e81a8772d3654d81d", func := "cahier/cahierlaw20.QueryPlans", spec := "queryPlans", inPlace := ["internal/bytealg.abigen_runtime_cmpstring"], unfollowed := true, recurses := true, apart := false, narrowed := true }
def QueryPlansUptoSaid : Prop := queryPlansUptoRow.holds Try.pinned (OpenSpec.upto queryPlansSpec)

end Rows
end Go.Proofs.Ytlhmencjhhpacaa
