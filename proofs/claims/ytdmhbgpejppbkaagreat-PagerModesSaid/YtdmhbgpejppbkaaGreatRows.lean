/-
  No cell of these rows narrows 'for every input' (looked for: loops, veiled, ifaces, maps, wideKeys, modest, calm, conditions, laid).
  DERIVED. THE GIVEN ROWS OF THIS SEAT. 6 by the template 'for every input the law returns true; each argument reads behind the call as it read before'; 0 by the template 'total and deterministic' (their statements: YtdmhbgpejppbkaaGreatTotals.lean).
  GIVEN WITH THE SEED: the statements are not yours to turn. If you find one false, say at which input.
  Laid BY PROGRAM, IN A SANDBOX (cutbox-rows.mjs): the forced cells as the released guide's own fill.sh prints them over the translation 7eca80b015dbc9ac… (all of the seat's roots in one cut). By AI agents, Wed Nov 11 2026. No macro, syntax, notation, axiom, sorry.
-/
import Derived.Test.YtdmhbgpejppbkaaGreatChecked
import GoSem.Claim
import GoSem.ClaimJoined
import GoSem.ClaimMapViews
import Derived.JoinedTies
import Derived.KernelRfl
namespace Go.Proofs.YtdmhbgpejppbkaaGreat
/- THE CELL 'sum', in the pinned program and in every row, IS THE sha256 OF THE DUMP (.gsa) THAT YtdmhbgpejppbkaaGreatProg.lean LOADS. Nothing in Lean hashes anything: it is a label: what it is worth is what the hold of that sum in a sandbox is worth. -/
noncomputable def Tryz.pinned : Pinned := { name := "ytdmhbgpejppbkaagreat", sum := "7eca80b015dbc9ac8fb8f502600ea2092f290c296bf0a5f1a878e13523ab5329", checked := Tryz.checked }
namespace Rows
def none {H : Type} : Left H := { results := [], args := [] }

/-- 'cahierlaw15.PagerSizes': WHATEVER THE INPUT: true; the input reads as it did. -/
def pagerSizesSpec : ChangeSpec := { name := "pagerSizes", fn := fun _ => fun
  | [d1, d2, d3] => { results := [.lit (.bool true)], args := [d1, d2, d3] }
  | _ => none }
def pagerSizesRow : OpenClaim := { program := "ytdmhbgpejppbkaagreat", sum := "7eca80b015dbc9ac8fb8f502600ea2092f290c296bf0a5f1a878e13523ab5329", func := "cahier/cahierlaw15.PagerSizes", spec := "pagerSizes", inPlace := ["internal/abi.NoEscape", "internal/bytealg.MakeNoZero"], unfollowed := true, recurses := true, apart := false }
def PagerSizesSaid : Prop := pagerSizesRow.holds Tryz.pinned (OpenSpec.ofChange pagerSizesSpec)

/-- ITS FALSE NEIGHBOUR: 'it returns false'. Refute it at one input. -/
def pagerSizesWrong : ChangeSpec := { name := "pagerSizes", fn := fun _ => fun
  | [d1, d2, d3] => { results := [.lit (.bool false)], args := [d1, d2, d3] }
  | _ => none }
def PagerSizesWrongFalsely : Prop := pagerSizesRow.holds Tryz.pinned (OpenSpec.ofChange pagerSizesWrong)

/-- 'cahierlaw15.PagerModes': WHATEVER THE INPUT: true; the input reads as it did. -/
def pagerModesSpec : ChangeSpec := { name := "pagerModes", fn := fun _ => fun
  | [d1, d2] => { results := [.lit (.bool true)], args := [d1, d2] }
  | _ => none }
def pagerModesRow : OpenClaim := { program := "ytdmhbgpejppbkaagreat", sum := "7eca80b015dbc9ac8fb8f502600ea2092f290c296bf0a5f1a878e13523ab5329", func := "cahier/cahierlaw15.PagerModes", spec := "pagerModes", inPlace := ["internal/abi.NoEscape", "internal/bytealg.MakeNoZero"], unfollowed := true, recurses := true, apart := false }
def PagerModesSaid : Prop := pagerModesRow.holds Tryz.pinned (OpenSpec.ofChange pagerModesSpec)

/-- ITS FALSE NEIGHBOUR: 'it returns false'. Refute it at one input. -/
def pagerModesWrong : ChangeSpec := { name := "pagerModes", fn := fun _ => fun
  | [d1, d2] => { results := [.lit (.bool false)], args := [d1, d2] }
  | _ => none }
def PagerModesWrongFalsely : Prop := pagerModesRow.holds Tryz.pinned (OpenSpec.ofChange pagerModesWrong)

/-- 'cahierlaw15.PagerOver': WHATEVER THE INPUT: true; the input reads as it did. -/
def pagerOverSpec : ChangeSpec := { name := "pagerOver", fn := fun _ => fun
  | [d1, d2, d3] => { results := [.lit (.bool true)], args := [d1, d2, d3] }
  | _ => none }
def pagerOverRow : OpenClaim := { program := "ytdmhbgpejppbkaagreat", sum := "7eca80b015dbc9ac8fb8f502600ea2092f290c296bf0a5f1a878e13523ab5329", func := "cahier/cahierlaw15.PagerOver", spec := "pagerOver", inPlace := ["internal/abi.NoEscape", "internal/bytealg.MakeNoZero"], unfollowed := true, recurses := true, apart := false }
def PagerOverSaid : Prop := pagerOverRow.holds Tryz.pinned (OpenSpec.ofChange pagerOverSpec)

/-- ITS FALSE NEIGHBOUR: 'it returns false'. Refute it at one input. -/
def pagerOverWrong : ChangeSpec := { name := "pagerOver", fn := fun _ => fun
  | [d1, d2, d3] => { results := [.lit (.bool false)], args := [d1, d2, d3] }
  | _ => none }
def PagerOverWrongFalsely : Prop := pagerOverRow.holds Tryz.pinned (OpenSpec.ofChange pagerOverWrong)

/-- 'cahierlaw15.PagerFaults': WHATEVER THE INPUT: true; the input reads as it did. -/
def pagerFaultsSpec : ChangeSpec := { name := "pagerFaults", fn := fun _ => fun
  | [d1, d2, d3] => { results := [.lit (.bool true)], args := [d1, d2, d3] }
  | _ => none }
def pagerFaultsRow : OpenClaim := { program := "ytdmhbgpejppbkaagreat", sum := "7eca80b015dbc9ac8fb8f502600ea2092f290c296bf0a5f1a878e13523ab5329", func := "cahier/cahierlaw15.PagerFaults", spec := "pagerFaults", inPlace := ["internal/abi.NoEscape", "internal/bytealg.MakeNoZero"], unfollowed := true, recurses := true, apart := false }
def PagerFaultsSaid : Prop := pagerFaultsRow.holds Tryz.pinned (OpenSpec.ofChange pagerFaultsSpec)

/-- ITS FALSE NEIGHBOUR: 'it returns false'. Refute it at one input. -/
def pagerFaultsWrong : ChangeSpec := { name := "pagerFaults", fn := fun _ => fun
  | [d1, d2, d3] => { results := [.lit (.bool false)], args := [d1, d2, d3] }
  | _ => none }
def PagerFaultsWrongFalsely : Prop := pagerFaultsRow.holds Tryz.pinned (OpenSpec.ofChange pagerFaultsWrong)

/-- 'cahierlaw15.PagerBytes': WHATEVER THE INPUT: true; the input reads as it did. -/
def pagerBytesSpec : ChangeSpec := { name := "pagerBytes", fn := fun _ => fun
  | [d1, d2, d3] => { results := [.lit (.bool true)], args := [d1, d2, d3] }
  | _ => none }
def pagerBytesRow : OpenClaim := { program := "ytdmhbgpejppbkaagreat", sum := "7eca80b015dbc9ac8fb8f502600ea2092f290c296bf0a5f1a878e13523ab5329", func := "cahier/cahierlaw15.PagerBytes", spec := "pagerBytes", inPlace := ["internal/abi.NoEscape", "internal/bytealg.MakeNoZero"], unfollowed := true, recurses := true, apart := false }
def PagerBytesSaid : Prop := pagerBytesRow.holds Tryz.pinned (OpenSpec.ofChange pagerBytesSpec)

/-- ITS FALSE NEIGHBOUR: 'it returns false'. Refute it at one input. -/
def pagerBytesWrong : ChangeSpec := { name := "pagerBytes", fn := fun _ => fun
  | [d1, d2, d3] => { results := [.lit (.bool false)], args := [d1, d2, d3] }
  | _ => none }
def PagerBytesWrongFalsely : Prop := pagerBytesRow.holds Tryz.pinned (OpenSpec.ofChange pagerBytesWrong)

/-- 'cahierlaw15.PagerShelf': WHATEVER THE INPUT: true; the input reads as it did. -/
def pagerShelfSpec : ChangeSpec := { name := "pagerShelf", fn := fun _ => fun
  | [d1, d2] => { results := [.lit (.bool true)], args := [d1, d2] }
  | _ => none }
def pagerShelfRow : OpenClaim := { program := "ytdmhbgpejppbkaagreat", sum := "7eca80b015dbc9ac8fb8f502600ea2092f290c296bf0a5f1a878e13523ab5329", func := "cahier/cahierlaw15.PagerShelf", spec := "pagerShelf", inPlace := ["internal/abi.NoEscape", "internal/bytealg.MakeNoZero"], unfollowed := true, recurses := true, apart := false }
def PagerShelfSaid : Prop := pagerShelfRow.holds Tryz.pinned (OpenSpec.ofChange pagerShelfSpec)

/-- ITS FALSE NEIGHBOUR: 'it returns false'. Refute it at one input. -/
def pagerShelfWrong : ChangeSpec := { name := "pagerShelf", fn := fun _ => fun
  | [d1, d2] => { results := [.lit (.bool false)], args := [d1, d2] }
  | _ => none }
def PagerShelfWrongFalsely : Prop := pagerShelfRow.holds Tryz.pinned (OpenSpec.ofChange pagerShelfWrong)

/- THE SECOND FORM. 'bulk': how many values and letters a reading holds, each counted each time it is reached (what is shared counts as often as it is met; a slice's spare places count too). A statement '..UptoSaid' is the law's where the arguments, and the package variables that the reading takes, are together of bulk at most 1048576: NARROWER than '..Said'. Prove '..Said' where nothing that the law and all that it calls make is longer than what came in: it says more and counts as full. Else prove '..UptoSaid'. A law counts once. -/
mutual
def uptoBulk {H : Type} : DataW H → Nat
  | .lit (.string bytes) => bytes.length + 1
  | .lit _ => 1
  | .nil => 1
  | .ptr d => uptoBulk d + 1
  | .slice elems spare => uptoBulkAll elems + uptoBulkAll spare + 1
  | .agg parts => uptoBulkAll parts + 1
  | .iface _ d => uptoBulk d + 1
  | .map entries => uptoBulkEntries entries + 1
  | .held _ => 1
def uptoBulkAll {H : Type} : List (DataW H) → Nat
  | [] => 0
  | d :: r => uptoBulk d + uptoBulkAll r
def uptoBulkEntries {H : Type} : List (Lit × DataW H) → Nat
  | [] => 0
  | x :: r => uptoBulkEntry x + uptoBulkEntries r
def uptoBulkEntry {H : Type} : Lit × DataW H → Nat
  | (.string bytes, d) => bytes.length + uptoBulk d + 1
  | (_, d) => uptoBulk d + 1
 end
def uptoSmall : (H : Type) → List (DataW H) → Bool := fun _ ds => decide (uptoBulkAll ds ≤ 1048576)
def OpenSpec.upto (s : _root_.Go.ChangeSpec) : _root_.Go.OpenSpec := { _root_.Go.OpenSpec.ofChange s with cond := some uptoSmall }

/-- 'cahierlaw15.PagerSizes', WHERE WHAT IT READS IS OF BULK AT MOST 1048576: true; the input reads as it did. -/
def pagerSizesUptoRow : OpenClaim := { program := "ytdmhbgpejppbkaagreat", sum := "7eca80b015dbc9ac8fb8f502600ea2092f290c296bf0a5f1a878e13523ab5329", func := "cahier/cahierlaw15.PagerSizes", spec := "pagerSizes", inPlace := ["internal/abi.NoEscape", "internal/bytealg.MakeNoZero"], unfollowed := true, recurses := true, apart := false, narrowed := true }
def PagerSizesUptoSaid : Prop := pagerSizesUptoRow.holds Tryz.pinned (OpenSpec.upto pagerSizesSpec)

/-- 'cahierlaw15.PagerModes', WHERE WHAT IT READS IS OF BULK AT MOST 1048576: true; the input reads as it did. -/
def pagerModesUptoRow : OpenClaim := { program := "ytdmhbgpejppbkaagreat", sum := "7eca80b015dbc9ac8fb8f502600ea2092f290c296bf0a5f1a878e13523ab5329", func := "cahier/cahierlaw15.PagerModes", spec := "pagerModes", inPlace := ["internal/abi.NoEscape", "internal/bytealg.MakeNoZero"], unfollowed := true, recurses := true, apart := false, narrowed := true }
def PagerModesUptoSaid : Prop := pagerModesUptoRow.holds Tryz.pinned (OpenSpec.upto pagerModesSpec)

/-- 'cahierlaw15.PagerOver', WHERE WHAT IT READS IS OF BULK AT MOST 1048576: true; the input reads as it did. -/
def pagerOverUptoRow : OpenClaim := { program := "ytdmhbgpejppbkaagreat", sum := "7eca80b015dbc9ac8fb8f502600ea2092f290c296bf0a5f1a878e13523ab5329", func := "cahier/cahierlaw15.PagerOver", spec := "pagerOver", inPlace := ["internal/abi.NoEscape", "internal/bytealg.MakeNoZero"], unfollowed := true, recurses := true, apart := false, narrowed := true }
def PagerOverUptoSaid : Prop := pagerOverUptoRow.holds Tryz.pinned (OpenSpec.upto pagerOverSpec)

/-- 'cahierlaw15.PagerFaults', WHERE WHAT IT READS IS OF BULK AT MOST 1048576: true; the input reads as it did. -/
def pagerFaultsUptoRow : OpenClaim := { program := "ytdmhbgpejppbkaagreat", sum := "7eca80b015dbc9ac8fb8f502600ea2092f290c296bf0a5f1a878e13523ab5329", func := "cahier/cahierlaw15.PagerFaults", spec := "pagerFaults", inPlace := ["internal/abi.NoEscape", "internal/bytealg.MakeNoZero"], unfollowed := true, recurses := true, apart := false, narrowed := true }
def PagerFaultsUptoSaid : Prop := pagerFaultsUptoRow.holds Tryz.pinned (OpenSpec.upto pagerFaultsSpec)

/-- 'cahierlaw15.PagerBytes', WHERE WHAT IT READS IS OF BULK AT MOST 1048576: true; the input reads as it did. -/
def pagerBytesUptoRow : OpenClaim := { program := "ytdmhbgpejppbkaagreat", sum := "7eca80b015dbc9ac8fb8f502600ea2092f290c296bf0a5f1a878e13523ab5329", func := "cahier/cahierlaw15.PagerBytes", spec := "pagerBytes", inPlace := ["internal/abi.NoEscape", "internal/bytealg.MakeNoZero"], unfollowed := true, recurses := true, apart := false, narrowed := true }
def PagerBytesUptoSaid : Prop := pagerBytesUptoRow.holds Tryz.pinned (OpenSpec.upto pagerBytesSpec)

/-- 'cahierlaw15.PagerShelf', WHERE WHAT IT READS IS OF BULK AT MOST 1048576: true; the input reads as it did. -/
def pagerShelfUptoRow : OpenClaim := { program := "ytdmhbgpejppbkaagreat", sum := "7eca80b015dbc9ac8fb8f502600ea2092f290c296bf0a5f1a878e13523ab5329", func := "cahier/cahierlaw15.PagerShelf", spec := "pagerShelf", inPlace := ["internal/abi.NoEscape", "internal/bytealg.MakeNoZero"], unfollowed := true, recurses := true, apart := false, narrowed := true }
def PagerShelfUptoSaid : Prop := pagerShelfUptoRow.holds Tryz.pinned (OpenSpec.upto pagerShelfSpec)

end Rows
end Go.Proofs.YtdmhbgpejppbkaaGreat
