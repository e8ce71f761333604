/-
  No cell of these rows narrows 'for every input' (looked for: loops, veiled, ifaces, maps, wideKeys, modest, calm, conditions, laid).
  DERIVED. THE GIVEN ROWS OF THIS SEAT. 3 by the template 'for every input the law returns true; each argument reads behind the call as it read before'; 0 by the template 'total and deterministic' (their statements: YtpcnacknlgmmlaaGreatTotals.lean).
  GIVEN WITH THE SEED: the statements are not yours to turn. If you find one false, say at which input.
  Laid BY PROGRAM, IN A SANDBOX (cutbox-rows.mjs): the forced cells as the released guide's own fill.sh prints them over the translation fade3c5680b5827c… (all of the seat's roots in one cut). By AI agents, Wed Nov 11 2026. No macro, syntax, notation, axiom, sorry.
-/
import Derived.Test.YtpcnacknlgmmlaaGreatChecked
import GoSem.Claim
import GoSem.ClaimJoined
import GoSem.ClaimMapViews
import Derived.JoinedTies
import Derived.KernelRfl
namespace Go.Proofs.YtpcnacknlgmmlaaGreat
/- THE CELL 'sum', in the pinned program and in every row, IS THE sha256 OF THE DUMP (.gsa) THAT YtpcnacknlgmmlaaGreatProg.lean LOADS. Nothing in Lean hashes anything: it is a label: what it is worth is what the hold of that sum in a sandbox is worth. -/
noncomputable def Tryz.pinned : Pinned := { name := "ytpcnacknlgmmlaagreat", sum := "fade3c5680b5827c435d529add996cdf19e1a64063a46ede624c25d46e4a1a22", checked := Tryz.checked }
namespace Rows
def none {H : Type} : Left H := { results := [], args := [] }

/-- 'milepostlaw52.ConfigDecodes': WHATEVER THE INPUT: true; the input reads as it did. -/
def configDecodesSpec : ChangeSpec := { name := "configDecodes", fn := fun _ => fun
  | [d] => { results := [.lit (.bool true)], args := [d] }
  | _ => none }
def configDecodesRow : OpenClaim := { program := "ytpcnacknlgmmlaagreat", sum := "fade3c5680b5827c435d529add996cdf19e1a64063a46ede624c25d46e4a1a22", func := "milepost/milepostlaw52.ConfigDecodes", spec := "configDecodes", inPlace := ["internal/abi.NoEscape", "internal/bytealg.MakeNoZero"], unfollowed := true, recurses := true, plainKeys := false, apart := false }
def ConfigDecodesSaid : Prop := configDecodesRow.holds Tryz.pinned (OpenSpec.ofChange configDecodesSpec)

/-- ITS FALSE NEIGHBOUR: 'it returns false'. Refute it at one input. -/
def configDecodesWrong : ChangeSpec := { name := "configDecodes", fn := fun _ => fun
  | [d] => { results := [.lit (.bool false)], args := [d] }
  | _ => none }
def ConfigDecodesWrongFalsely : Prop := configDecodesRow.holds Tryz.pinned (OpenSpec.ofChange configDecodesWrong)

/-- 'milepostlaw52.ConfigChecks': WHATEVER THE INPUT: true; the input reads as it did. -/
def configChecksSpec : ChangeSpec := { name := "configChecks", fn := fun _ => fun
  | [d] => { results := [.lit (.bool true)], args := [d] }
  | _ => none }
def configChecksRow : OpenClaim := { program := "ytpcnacknlgmmlaagreat", sum := "fade3c5680b5827c435d529add996cdf19e1a64063a46ede624c25d46e4a1a22", func := "milepost/milepostlaw52.ConfigChecks", spec := "configChecks", inPlace := ["internal/abi.NoEscape", "internal/bytealg.MakeNoZero"], unfollowed := true, recurses := true, plainKeys := false, apart := false }
def ConfigChecksSaid : Prop := configChecksRow.holds Tryz.pinned (OpenSpec.ofChange configChecksSpec)

/-- ITS FALSE NEIGHBOUR: 'it returns false'. Refute it at one input. -/
def configChecksWrong : ChangeSpec := { name := "configChecks", fn := fun _ => fun
  | [d] => { results := [.lit (.bool false)], args := [d] }
  | _ => none }
def ConfigChecksWrongFalsely : Prop := configChecksRow.holds Tryz.pinned (OpenSpec.ofChange configChecksWrong)

/-- 'milepostlaw28.ForksNone': WHATEVER THE INPUT: true; the input reads as it did. -/
def forksNoneSpec : ChangeSpec := { name := "forksNone", fn := fun _ => fun
  | [d1, d2, d3] => { results := [.lit (.bool true)], args := [d1, d2, d3] }
  | _ => none }
def forksNoneRow : OpenClaim := { program := "ytpcnacknlgmmlaagreat", sum := "fade3c5680b5827c435d529add996cdf19e1a64063a46ede624c25d46e4a1a22", func := "milepost/milepostlaw28.ForksNone", spec := "forksNone", inPlace := ["internal/abi.NoEscape", "internal/bytealg.MakeNoZero"], unfollowed := true, recurses := true, plainKeys := false, apart := false }
def ForksNoneSaid : Prop := forksNoneRow.holds Tryz.pinned (OpenSpec.ofChange forksNoneSpec)

/-- ITS FALSE NEIGHBOUR: 'it returns false'. Refute it at one input. -/
def forksNoneWrong : ChangeSpec := { name := "forksNone", fn := fun _ => fun
  | [d1, d2, d3] => { results := [.lit (.bool false)], args := [d1, d2, d3] }
  | _ => none }
def ForksNoneWrongFalsely : Prop := forksNoneRow.holds Tryz.pinned (OpenSpec.ofChange forksNoneWrong)

/- THE SECOND FORM. 'bulk': how many values and letters a reading holds, each counted each time it is reached (what is shared counts as often as it is met; a slice's spare places count too). A statement '..UptoSaid' is the law's where the arguments, and the package variables that the reading takes, are together of bulk at most 1048576: NARROWER than '..Said'. Prove '..Said' where nothing that the law and all that it calls make is longer than what came in: it says more and counts as full. Else prove '..UptoSaid'. A law counts once. -/
mutual
def uptoBulk {H : Type} : DataW H → Nat
  | .lit (.string bytes) => bytes.length + 1
  | .lit _ => 1
  | .nil => 1
  | .ptr d => uptoBulk d + 1
  | .slice elems spare => uptoBulkAll elems + uptoBulkAll spare + 1
  | .agg parts => uptoBulkAll parts + 1
  | .iface _ d => uptoBulk d + 1
  | .map entries => uptoBulkEntries entries + 1
  | .held _ => 1
def uptoBulkAll {H : Type} : List (DataW H) → Nat
  | [] => 0
  | d :: r => uptoBulk d + uptoBulkAll r
def uptoBulkEntries {H : Type} : List (Lit × DataW H) → Nat
  | [] => 0
  | x :: r => uptoBulkEntry x + uptoBulkEntries r
def uptoBulkEntry {H : Type} : Lit × DataW H → Nat
  | (.string bytes, d) => bytes.length + uptoBulk d + 1
  | (_, d) => uptoBulk d + 1
 end
def uptoSmall : (H : Type) → List (DataW H) → Bool := fun _ ds => decide (uptoBulkAll ds ≤ 1048576)
def OpenSpec.upto (s : _root_.Go.ChangeSpec) : _root_.Go.OpenSpec := { _root_.Go.OpenSpec.ofChange s with cond := some uptoSmall }

/-- 'milepostlaw52.ConfigDecodes', WHERE WHAT IT READS IS OF BULK AT MOST 1048576: true; the input reads as it did. -/
def configDecodesUptoRow : OpenClaim := { program := "ytpcnacknlgmmlaagreat", sum := "fade3c5680b5827c435d529add996cdf19e1a64063a46ede624c25d46e4a1a22", func := "milepost/milepostlaw52.ConfigDecodes", spec := "configDecodes", inPlace := ["internal/abi.NoEscape", "internal/bytealg.MakeNoZero"], unfollowed := true, recurses := true, plainKeys := false, apart := false, narrowed := true }
def ConfigDecodesUptoSaid : Prop := configDecodesUptoRow.holds Tryz.pinned (OpenSpec.upto configDecodesSpec)

/-- 'milepostlaw52.ConfigChecks', WHERE WHAT IT READS IS OF BULK AT MOST 1048576: true; the input reads as it did. -/
def configChecksUptoRow : OpenClaim := { program := "ytpcnacknlgmmlaagreat", sum := "fade3c5680b5827c435d529add996cdf19e1a64063a46ede624c25d46e4a1a22", func := "milepost/milepostlaw52.ConfigChecks", spec := "configChecks", inPlace := ["internal/abi.NoEscape", "internal/bytealg.MakeNoZero"], unfollowed := true, recurses := true, plainKeys := false, apart := false, narrowed := true }
def ConfigChecksUptoSaid : Prop := configChecksUptoRow.holds Tryz.pinned (OpenSpec.upto configChecksSpec)

/-- 'milepostlaw28.ForksNone', WHERE WHAT IT READS IS OF BULK AT MOST 1048576: true; the input reads as it did. -/
def forksNoneUptoRow : OpenClaim := { program := "ytpcnacknlgmmlaagreat", sum := "fade3c5680b5827c435d529add996cdf19e1a64063a46ede624c25d46e4a1a22", func := "milepost/milepostlaw28.ForksNone", spec := "forksNone", inPlace := ["internal/abi.NoEscape", "internal/bytealg.MakeNoZero"], unfollowed := true, recurses := true, plainKeys := false, apart := false, narrowed := true }
def ForksNoneUptoSaid : Prop := forksNoneUptoRow.holds Tryz.pinned (OpenSpec.upto forksNoneSpec)

end Rows
end Go.Proofs.YtpcnacknlgmmlaaGreat
