/-
  No cell of these rows narrows 'for every input' (looked for: loops, veiled, ifaces, maps, wideKeys, modest, calm, conditions, laid).
  DERIVED. THE GIVEN ROWS OF THIS SEAT. 11 by the template 'for every input the law returns true; each argument reads behind the call as it read before'; 0 by the template 'total and deterministic' (their statements: YtahcfdbjookojaaTotals.lean).
  GIVEN WITH THE SEED: the statements are not yours to turn. If you find one false, say at which input.
  Laid BY PROGRAM, IN A SANDBOX (cutbox-rows.mjs): the forced cells as the released guide's own fill.sh prints them over the translation 2136a484ba51aa32… (all of the seat's roots in one cut). By AI agents, Wed Nov 11 2026. No macro, syntax, notation, axiom, sorry.
-/
import Derived.Test.YtahcfdbjookojaaChecked
import GoSem.Claim
import GoSem.ClaimJoined
import GoSem.ClaimMapViews
import Derived.JoinedTies
import Derived.KernelRfl
namespace Go.Proofs.Ytahcfdbjookojaa
/- THE CELL 'sum', in the pinned program and in every row, IS THE sha256 OF THE DUMP (.gsa) THAT YtahcfdbjookojaaProg.lean LOADS. Nothing in Lean hashes anything: it is a label: what it is worth is what the hold of that sum in a sandbox is worth. -/
noncomputable def Try.pinned : Pinned := { name := "ytahcfdbjookojaa", sum := "2136a484ba51aa32247ffbf350c6d5ab5d3d001ff53ee6bfefe528fe7c2f9c41", checked := Try.checked }
namespace Rows
def none {H : Type} : Left H := { results := [], args := [] }

/-- 'milepostlaw03.TagApart': WHATEVER THE INPUT: true; the input reads as it did. -/
def tagApartSpec : ChangeSpec := { name := "tagApart", fn := fun _ => fun
  | [d1, d2, d3] => { results := [.lit (.bool true)], args := [d1, d2, d3] }
  | _ => none }
def tagApartRow : OpenClaim := { program := "ytahcfdbjookojaa", sum := "2136a484ba51aa32247ffbf350c6d5ab5d3d001ff53ee6bfefe528fe7c2f9c41", func := "milepost/milepostlaw03.TagApart", spec := "tagApart", inPlace := ["internal/abi.NoEscape", "internal/bytealg.MakeNoZero"], apart := false }
def TagApartSaid : Prop := tagApartRow.holds Try.pinned (OpenSpec.ofChange tagApartSpec)

/-- ITS FALSE NEIGHBOUR: 'it returns false'. Refute it at one input. -/
def tagApartWrong : ChangeSpec := { name := "tagApart", fn := fun _ => fun
  | [d1, d2, d3] => { results := [.lit (.bool false)], args := [d1, d2, d3] }
  | _ => none }
def TagApartWrongFalsely : Prop := tagApartRow.holds Try.pinned (OpenSpec.ofChange tagApartWrong)

/-- 'milepostlaw02.ShaSums': WHATEVER THE INPUT: true; the input reads as it did. -/
def shaSumsSpec : ChangeSpec := { name := "shaSums", fn := fun _ => fun
  | [d] => { results := [.lit (.bool true)], args := [d] }
  | _ => none }
def shaSumsRow : OpenClaim := { program := "ytahcfdbjookojaa", sum := "2136a484ba51aa32247ffbf350c6d5ab5d3d001ff53ee6bfefe528fe7c2f9c41", func := "milepost/milepostlaw02.ShaSums", spec := "shaSums", inPlace := ["internal/abi.NoEscape", "internal/bytealg.MakeNoZero"], apart := false }
def ShaSumsSaid : Prop := shaSumsRow.holds Try.pinned (OpenSpec.ofChange shaSumsSpec)

/-- ITS FALSE NEIGHBOUR: 'it returns false'. Refute it at one input. -/
def shaSumsWrong : ChangeSpec := { name := "shaSums", fn := fun _ => fun
  | [d] => { results := [.lit (.bool false)], args := [d] }
  | _ => none }
def ShaSumsWrongFalsely : Prop := shaSumsRow.holds Try.pinned (OpenSpec.ofChange shaSumsWrong)

/-- 'milepostlaw02.ShaBlocks': WHATEVER THE INPUT: true; the input reads as it did. -/
def shaBlocksSpec : ChangeSpec := { name := "shaBlocks", fn := fun _ => fun
  | [d1, d2] => { results := [.lit (.bool true)], args := [d1, d2] }
  | _ => none }
def shaBlocksRow : OpenClaim := { program := "ytahcfdbjookojaa", sum := "2136a484ba51aa32247ffbf350c6d5ab5d3d001ff53ee6bfefe528fe7c2f9c41", func := "milepost/milepostlaw02.ShaBlocks", spec := "shaBlocks", inPlace := ["internal/abi.NoEscape", "internal/bytealg.MakeNoZero"], apart := false }
def ShaBlocksSaid : Prop := shaBlocksRow.holds Try.pinned (OpenSpec.ofChange shaBlocksSpec)

/-- ITS FALSE NEIGHBOUR: 'it returns false'. Refute it at one input. -/
def shaBlocksWrong : ChangeSpec := { name := "shaBlocks", fn := fun _ => fun
  | [d1, d2] => { results := [.lit (.bool false)], args := [d1, d2] }
  | _ => none }
def ShaBlocksWrongFalsely : Prop := shaBlocksRow.holds Try.pinned (OpenSpec.ofChange shaBlocksWrong)

/-- 'milepostlaw02.ShaRoots': WHATEVER THE INPUT: true; the input reads as it did. -/
def shaRootsSpec : ChangeSpec := { name := "shaRoots", fn := fun _ => fun
  | [d] => { results := [.lit (.bool true)], args := [d] }
  | _ => none }
def shaRootsRow : OpenClaim := { program := "ytahcfdbjookojaa", sum := "2136a484ba51aa32247ffbf350c6d5ab5d3d001ff53ee6bfefe528fe7c2f9c41", func := "milepost/milepostlaw02.ShaRoots", spec := "shaRoots", inPlace := ["internal/abi.NoEscape", "internal/bytealg.MakeNoZero"], apart := false }
def ShaRootsSaid : Prop := shaRootsRow.holds Try.pinned (OpenSpec.ofChange shaRootsSpec)

/-- ITS FALSE NEIGHBOUR: 'it returns false'. Refute it at one input. -/
def shaRootsWrong : ChangeSpec := { name := "shaRoots", fn := fun _ => fun
  | [d] => { results := [.lit (.bool false)], args := [d] }
  | _ => none }
def ShaRootsWrongFalsely : Prop := shaRootsRow.holds Try.pinned (OpenSpec.ofChange shaRootsWrong)

/-- 'milepostlaw02.ShaPads': WHATEVER THE INPUT: true; the input reads as it did. -/
def shaPadsSpec : ChangeSpec := { name := "shaPads", fn := fun _ => fun
  | [d] => { results := [.lit (.bool true)], args := [d] }
  | _ => none }
def shaPadsRow : OpenClaim := { program := "ytahcfdbjookojaa", sum := "2136a484ba51aa32247ffbf350c6d5ab5d3d001ff53ee6bfefe528fe7c2f9c41", func := "milepost/milepostlaw02.ShaPads", spec := "shaPads", inPlace := ["internal/abi.NoEscape", "internal/bytealg.MakeNoZero"], apart := false }
def ShaPadsSaid : Prop := shaPadsRow.holds Try.pinned (OpenSpec.ofChange shaPadsSpec)

/-- ITS FALSE NEIGHBOUR: 'it returns false'. Refute it at one input. -/
def shaPadsWrong : ChangeSpec := { name := "shaPads", fn := fun _ => fun
  | [d] => { results := [.lit (.bool false)], args := [d] }
  | _ => none }
def ShaPadsWrongFalsely : Prop := shaPadsRow.holds Try.pinned (OpenSpec.ofChange shaPadsWrong)

/-- 'milepostlaw02.ShaWrites': WHATEVER THE INPUT: true; the input reads as it did. -/
def shaWritesSpec : ChangeSpec := { name := "shaWrites", fn := fun _ => fun
  | [d] => { results := [.lit (.bool true)], args := [d] }
  | _ => none }
def shaWritesRow : OpenClaim := { program := "ytahcfdbjookojaa", sum := "2136a484ba51aa32247ffbf350c6d5ab5d3d001ff53ee6bfefe528fe7c2f9c41", func := "milepost/milepostlaw02.ShaWrites", spec := "shaWrites", inPlace := ["internal/abi.NoEscape", "internal/bytealg.MakeNoZero"], apart := false }
def ShaWritesSaid : Prop := shaWritesRow.holds Try.pinned (OpenSpec.ofChange shaWritesSpec)

/-- ITS FALSE NEIGHBOUR: 'it returns false'. Refute it at one input. -/
def shaWritesWrong : ChangeSpec := { name := "shaWrites", fn := fun _ => fun
  | [d] => { results := [.lit (.bool false)], args := [d] }
  | _ => none }
def ShaWritesWrongFalsely : Prop := shaWritesRow.holds Try.pinned (OpenSpec.ofChange shaWritesWrong)

/-- 'milepostlaw02.ShaPieces': WHATEVER THE INPUT: true; the input reads as it did. -/
def shaPiecesSpec : ChangeSpec := { name := "shaPieces", fn := fun _ => fun
  | [d1, d2] => { results := [.lit (.bool true)], args := [d1, d2] }
  | _ => none }
def shaPiecesRow : OpenClaim := { program := "ytahcfdbjookojaa", sum := "2136a484ba51aa32247ffbf350c6d5ab5d3d001ff53ee6bfefe528fe7c2f9c41", func := "milepost/milepostlaw02.ShaPieces", spec := "shaPieces", inPlace := ["internal/abi.NoEscape", "internal/bytealg.MakeNoZero"], apart := false }
def ShaPiecesSaid : Prop := shaPiecesRow.holds Try.pinned (OpenSpec.ofChange shaPiecesSpec)

/-- ITS FALSE NEIGHBOUR: 'it returns false'. Refute it at one input. -/
def shaPiecesWrong : ChangeSpec := { name := "shaPieces", fn := fun _ => fun
  | [d1, d2] => { results := [.lit (.bool false)], args := [d1, d2] }
  | _ => none }
def ShaPiecesWrongFalsely : Prop := shaPiecesRow.holds Try.pinned (OpenSpec.ofChange shaPiecesWrong)

/-- 'milepostlaw03.TagSums': WHATEVER THE INPUT: true; the input reads as it did. -/
def tagSumsSpec : ChangeSpec := { name := "tagSums", fn := fun _ => fun
  | [d1, d2, d3] => { results := [.lit (.bool true)], args := [d1, d2, d3] }
  | _ => none }
def tagSumsRow : OpenClaim := { program := "ytahcfdbjookojaa", sum := "2136a484ba51aa32247ffbf350c6d5ab5d3d001ff53ee6bfefe528fe7c2f9c41", func := "milepost/milepostlaw03.TagSums", spec := "tagSums", inPlace := ["internal/abi.NoEscape", "internal/bytealg.MakeNoZero"], apart := false }
def TagSumsSaid : Prop := tagSumsRow.holds Try.pinned (OpenSpec.ofChange tagSumsSpec)

/-- ITS FALSE NEIGHBOUR: 'it returns false'. Refute it at one input. -/
def tagSumsWrong : ChangeSpec := { name := "tagSums", fn := fun _ => fun
  | [d1, d2, d3] => { results := [.lit (.bool false)], args := [d1, d2, d3] }
  | _ => none }
def TagSumsWrongFalsely : Prop := tagSumsRow.holds Try.pinned (OpenSpec.ofChange tagSumsWrong)

/-- 'milepostlaw18.IdentIds': WHATEVER THE INPUT: true; the input reads as it did. -/
def identIdsSpec : ChangeSpec := { name := "identIds", fn := fun _ => fun
  | [d] => { results := [.lit (.bool true)], args := [d] }
  | _ => none }
def identIdsRow : OpenClaim := { program := "ytahcfdbjookojaa", sum := "2136a484ba51aa32247ffbf350c6d5ab5d3d001ff53ee6bfefe528fe7c2f9c41", func := "milepost/milepostlaw18.IdentIds", spec := "identIds", inPlace := ["internal/abi.NoEscape", "internal/bytealg.MakeNoZero"], apart := false }
def IdentIdsSaid : Prop := identIdsRow.holds Try.pinned (OpenSpec.ofChange identIdsSpec)

/-- ITS FALSE NEIGHBOUR: 'it returns false'. Refute it at one input. -/
def identIdsWrong : ChangeSpec := { name := "identIds", fn := fun _ => fun
  | [d] => { results := [.lit (.bool false)], args := [d] }
  | _ => none }
def IdentIdsWrongFalsely : Prop := identIdsRow.holds Try.pinned (OpenSpec.ofChange identIdsWrong)

/-- 'milepostlaw18.IdentFirst': WHATEVER THE INPUT: true; the input reads as it did. -/
def identFirstSpec : ChangeSpec := { name := "identFirst", fn := fun _ => fun
  | [d1, d2] => { results := [.lit (.bool true)], args := [d1, d2] }
  | _ => none }
def identFirstRow : OpenClaim := { program := "ytahcfdbjookojaa", sum := "2136a484ba51aa32247ffbf350c6d5ab5d3d001ff53ee6bfefe528fe7c2f9c41", func := "milepost/milepostlaw18.IdentFirst", spec := "identFirst", inPlace := ["internal/abi.NoEscape", "internal/bytealg.MakeNoZero"], apart := false }
def IdentFirstSaid : Prop := identFirstRow.holds Try.pinned (OpenSpec.ofChange identFirstSpec)

/-- ITS FALSE NEIGHBOUR: 'it returns false'. Refute it at one input. -/
def identFirstWrong : ChangeSpec := { name := "identFirst", fn := fun _ => fun
  | [d1, d2] => { results := [.lit (.bool false)], args := [d1, d2] }
  | _ => none }
def IdentFirstWrongFalsely : Prop := identFirstRow.holds Try.pinned (OpenSpec.ofChange identFirstWrong)

/-- 'milepostlaw18.IdentApart': WHATEVER THE INPUT: true; the input reads as it did. -/
def identApartSpec : ChangeSpec := { name := "identApart", fn := fun _ => fun
  | [d1, d2] => { results := [.lit (.bool true)], args := [d1, d2] }
  | _ => none }
def identApartRow : OpenClaim := { program := "ytahcfdbjookojaa", sum := "2136a484ba51aa32247ffbf350c6d5ab5d3d001ff53ee6bfefe528fe7c2f9c41", func := "milepost/milepostlaw18.IdentApart", spec := "identApart", inPlace := ["internal/abi.NoEscape", "internal/bytealg.MakeNoZero"], apart := false }
def IdentApartSaid : Prop := identApartRow.holds Try.pinned (OpenSpec.ofChange identApartSpec)

/-- ITS FALSE NEIGHBOUR: 'it returns false'. Refute it at one input. -/
def identApartWrong : ChangeSpec := { name := "identApart", fn := fun _ => fun
  | [d1, d2] => { results := [.lit (.bool false)], args := [d1, d2] }
  | _ => none }
def IdentApartWrongFalsely : Prop := identApartRow.holds Try.pinned (OpenSpec.ofChange identApartWrong)

/- THE SECOND FORM. 'bulk': how many values and letters a reading holds, each counted each time it is reached (what is shared counts as often as it is met; a slice's spare places count too). A statement '..UptoSaid' is the law's where the arguments, and the package variables that the reading takes, are together of bulk at most 1048576: NARROWER than '..Said'. Prove '..Said' where nothing that the law and all that it calls make is longer than what came in: it says more and counts as full. Else prove '..UptoSaid'. A law counts once. -/
mutual
def uptoBulk {H : Type} : DataW H → Nat
  | .lit (.string bytes) => bytes.length + 1
  | .lit _ => 1
  | .nil => 1
  | .ptr d => uptoBulk d + 1
  | .slice elems spare => uptoBulkAll elems + uptoBulkAll spare + 1
  | .agg parts => uptoBulkAll parts + 1
  | .iface _ d => uptoBulk d + 1
  | .map entries => uptoBulkEntries entries + 1
  | .held _ => 1
def uptoBulkAll {H : Type} : List (DataW H) → Nat
  | [] => 0
  | d :: r => uptoBulk d + uptoBulkAll r
def uptoBulkEntries {H : Type} : List (Lit × DataW H) → Nat
  | [] => 0
  | x :: r => uptoBulkEntry x + uptoBulkEntries r
def uptoBulkEntry {H : Type} : Lit × DataW H → Nat
  | (.string bytes, d) => bytes.length + uptoBulk d + 1
  | (_, d) => uptoBulk d + 1
 end
def uptoSmall : (H : Type) → List (DataW H) → Bool := fun _ ds => decide (uptoBulkAll ds ≤ 1048576)
def OpenSpec.upto (s : _root_.Go.ChangeSpec) : _root_.Go.OpenSpec := { _root_.Go.OpenSpec.ofChange s with cond := some uptoSmall }

/-- 'milepostlaw03.TagApart', WHERE WHAT IT READS IS OF BULK AT MOST 1048576: true; the input reads as it did. -/
def tagApartUptoRow : OpenClaim := { program := "ytahcfdbjookojaa", sum := "2136a484ba51aa32247ffbf350c6d5ab5d3d001ff53ee6bfefe528fe7c2f9c41", func := "milepost/milepostlaw03.TagApart", spec := "tagApart", inPlace := ["internal/abi.NoEscape", "internal/bytealg.MakeNoZero"], apart := false, narrowed := true }
def TagApartUptoSaid : Prop := tagApartUptoRow.holds Try.pinned (OpenSpec.upto tagApartSpec)

/-- 'milepostlaw02.ShaSums', WHERE WHAT IT READS IS OF BULK AT MOST 1048576: true; the input reads as it did. -/
def shaSumsUptoRow : OpenClaim := { program := "ytahcfdbjookojaa", sum := "2136a484ba51aa32247ffbf350c6d5ab5d3d001ff53ee6bfefe528fe7c2f9c41", func := "milepost/milepostlaw02.ShaSums", spec := "shaSums", inPlace := ["internal/abi.NoEscape", "internal/bytealg.MakeNoZero"], apart := false, narrowed := true }
def ShaSumsUptoSaid : Prop := shaSumsUptoRow.holds Try.pinned (OpenSpec.upto shaSumsSpec)

/-- 'milepostlaw02.ShaBlocks', WHERE WHAT IT READS IS OF BULK AT MOST 1048576: true; the input reads as it did. -/
def shaBlocksUptoRow : OpenClaim := { program := "ytahcfdbjookojaa", sum := "2136a484ba51aa32247ffbf350c6d5ab5d3d001ff53ee6bfefe528fe7c2f9c41", func := "milepost/milepostlaw02.ShaBlocks", spec := "shaBlocks", inPlace := ["internal/abi.NoEscape", "internal/bytealg.MakeNoZero"], apart := false, narrowed := true }
def ShaBlocksUptoSaid : Prop := shaBlocksUptoRow.holds Try.pinned (OpenSpec.upto shaBlocksSpec)

/-- 'milepostlaw02.ShaRoots', WHERE WHAT IT READS IS OF BULK AT MOST 1048576: true; the input reads as it did. -/
def shaRootsUptoRow : OpenClaim := { program := "ytahcfdbjookojaa", sum := "2136a484ba51aa32247ffbf350c6d5ab5d3d001ff53ee6bfefe528fe7c2f9c41", func := "milepost/milepostlaw02.ShaRoots", spec := "shaRoots", inPlace := ["internal/abi.NoEscape", "internal/bytealg.MakeNoZero"], apart := false, narrowed := true }
def ShaRootsUptoSaid : Prop := shaRootsUptoRow.holds Try.pinned (OpenSpec.upto shaRootsSpec)

/-- 'milepostlaw02.ShaPads', WHERE WHAT IT READS IS OF BULK AT MOST 1048576: true; the input reads as it did. -/
def shaPadsUptoRow : OpenClaim := { program := "ytahcfdbjookojaa", sum := "2136a484ba51aa32247ffbf350c6d5ab5d3d001ff53ee6bfefe528fe7c2f9c41", func := "milepost/milepostlaw02.ShaPads", spec := "shaPads", inPlace := ["internal/abi.NoEscape", "internal/bytealg.MakeNoZero"], apart := false, narrowed := true }
def ShaPadsUptoSaid : Prop := shaPadsUptoRow.holds Try.pinned (OpenSpec.upto shaPadsSpec)

/-- 'milepostlaw02.ShaWrites', WHERE WHAT IT READS IS OF BULK AT MOST 1048576: true; the input reads as it did. -/
def shaWritesUptoRow : OpenClaim := { program := "ytahcfdbjookojaa", sum := "2136a484ba51aa32247ffbf350c6d5ab5d3d001ff53ee6bfefe528fe7c2f9c41", func := "milepost/milepostlaw02.ShaWrites", spec := "shaWrites", inPlace := ["internal/abi.NoEscape", "internal/bytealg.MakeNoZero"], apart := false, narrowed := true }
def ShaWritesUptoSaid : Prop := shaWritesUptoRow.holds Try.pinned (OpenSpec.upto shaWritesSpec)

/-- 'milepostlaw02.ShaPieces', WHERE WHAT IT READS IS OF BULK AT MOST 1048576: true; the input reads as it did. -/
def shaPiecesUptoRow : OpenClaim := { program := "ytahcfdbjookojaa", sum := "2136a484ba51aa32247ffbf350c6d5ab5d3d001ff53ee6bfefe528fe7c2f9c41", func := "milepost/milepostlaw02.ShaPieces", spec := "shaPieces", inPlace := ["internal/abi.NoEscape", "internal/bytealg.MakeNoZero"], apart := false, narrowed := true }
def ShaPiecesUptoSaid : Prop := shaPiecesUptoRow.holds Try.pinned (OpenSpec.upto shaPiecesSpec)

/-- 'milepostlaw03.TagSums', WHERE WHAT IT READS IS OF BULK AT MOST 1048576: true; the input reads as it did. -/
def tagSumsUptoRow : OpenClaim := { program := "ytahcfdbjookojaa", sum := "2136a484ba51aa32247ffbf350c6d5ab5d3d001ff53ee6bfefe528fe7c2f9c41", func := "milepost/milepostlaw03.TagSums", spec := "tagSums", inPlace := ["internal/abi.NoEscape", "internal/bytealg.MakeNoZero"], apart := false, narrowed := true }
def TagSumsUptoSaid : Prop := tagSumsUptoRow.holds Try.pinned (OpenSpec.upto tagSumsSpec)

/-- 'milepostlaw18.IdentIds', WHERE WHAT IT READS IS OF BULK AT MOST 1048576: true; the input reads as it did. -/
def identIdsUptoRow : OpenClaim := { program := "ytahcfdbjookojaa", sum := "2136a484ba51aa32247ffbf350c6d5ab5d3d001ff53ee6bfefe528fe7c2f9c41", func := "milepost/milepostlaw18.IdentIds", spec := "identIds", inPlace := ["internal/abi.NoEscape", "internal/bytealg.MakeNoZero"], apart := false, narrowed := true }
def IdentIdsUptoSaid : Prop := identIdsUptoRow.holds Try.pinned (OpenSpec.upto identIdsSpec)

/-- 'milepostlaw18.IdentFirst', WHERE WHAT IT READS IS OF BULK AT MOST 1048576: true; the input reads as it did. -/
def identFirstUptoRow : OpenClaim := { program := "ytahcfdbjookojaa", sum := "2136a484ba51aa32247ffbf350c6d5ab5d3d001ff53ee6bfefe528fe7c2f9c41", func := "milepost/milepostlaw18.IdentFirst", spec := "identFirst", inPlace := ["internal/abi.NoEscape", "internal/bytealg.MakeNoZero"], apart := false, narrowed := true }
def IdentFirstUptoSaid : Prop := identFirstUptoRow.holds Try.pinned (OpenSpec.upto identFirstSpec)

/-- 'milepostlaw18.IdentApart', WHERE WHAT IT READS IS OF BULK AT MOST 1048576: true; the input reads as it did. -/
def identApartUptoRow : OpenClaim := { program := "ytahcfdbjookojaa", sum := "2136a484ba51aa32247ffbf350c6d5ab5d3d001ff53ee6bfefe528fe7c2f9c41", func := "milepost/milepostlaw18.IdentApart", spec := "identApart", inPlace := ["internal/abi.NoEscape", "internal/bytealg.MakeNoZero"], apart := false, narrowed := true }
def IdentApartUptoSaid : Prop := identApartUptoRow.holds Try.pinned (OpenSpec.upto identApartSpec)

end Rows
end Go.Proofs.Ytahcfdbjookojaa
