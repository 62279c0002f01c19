/-
  No cell of these rows narrows 'for every input' (looked for: loops, veiled, ifaces, maps, wideKeys, modest, calm, conditions, laid).
  DERIVED. THE GIVEN ROWS OF THIS SEAT. 3 by the template 'for every input the law returns true; each argument reads behind the call as it read before'; 0 by the template 'total and deterministic' (their statements: YtapbkoolddnjgaaTotals.lean).
  GIVEN WITH THE SEED: the statements are not yours to turn. If you find one false, say at which input.
  Laid BY PROGRAM, IN A SANDBOX (cutbox-rows.mjs): the forced cells as the released guide's own fill.sh prints them over the translation 414b534be2167433… (all of the seat's roots in one cut). By AI agents, Wed Nov 11 2026. No macro, syntax, notation, axiom, sorry.
-/
import Derived.Test.YtapbkoolddnjgaaChecked
import GoSem.Claim
import GoSem.ClaimJoined
import GoSem.ClaimMapViews
import Derived.JoinedTies
import Derived.KernelRfl
namespace Go.Proofs.Ytapbkoolddnjgaa
/- THE CELL 'sum', in the pinned program and in every row, IS THE sha256 OF THE DUMP (.gsa) THAT YtapbkoolddnjgaaProg.lean LOADS. Nothing in Lean hashes anything: it is a label: what it is worth is what the hold of that sum in a sandbox is worth. -/
noncomputable def Try.pinned : Pinned := { name := "ytapbkoolddnjgaa", sum := "414b534be21674335782d5a6bfbf5261c81cac32c3ed8d4c6d1f48a0b3fb0458", checked := Try.checked }
namespace Rows
def none {H : Type} : Left H := { results := [], args := [] }

/-- 'ratchetlaw03.CnfChecks': WHATEVER THE INPUT: true; the input reads as it did. -/
def cnfChecksSpec : ChangeSpec := { name := "cnfChecks", fn := fun _ => fun
  | [d1, d2] => { results := [.lit (.bool true)], args := [d1, d2] }
  | _ => none }
def cnfChecksRow : OpenClaim := { program := "ytapbkoolddnjgaa", sum := "414b534be21674335782d5a6bfbf5261c81cac32c3ed8d4c6d1f48a0b3fb0458", func := "ratchet/ratchetlaw03.CnfChecks", spec := "cnfChecks", unfollowed := true, recurses := true, apart := false }
def CnfChecksSaid : Prop := cnfChecksRow.holds Try.pinned (OpenSpec.ofChange cnfChecksSpec)

/-- ITS FALSE NEIGHBOUR: 'it returns false'. Refute it at one input. -/
def cnfChecksWrong : ChangeSpec := { name := "cnfChecks", fn := fun _ => fun
  | [d1, d2] => { results := [.lit (.bool false)], args := [d1, d2] }
  | _ => none }
def CnfChecksWrongFalsely : Prop := cnfChecksRow.holds Try.pinned (OpenSpec.ofChange cnfChecksWrong)

/-- 'ratchetlaw03.CnfFollows': WHATEVER THE INPUT: true; the input reads as it did. -/
def cnfFollowsSpec : ChangeSpec := { name := "cnfFollows", fn := fun _ => fun
  | [d1, d2, d3] => { results := [.lit (.bool true)], args := [d1, d2, d3] }
  | _ => none }
def cnfFollowsRow : OpenClaim := { program := "ytapbkoolddnjgaa", sum := "414b534be21674335782d5a6bfbf5261c81cac32c3ed8d4c6d1f48a0b3fb0458", func := "ratchet/ratchetlaw03.CnfFollows", spec := "cnfFollows", unfollowed := true, recurses := true, apart := false }
def CnfFollowsSaid : Prop := cnfFollowsRow.holds Try.pinned (OpenSpec.ofChange cnfFollowsSpec)

/-- ITS FALSE NEIGHBOUR: 'it returns false'. Refute it at one input. -/
def cnfFollowsWrong : ChangeSpec := { name := "cnfFollows", fn := fun _ => fun
  | [d1, d2, d3] => { results := [.lit (.bool false)], args := [d1, d2, d3] }
  | _ => none }
def CnfFollowsWrongFalsely : Prop := cnfFollowsRow.holds Try.pinned (OpenSpec.ofChange cnfFollowsWrong)

/-- 'ratchetlaw03.CnfCounts': WHATEVER THE INPUT: true; the input reads as it did. -/
def cnfCountsSpec : ChangeSpec := { name := "cnfCounts", fn := fun _ => fun
  | [d1, d2] => { results := [.lit (.bool true)], args := [d1, d2] }
  | _ => none }
def cnfCountsRow : OpenClaim := { program := "ytapbkoolddnjgaa", sum := "414b534be21674335782d5a6bfbf5261c81cac32c3ed8d4c6d1f48a0b3fb0458", func := "ratchet/ratchetlaw03.CnfCounts", spec := "cnfCounts", unfollowed := true, recurses := true, apart := false }
def CnfCountsSaid : Prop := cnfCountsRow.holds Try.pinned (OpenSpec.ofChange cnfCountsSpec)

/-- ITS FALSE NEIGHBOUR: 'it returns false'. Refute it at one input. -/
def cnfCountsWrong : ChangeSpec := { name := "cnfCounts", fn := fun _ => fun
  | [d1, d2] => { results := [.lit (.bool false)], args := [d1, d2] }
  | _ => none }
def CnfCountsWrongFalsely : Prop := cnfCountsRow.holds Try.pinned (OpenSpec.ofChange cnfCountsWrong)

/- THE SECOND FORM. 'bulk': how many values and letters a reading holds, each counted each time it is reached (what is shared counts as often as it is met; a slice's spare places count too). A statement '..UptoSaid' is the law's where the arguments, and the package variables that the reading takes, are together of bulk at most 1048576: NARROWER than '..Said'. Prove '..Said' where nothing that the law and all that it calls make is longer than what came in: it says more and counts as full. Else prove '..UptoSaid'. A law counts once. -/
mutual
def uptoBulk {H : Type} : DataW H → Nat
  | .lit (.string bytes) => bytes.length + 1
  | .lit _ => 1
  | .nil => 1
  | .ptr d => uptoBulk d + 1
  | .slice elems spare => uptoBulkAll elems + uptoBulkAll spare + 1
  | .agg parts => uptoBulkAll parts + 1
  | .iface _ d => uptoBulk d + 1
  | .map entries => uptoBulkEntries entries + 1
  | .held _ => 1
def uptoBulkAll {H : Type} : List (DataW H) → Nat
  | [] => 0
  | d :: r => uptoBulk d + uptoBulkAll r
def uptoBulkEntries {H : Type} : List (Lit × DataW H) → Nat
  | [] => 0
  | x :: r => uptoBulkEntry x + uptoBulkEntries r
def uptoBulkEntry {H : Type} : Lit × DataW H → Nat
  | (.string bytes, d) => bytes.length + uptoBulk d + 1
  | (_, d) => uptoBulk d + 1
 end
def uptoSmall : (H : Type) → List (DataW H) → Bool := fun _ ds => decide (uptoBulkAll ds ≤ 1048576)
def OpenSpec.upto (s : _root_.Go.ChangeSpec) : _root_.Go.OpenSpec := { _root_.Go.OpenSpec.ofChange s with cond := some uptoSmall }

/-- 'ratchetlaw03.CnfChecks', WHERE WHAT IT READS IS OF BULK AT MOST 1048576: true; the input reads as it did. -/
def cnfChecksUptoRow : OpenClaim := { program := "ytapbkoolddnjgaa", sum := "414b534be21674335782d5a6bfbf5261c81cac32c3ed8d4c6d1f48a0b3fb0458", func := "ratchet/ratchetlaw03.CnfChecks", spec := "cnfChecks", unfollowed := true, recurses := true, apart := false, narrowed := true }
def CnfChecksUptoSaid : Prop := cnfChecksUptoRow.holds Try.pinned (OpenSpec.upto cnfChecksSpec)

/-- 'ratchetlaw03.CnfFollows', WHERE WHAT IT READS IS OF BULK AT MOST 1048576: true; the input reads as it did. -/
def cnfFollowsUptoRow : OpenClaim := { program := "ytapbkoolddnjgaa", sum := "414b534be21674335782d5a6bfbf5261c81cac32c3ed8d4c6d1f48a0b3fb0458", func := "ratchet/ratchetlaw03.CnfFollows", spec := "cnfFollows", unfollowed := true, recurses := true, apart := false, narrowed := true }
def CnfFollowsUptoSaid : Prop := cnfFollowsUptoRow.holds Try.pinned (OpenSpec.upto cnfFollowsSpec)

/-- 'ratchetlaw03.CnfCounts', WHERE WHAT IT READS IS OF BULK AT MOST 1048576: true; the input reads as it did. -/
def cnfCountsUptoRow : OpenClaim := { program := "ytapbkoolddnjgaa", sum := "414b534be21674335782d5a6bfbf5261c81cac32c3ed8d4c6d1f48a0b3fb0458", func := "ratchet/ratchetlaw03.CnfCounts", spec := "cnfCounts", unfollowed := true, recurses := true, apart := false, narrowed := true }
def CnfCountsUptoSaid : Prop := cnfCountsUptoRow.holds Try.pinned (OpenSpec.upto cnfCountsSpec)

end Rows
end Go.Proofs.Ytapbkoolddnjgaa
