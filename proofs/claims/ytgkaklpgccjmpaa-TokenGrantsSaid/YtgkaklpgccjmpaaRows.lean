/-
  No cell of these rows narrows 'for every input' (looked for: loops, veiled, ifaces, maps, wideKeys, modest, calm, conditions, laid).
  DERIVED. THE GIVEN ROWS OF THIS SEAT. 5 by the template 'for every input the law returns true; each argument reads behind the call as it read before'; 0 by the template 'total and deterministic' (their statements: YtgkaklpgccjmpaaTotals.lean).
  GIVEN WITH THE SEED: the statements are not yours to turn. If you find one false, say at which input.
  Laid BY PROGRAM, IN A SANDBOX (cutbox-rows.mjs): the forced cells as the released guide's own fill.sh prints them over the translation 4cbac46c966167e6… (all of the seat's roots in one cut). By AI agents, Wed Nov 11 2026. No macro, syntax, notation, axiom, sorry.
-/
import Derived.Test.YtgkaklpgccjmpaaChecked
import GoSem.Claim
import GoSem.ClaimJoined
import GoSem.ClaimMapViews
import Derived.JoinedTies
import Derived.KernelRfl
namespace Go.Proofs.Ytgkaklpgccjmpaa
/- THE CELL 'sum', in the pinned program and in every row, IS THE sha256 OF THE DUMP (.gsa) THAT YtgkaklpgccjmpaaProg.lean LOADS. Nothing in Lean hashes anything: it is a label: what it is worth is what the hold of that sum in a sandbox is worth. -/
noncomputable def Try.pinned : Pinned := { name := "ytgkaklpgccjmpaa", sum := "4cbac46c966167e630828d8c64a5243528bc95040d9ef87ba49014b1723484a3", checked := Try.checked }
namespace Rows
def none {H : Type} : Left H := { results := [], args := [] }

/-- 'fairleadlaw25.TokenRights': WHATEVER THE INPUT: true; the input reads as it did. -/
def tokenRightsSpec : ChangeSpec := { name := "tokenRights", fn := fun _ => fun
  | [d1, d2, d3] => { results := [.lit (.bool true)], args := [d1, d2, d3] }
  | _ => none }
def tokenRightsRow : OpenClaim := { program := "ytgkaklpgccjmpaa", sum := "4cbac46c966167e630828d8c64a5243528bc95040d9ef87ba49014b1723484a3", func := "fairlead/fairleadlaw25.TokenRights", spec := "tokenRights", inPlace := ["internal/reflectlite.TypeOf"], unfollowed := true, recurses := true, apart := false }
def TokenRightsSaid : Prop := tokenRightsRow.holds Try.pinned (OpenSpec.ofChange tokenRightsSpec)

/-- ITS FALSE NEIGHBOUR: 'it returns false'. Refute it at one input. -/
def tokenRightsWrong : ChangeSpec := { name := "tokenRights", fn := fun _ => fun
  | [d1, d2, d3] => { results := [.lit (.bool false)], args := [d1, d2, d3] }
  | _ => none }
def TokenRightsWrongFalsely : Prop := tokenRightsRow.holds Try.pinned (OpenSpec.ofChange tokenRightsWrong)

/-- 'fairleadlaw25.TokenWrites': WHATEVER THE INPUT: true; the input reads as it did. -/
def tokenWritesSpec : ChangeSpec := { name := "tokenWrites", fn := fun _ => fun
  | [d1, d2, d3] => { results := [.lit (.bool true)], args := [d1, d2, d3] }
  | _ => none }
def tokenWritesRow : OpenClaim := { program := "ytgkaklpgccjmpaa", sum := "4cbac46c966167e630828d8c64a5243528bc95040d9ef87ba49014b1723484a3", func := "fairlead/fairleadlaw25.TokenWrites", spec := "tokenWrites", inPlace := ["internal/reflectlite.TypeOf"], unfollowed := true, recurses := true, apart := false }
def TokenWritesSaid : Prop := tokenWritesRow.holds Try.pinned (OpenSpec.ofChange tokenWritesSpec)

/-- ITS FALSE NEIGHBOUR: 'it returns false'. Refute it at one input. -/
def tokenWritesWrong : ChangeSpec := { name := "tokenWrites", fn := fun _ => fun
  | [d1, d2, d3] => { results := [.lit (.bool false)], args := [d1, d2, d3] }
  | _ => none }
def TokenWritesWrongFalsely : Prop := tokenWritesRow.holds Try.pinned (OpenSpec.ofChange tokenWritesWrong)

/-- 'fairleadlaw25.TokenJudges': WHATEVER THE INPUT: true; the input reads as it did. -/
def tokenJudgesSpec : ChangeSpec := { name := "tokenJudges", fn := fun _ => fun
  | [d1, d2, d3, d4, d5, d6] => { results := [.lit (.bool true)], args := [d1, d2, d3, d4, d5, d6] }
  | _ => none }
def tokenJudgesRow : OpenClaim := { program := "ytgkaklpgccjmpaa", sum := "4cbac46c966167e630828d8c64a5243528bc95040d9ef87ba49014b1723484a3", func := "fairlead/fairleadlaw25.TokenJudges", spec := "tokenJudges", inPlace := ["internal/reflectlite.TypeOf"], unfollowed := true, recurses := true, apart := false }
def TokenJudgesSaid : Prop := tokenJudgesRow.holds Try.pinned (OpenSpec.ofChange tokenJudgesSpec)

/-- ITS FALSE NEIGHBOUR: 'it returns false'. Refute it at one input. -/
def tokenJudgesWrong : ChangeSpec := { name := "tokenJudges", fn := fun _ => fun
  | [d1, d2, d3, d4, d5, d6] => { results := [.lit (.bool false)], args := [d1, d2, d3, d4, d5, d6] }
  | _ => none }
def TokenJudgesWrongFalsely : Prop := tokenJudgesRow.holds Try.pinned (OpenSpec.ofChange tokenJudgesWrong)

/-- 'fairleadlaw25.TokenGrants': WHATEVER THE INPUT: true; the input reads as it did. -/
def tokenGrantsSpec : ChangeSpec := { name := "tokenGrants", fn := fun _ => fun
  | [d1, d2, d3, d4, d5, d6] => { results := [.lit (.bool true)], args := [d1, d2, d3, d4, d5, d6] }
  | _ => none }
def tokenGrantsRow : OpenClaim := { program := "ytgkaklpgccjmpaa", sum := "4cbac46c966167e630828d8c64a5243528bc95040d9ef87ba49014b1723484a3", func := "fairlead/fairleadlaw25.TokenGrants", spec := "tokenGrants", inPlace := ["internal/reflectlite.TypeOf"], unfollowed := true, recurses := true, apart := false }
def TokenGrantsSaid : Prop := tokenGrantsRow.holds Try.pinned (OpenSpec.ofChange tokenGrantsSpec)

/-- ITS FALSE NEIGHBOUR: 'it returns false'. Refute it at one input. -/
def tokenGrantsWrong : ChangeSpec := { name := "tokenGrants", fn := fun _ => fun
  | [d1, d2, d3, d4, d5, d6] => { results := [.lit (.bool false)], args := [d1, d2, d3, d4, d5, d6] }
  | _ => none }
def TokenGrantsWrongFalsely : Prop := tokenGrantsRow.holds Try.pinned (OpenSpec.ofChange tokenGrantsWrong)

/-- 'fairleadlaw25.TokenTurned': WHATEVER THE INPUT: true; the input reads as it did. -/
def tokenTurnedSpec : ChangeSpec := { name := "tokenTurned", fn := fun _ => fun
  | [d1, d2, d3, d4] => { results := [.lit (.bool true)], args := [d1, d2, d3, d4] }
  | _ => none }
def tokenTurnedRow : OpenClaim := { program := "ytgkaklpgccjmpaa", sum := "4cbac46c966167e630828d8c64a5243528bc95040d9ef87ba49014b1723484a3", func := "fairlead/fairleadlaw25.TokenTurned", spec := "tokenTurned", inPlace := ["internal/reflectlite.TypeOf"], unfollowed := true, recurses := true, apart := false }
def TokenTurnedSaid : Prop := tokenTurnedRow.holds Try.pinned (OpenSpec.ofChange tokenTurnedSpec)

/-- ITS FALSE NEIGHBOUR: 'it returns false'. Refute it at one input. -/
def tokenTurnedWrong : ChangeSpec := { name := "tokenTurned", fn := fun _ => fun
  | [d1, d2, d3, d4] => { results := [.lit (.bool false)], args := [d1, d2, d3, d4] }
  | _ => none }
def TokenTurnedWrongFalsely : Prop := tokenTurnedRow.holds Try.pinned (OpenSpec.ofChange tokenTurnedWrong)

/- THE SECOND FORM. 'bulk': how many values and letters a reading holds, each counted each time it is reached (what is shared counts as often as it is met; a slice's spare places count too). A statement '..UptoSaid' is the law's where the arguments, and the package variables that the reading takes, are together of bulk at most 1048576: NARROWER than '..Said'. Prove '..Said' where nothing that the law and all that it calls make is longer than what came in: it says more and counts as full. Else prove '..UptoSaid'. A law counts once. -/
mutual
def uptoBulk {H : Type} : DataW H → Nat
  | .lit (.string bytes) => bytes.length + 1
  | .lit _ => 1
  | .nil => 1
  | .ptr d => uptoBulk d + 1
  | .slice elems spare => uptoBulkAll elems + uptoBulkAll spare + 1
  | .agg parts => uptoBulkAll parts + 1
  | .iface _ d => uptoBulk d + 1
  | .map entries => uptoBulkEntries entries + 1
  | .held _ => 1
def uptoBulkAll {H : Type} : List (DataW H) → Nat
  | [] => 0
  | d :: r => uptoBulk d + uptoBulkAll r
def uptoBulkEntries {H : Type} : List (Lit × DataW H) → Nat
  | [] => 0
  | x :: r => uptoBulkEntry x + uptoBulkEntries r
def uptoBulkEntry {H : Type} : Lit × DataW H → Nat
  | (.string bytes, d) => bytes.length + uptoBulk d + 1
  | (_, d) => uptoBulk d + 1
 end
def uptoSmall : (H : Type) → List (DataW H) → Bool := fun _ ds => decide (uptoBulkAll ds ≤ 1048576)
def OpenSpec.upto (s : _root_.Go.ChangeSpec) : _root_.Go.OpenSpec := { _root_.Go.OpenSpec.ofChange s with cond := some uptoSmall }

/-- 'fairleadlaw25.TokenRights', WHERE WHAT IT READS IS OF BULK AT MOST 1048576: true; the input reads as it did. -/
def tokenRightsUptoRow : OpenClaim := { program := "ytgkaklpgccjmpaa", sum := "4cbac46c966167e630828d8c64a5243528bc95040d9ef87ba49014b1723484a3", func := "fairlead/fairleadlaw25.TokenRights", spec := "tokenRights", inPlace := ["internal/reflectlite.TypeOf"], unfollowed := true, recurses := true, apart := false, narrowed := true }
def TokenRightsUptoSaid : Prop := tokenRightsUptoRow.holds Try.pinned (OpenSpec.upto tokenRightsSpec)

/-- 'fairleadlaw25.TokenWrites', WHERE WHAT IT READS IS OF BULK AT MOST 1048576: true; the input reads as it did. -/
def tokenWritesUptoRow : OpenClaim := { program := "ytgkaklpgccjmpaa", sum := "4cbac46c966167e630828d8c64a5243528bc95040d9ef87ba49014b1723484a3", func := "fairlead/fairleadlaw25.TokenWrites", spec := "tokenWrites", inPlace := ["internal/reflectlite.TypeOf"], unfollowed := true, recurses := true, apart := false, narrowed := true }
def TokenWritesUptoSaid : Prop := tokenWritesUptoRow.holds Try.pinned (OpenSpec.upto tokenWritesSpec)

/-- 'fairleadlaw25.TokenJudges', WHERE WHAT IT READS IS OF BULK AT MOST 1048576: true; the input reads as it did. -/
def tokenJudgesUptoRow : OpenClaim := { program := "ytgkaklpgccjmpaa", sum := "4cbac46c966167e630828d8c64a5243528bc95040d9ef87ba49014b1723484a3", func := "fairlead/fairleadlaw25.TokenJudges", spec := "tokenJudges", inPlace := ["internal/reflectlite.TypeOf"], unfollowed := true, recurses := true, apart := false, narrowed := true }
def TokenJudgesUptoSaid : Prop := tokenJudgesUptoRow.holds Try.pinned (OpenSpec.upto tokenJudgesSpec)

/-- 'fairleadlaw25.TokenGrants', WHERE WHAT IT READS IS OF BULK AT MOST 1048576: true; the input reads as it did. -/
def tokenGrantsUptoRow : OpenClaim := { program := "ytgkaklpgccjmpaa", sum := "4cbac46c966167e630828d8c64a5243528bc95040d9ef87ba49014b1723484a3", func := "fairlead/fairleadlaw25.TokenGrants", spec := "tokenGrants", inPlace := ["internal/reflectlite.TypeOf"], unfollowed := true, recurses := true, apart := false, narrowed := true }
def TokenGrantsUptoSaid : Prop := tokenGrantsUptoRow.holds Try.pinned (OpenSpec.upto tokenGrantsSpec)

/-- 'fairleadlaw25.TokenTurned', WHERE WHAT IT READS IS OF BULK AT MOST 1048576: true; the input reads as it did. -/
def tokenTurnedUptoRow : OpenClaim := { program := "ytgkaklpgccjmpaa", sum := "4cbac46c966167e630828d8c64a5243528bc95040d9ef87ba49014b1723484a3", func := "fairlead/fairleadlaw25.TokenTurned", spec := "tokenTurned", inPlace := ["internal/reflectlite.TypeOf"], unfollowed := true, recurses := true, apart := false, narrowed := true }
def TokenTurnedUptoSaid : Prop := tokenTurnedUptoRow.holds Try.pinned (OpenSpec.upto tokenTurnedSpec)

end Rows
end Go.Proofs.Ytgkaklpgccjmpaa
