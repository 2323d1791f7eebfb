/-
  No cell of these rows narrows 'for every input' (looked for: loops, veiled, ifaces, maps, wideKeys, modest, calm, conditions, laid).
  DERIVED. THE GIVEN ROWS OF THIS SEAT. 5 by the template 'for every input the law returns true; each argument reads behind the call as it read before'; 0 by the template 'total and deterministic' (their statements: YtaaoabfmelpcpaaTotals.lean).
  GIVEN WITH THE SEED: the statements are not yours to turn. If you find one false, say at which input.
  Laid BY PROGRAM, IN A SANDBOX (cutbox-rows.mjs): the forced cells as the released guide's own fill.sh prints them over the translation 8549651e696268da… (all of the seat's roots in one cut). By AI agents, Wed Nov 11 2026. No macro, syntax, notation, axiom, sorry.
-/
import Derived.Test.YtaaoabfmelpcpaaChecked
import GoSem.Claim
import GoSem.ClaimJoined
import GoSem.ClaimMapViews
import Derived.JoinedTies
import Derived.KernelRfl
namespace Go.Proofs.Ytaaoabfmelpcpaa
/- THE CELL 'sum', in the pinned program and in every row, IS THE sha256 OF THE DUMP (.gsa) THAT YtaaoabfmelpcpaaProg.lean LOADS. Nothing in Lean hashes anything: it is a label: what it is worth is what the hold of that sum in a sandbox is worth. -/
noncomputable def Try.pinned : Pinned := { name := "ytaaoabfmelpcpaa", sum := "8549651e696268daccc7018304f948eac0532748bddc03e53a326c1e1b95a9e3", checked := Try.checked }
namespace Rows
def none {H : Type} : Left H := { results := [], args := [] }

/-- 'moidorelaw18.DevTells': WHATEVER THE INPUT: true; the input reads as it did. -/
def devTellsSpec : ChangeSpec := { name := "devTells", fn := fun _ => fun
  | [d1, d2, d3] => { results := [.lit (.bool true)], args := [d1, d2, d3] }
  | _ => none }
def devTellsRow : OpenClaim := { program := "ytaaoabfmelpcpaa", sum := "8549651e696268daccc7018304f948eac0532748bddc03e53a326c1e1b95a9e3", func := "moidore/moidorelaw18.DevTells", spec := "devTells", unfollowed := true, recurses := true, apart := false }
def DevTellsSaid : Prop := devTellsRow.holds Try.pinned (OpenSpec.ofChange devTellsSpec)

/-- ITS FALSE NEIGHBOUR: 'it returns false'. Refute it at one input. -/
def devTellsWrong : ChangeSpec := { name := "devTells", fn := fun _ => fun
  | [d1, d2, d3] => { results := [.lit (.bool false)], args := [d1, d2, d3] }
  | _ => none }
def DevTellsWrongFalsely : Prop := devTellsRow.holds Try.pinned (OpenSpec.ofChange devTellsWrong)

/-- 'moidorelaw18.DevNil': WHATEVER THE INPUT: true; the input reads as it did. -/
def devNilSpec : ChangeSpec := { name := "devNil", fn := fun _ => fun
  | [d] => { results := [.lit (.bool true)], args := [d] }
  | _ => none }
def devNilRow : OpenClaim := { program := "ytaaoabfmelpcpaa", sum := "8549651e696268daccc7018304f948eac0532748bddc03e53a326c1e1b95a9e3", func := "moidore/moidorelaw18.DevNil", spec := "devNil", unfollowed := true, recurses := true, apart := false }
def DevNilSaid : Prop := devNilRow.holds Try.pinned (OpenSpec.ofChange devNilSpec)

/-- ITS FALSE NEIGHBOUR: 'it returns false'. Refute it at one input. -/
def devNilWrong : ChangeSpec := { name := "devNil", fn := fun _ => fun
  | [d] => { results := [.lit (.bool false)], args := [d] }
  | _ => none }
def DevNilWrongFalsely : Prop := devNilRow.holds Try.pinned (OpenSpec.ofChange devNilWrong)

/-- 'moidorelaw18.DevEnds': WHATEVER THE INPUT: true; the input reads as it did. -/
def devEndsSpec : ChangeSpec := { name := "devEnds", fn := fun _ => fun
  | [] => { results := [.lit (.bool true)], args := [] }
  | _ => none }
def devEndsRow : OpenClaim := { program := "ytaaoabfmelpcpaa", sum := "8549651e696268daccc7018304f948eac0532748bddc03e53a326c1e1b95a9e3", func := "moidore/moidorelaw18.DevEnds", spec := "devEnds", unfollowed := true, recurses := true, apart := false }
def DevEndsSaid : Prop := devEndsRow.holds Try.pinned (OpenSpec.ofChange devEndsSpec)

/-- ITS FALSE NEIGHBOUR: 'it returns false'. Refute it at one input. -/
def devEndsWrong : ChangeSpec := { name := "devEnds", fn := fun _ => fun
  | [] => { results := [.lit (.bool false)], args := [] }
  | _ => none }
def DevEndsWrongFalsely : Prop := devEndsRow.holds Try.pinned (OpenSpec.ofChange devEndsWrong)

/-- 'moidorelaw18.DevKeeps': WHATEVER THE INPUT: true; the input reads as it did. -/
def devKeepsSpec : ChangeSpec := { name := "devKeeps", fn := fun _ => fun
  | [d1, d2, d3, d4] => { results := [.lit (.bool true)], args := [d1, d2, d3, d4] }
  | _ => none }
def devKeepsRow : OpenClaim := { program := "ytaaoabfmelpcpaa", sum := "8549651e696268daccc7018304f948eac0532748bddc03e53a326c1e1b95a9e3", func := "moidore/moidorelaw18.DevKeeps", spec := "devKeeps", unfollowed := true, recurses := true, apart := false }
def DevKeepsSaid : Prop := devKeepsRow.holds Try.pinned (OpenSpec.ofChange devKeepsSpec)

/-- ITS FALSE NEIGHBOUR: 'it returns false'. Refute it at one input. -/
def devKeepsWrong : ChangeSpec := { name := "devKeeps", fn := fun _ => fun
  | [d1, d2, d3, d4] => { results := [.lit (.bool false)], args := [d1, d2, d3, d4] }
  | _ => none }
def DevKeepsWrongFalsely : Prop := devKeepsRow.holds Try.pinned (OpenSpec.ofChange devKeepsWrong)

/-- 'moidorelaw18.DevQuota': WHATEVER THE INPUT: true; the input reads as it did. -/
def devQuotaSpec : ChangeSpec := { name := "devQuota", fn := fun _ => fun
  | [d1, d2, d3] => { results := [.lit (.bool true)], args := [d1, d2, d3] }
  | _ => none }
def devQuotaRow : OpenClaim := { program := "ytaaoabfmelpcpaa", sum := "8549651e696268daccc7018304f948eac0532748bddc03e53a326c1e1b95a9e3", func := "moidore/moidorelaw18.DevQuota", spec := "devQuota", unfollowed := true, recurses := true, apart := false }
def DevQuotaSaid : Prop := devQuotaRow.holds Try.pinned (OpenSpec.ofChange devQuotaSpec)

/-- ITS FALSE NEIGHBOUR: 'it returns false'. Refute it at one input. -/
def devQuotaWrong : ChangeSpec := { name := "devQuota", fn := fun _ => fun
  | [d1, d2, d3] => { results := [.lit (.bool false)], args := [d1, d2, d3] }
  | _ => none }
def DevQuotaWrongFalsely : Prop := devQuotaRow.holds Try.pinned (OpenSpec.ofChange devQuotaWrong)

/- THE SECOND FORM. 'bulk': how many values and letters a reading holds, each counted each time it is reached (what is shared counts as often as it is met; a slice's spare places count too). A statement '..UptoSaid' is the law's where the arguments, and the package variables that the reading takes, are together of bulk at most 1048576: NARROWER than '..Said'. Prove '..Said' where nothing that the law and all that it calls make is longer than what came in: it says more and counts as full. Else prove '..UptoSaid'. A law counts once. -/
mutual
def uptoBulk {H : Type} : DataW H → Nat
  | .lit (.string bytes) => bytes.length + 1
  | .lit _ => 1
  | .nil => 1
  | .ptr d => uptoBulk d + 1
  | .slice elems spare => uptoBulkAll elems + uptoBulkAll spare + 1
  | .agg parts => uptoBulkAll parts + 1
  | .iface _ d => uptoBulk d + 1
  | .map entries => uptoBulkEntries entries + 1
  | .held _ => 1
def uptoBulkAll {H : Type} : List (DataW H) → Nat
  | [] => 0
  | d :: r => uptoBulk d + uptoBulkAll r
def uptoBulkEntries {H : Type} : List (Lit × DataW H) → Nat
  | [] => 0
  | x :: r => uptoBulkEntry x + uptoBulkEntries r
def uptoBulkEntry {H : Type} : Lit × DataW H → Nat
  | (.string bytes, d) => bytes.length + uptoBulk d + 1
  | (_, d) => uptoBulk d + 1
 end
def uptoSmall : (H : Type) → List (DataW H) → Bool := fun _ ds => decide (uptoBulkAll ds ≤ 1048576)
def OpenSpec.upto (s : _root_.Go.ChangeSpec) : _root_.Go.OpenSpec := { _root_.Go.OpenSpec.ofChange s with cond := some uptoSmall }

/-- 'moidorelaw18.DevTells', WHERE WHAT IT READS IS OF BULK AT MOST 1048576: true; the input reads as it did. -/
def devTellsUptoRow : OpenClaim := { program := "ytaaoabfmelpcpaa", sum := "8549651e696268daccc7018304f948eac0532748bddc03e53a326c1e1b95a9e3", func := "moidore/moidorelaw18.DevTells", spec := "devTells", unfollowed := true, recurses := true, apart := false, narrowed := true }
def DevTellsUptoSaid : Prop := devTellsUptoRow.holds Try.pinned (OpenSpec.upto devTellsSpec)

/-- 'moidorelaw18.DevNil', WHERE WHAT IT READS IS OF BULK AT MOST 1048576: true; the input reads as it did. -/
def devNilUptoRow : OpenClaim := { program := "ytaaoabfmelpcpaa", sum := "8549651e696268daccc7018304f948eac0532748bddc03e53a326c1e1b95a9e3", func := "moidore/moidorelaw18.DevNil", spec := "devNil", unfollowed := true, recurses := true, apart := false, narrowed := true }
def DevNilUptoSaid : Prop := devNilUptoRow.holds Try.pinned (OpenSpec.upto devNilSpec)

/-- 'moidorelaw18.DevEnds', WHERE WHAT IT READS IS OF BULK AT MOST 1048576: true; the input reads as it did. -/
def devEndsUptoRow : OpenClaim := { program := "ytaaoabfmelpcpaa", sum := "8549651e696268daccc7018304f948eac0532748bddc03e53a326c1e1b95a9e3", func := "moidore/moidorelaw18.DevEnds", spec := "devEnds", unfollowed := true, recurses := true, apart := false, narrowed := true }
def DevEndsUptoSaid : Prop := devEndsUptoRow.holds Try.pinned (OpenSpec.upto devEndsSpec)

/-- 'moidorelaw18.DevKeeps', WHERE WHAT IT READS IS OF BULK AT MOST 1048576: true; the input reads as it did. -/
def devKeepsUptoRow : OpenClaim := { program := "ytaaoabfmelpcpaa", sum := "8549651e696268daccc7018304f948eac0532748bddc03e53a326c1e1b95a9e3", func := "moidore/moidorelaw18.DevKeeps", spec := "devKeeps", unfollowed := true, recurses := true, apart := false, narrowed := true }
def DevKeepsUptoSaid : Prop := devKeepsUptoRow.holds Try.pinned (OpenSpec.upto devKeepsSpec)

/-- 'moidorelaw18.DevQuota', WHERE WHAT IT READS IS OF BULK AT MOST 1048576: true; the input reads as it did. -/
def devQuotaUptoRow : OpenClaim := { program := "ytaaoabfmelpcpaa", sum := "8549651e696268daccc7018304f948eac0532748bddc03e53a326c1e1b95a9e3", func := "moidore/moidorelaw18.DevQuota", spec := "devQuota", unfollowed := true, recurses := true, apart := false, narrowed := true }
def DevQuotaUptoSaid : Prop := devQuotaUptoRow.holds Try.pinned (OpenSpec.upto devQuotaSpec)

end Rows
end Go.Proofs.Ytaaoabfmelpcpaa
