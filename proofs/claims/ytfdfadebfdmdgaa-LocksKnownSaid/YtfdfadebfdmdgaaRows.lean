/-
  No cell of these rows narrows 'for every input' (looked for: loops, veiled, ifaces, maps, wideKeys, modest, calm, conditions, laid).
  DERIVED. THE GIVEN ROWS OF THIS SEAT. 6 by the template 'for every input the law returns true; each argument reads behind the call as it read before'; 0 by the template 'total and deterministic' (their statements: YtfdfadebfdmdgaaTotals.lean).
  GIVEN WITH THE SEED: the statements are not yours to turn. If you find one false, say at which input.
  Laid BY PROGRAM, IN A SANDBOX (cutbox-rows.mjs): the forced cells as the released guide's own fill.sh prints them over the translation 1c9fad1bb1fb4f73… (all of the seat's roots in one cut). By AI agents, Wed Nov 11 2026. No macro, syntax, notation, axiom, sorry.
-/
import Derived.Test.YtfdfadebfdmdgaaChecked
import GoSem.Claim
import GoSem.ClaimJoined
import GoSem.ClaimMapViews
import Derived.JoinedTies
import Derived.KernelRfl
namespace Go.Proofs.Ytfdfadebfdmdgaa
/- THE CELL 'sum', in the pinned program and in every row, IS THE sha256 OF THE DUMP (.gsa) THAT YtfdfadebfdmdgaaProg.lean LOADS. Nothing in Lean hashes anything: it is a label: what it is worth is what the hold of that sum in a sandbox is worth. -/
noncomputable def Try.pinned : Pinned := { name := "ytfdfadebfdmdgaa", sum := "1c9fad1bb1fb4f7329dcb0d89baa520253d8a04447539a19979479832a7963d2", checked := Try.checked }
namespace Rows
def none {H : Type} : Left H := { results := [], args := [] }

/-- 'caissonlaw26.LocksWaits': WHATEVER THE INPUT: true; the input reads as it did. -/
def locksWaitsSpec : ChangeSpec := { name := "locksWaits", fn := fun _ => fun
  | [d1, d2] => { results := [.lit (.bool true)], args := [d1, d2] }
  | _ => none }
def locksWaitsRow : OpenClaim := { program := "ytfdfadebfdmdgaa", sum := "1c9fad1bb1fb4f7329dcb0d89baa520253d8a04447539a19979479832a7963d2", func := "caisson/caissonlaw26.LocksWaits", spec := "locksWaits", inPlace := ["slices.overlaps[caisson/locks.Held]"], unfollowed := true, recurses := true, apart := false }
def LocksWaitsSaid : Prop := locksWaitsRow.holds Try.pinned (OpenSpec.ofChange locksWaitsSpec)

/-- ITS FALSE NEIGHBOUR: 'it returns false'. Refute it at one input. -/
def locksWaitsWrong : ChangeSpec := { name := "locksWaits", fn := fun _ => fun
  | [d1, d2] => { results := [.lit (.bool false)], args := [d1, d2] }
  | _ => none }
def LocksWaitsWrongFalsely : Prop := locksWaitsRow.holds Try.pinned (OpenSpec.ofChange locksWaitsWrong)

/-- 'caissonlaw26.LocksUpward': WHATEVER THE INPUT: true; the input reads as it did. -/
def locksUpwardSpec : ChangeSpec := { name := "locksUpward", fn := fun _ => fun
  | [d1, d2] => { results := [.lit (.bool true)], args := [d1, d2] }
  | _ => none }
def locksUpwardRow : OpenClaim := { program := "ytfdfadebfdmdgaa", sum := "1c9fad1bb1fb4f7329dcb0d89baa520253d8a04447539a19979479832a7963d2", func := "caisson/caissonlaw26.LocksUpward", spec := "locksUpward", inPlace := ["slices.overlaps[caisson/locks.Held]"], unfollowed := true, recurses := true, apart := false }
def LocksUpwardSaid : Prop := locksUpwardRow.holds Try.pinned (OpenSpec.ofChange locksUpwardSpec)

/-- ITS FALSE NEIGHBOUR: 'it returns false'. Refute it at one input. -/
def locksUpwardWrong : ChangeSpec := { name := "locksUpward", fn := fun _ => fun
  | [d1, d2] => { results := [.lit (.bool false)], args := [d1, d2] }
  | _ => none }
def LocksUpwardWrongFalsely : Prop := locksUpwardRow.holds Try.pinned (OpenSpec.ofChange locksUpwardWrong)

/-- 'caissonlaw26.LocksErrors': WHATEVER THE INPUT: true; the input reads as it did. -/
def locksErrorsSpec : ChangeSpec := { name := "locksErrors", fn := fun _ => fun
  | [d1, d2] => { results := [.lit (.bool true)], args := [d1, d2] }
  | _ => none }
def locksErrorsRow : OpenClaim := { program := "ytfdfadebfdmdgaa", sum := "1c9fad1bb1fb4f7329dcb0d89baa520253d8a04447539a19979479832a7963d2", func := "caisson/caissonlaw26.LocksErrors", spec := "locksErrors", inPlace := ["slices.overlaps[caisson/locks.Held]"], unfollowed := true, recurses := true, apart := false }
def LocksErrorsSaid : Prop := locksErrorsRow.holds Try.pinned (OpenSpec.ofChange locksErrorsSpec)

/-- ITS FALSE NEIGHBOUR: 'it returns false'. Refute it at one input. -/
def locksErrorsWrong : ChangeSpec := { name := "locksErrors", fn := fun _ => fun
  | [d1, d2] => { results := [.lit (.bool false)], args := [d1, d2] }
  | _ => none }
def LocksErrorsWrongFalsely : Prop := locksErrorsRow.holds Try.pinned (OpenSpec.ofChange locksErrorsWrong)

/-- 'caissonlaw26.LocksTake': WHATEVER THE INPUT: true; the input reads as it did. -/
def locksTakeSpec : ChangeSpec := { name := "locksTake", fn := fun _ => fun
  | [d1, d2, d3] => { results := [.lit (.bool true)], args := [d1, d2, d3] }
  | _ => none }
def locksTakeRow : OpenClaim := { program := "ytfdfadebfdmdgaa", sum := "1c9fad1bb1fb4f7329dcb0d89baa520253d8a04447539a19979479832a7963d2", func := "caisson/caissonlaw26.LocksTake", spec := "locksTake", inPlace := ["slices.overlaps[caisson/locks.Held]"], unfollowed := true, recurses := true, apart := false }
def LocksTakeSaid : Prop := locksTakeRow.holds Try.pinned (OpenSpec.ofChange locksTakeSpec)

/-- ITS FALSE NEIGHBOUR: 'it returns false'. Refute it at one input. -/
def locksTakeWrong : ChangeSpec := { name := "locksTake", fn := fun _ => fun
  | [d1, d2, d3] => { results := [.lit (.bool false)], args := [d1, d2, d3] }
  | _ => none }
def LocksTakeWrongFalsely : Prop := locksTakeRow.holds Try.pinned (OpenSpec.ofChange locksTakeWrong)

/-- 'caissonlaw26.LocksKnown': WHATEVER THE INPUT: true; the input reads as it did. -/
def locksKnownSpec : ChangeSpec := { name := "locksKnown", fn := fun _ => fun
  | [] => { results := [.lit (.bool true)], args := [] }
  | _ => none }
def locksKnownRow : OpenClaim := { program := "ytfdfadebfdmdgaa", sum := "1c9fad1bb1fb4f7329dcb0d89baa520253d8a04447539a19979479832a7963d2", func := "caisson/caissonlaw26.LocksKnown", spec := "locksKnown", inPlace := ["slices.overlaps[caisson/locks.Held]"], unfollowed := true, recurses := true, apart := false }
def LocksKnownSaid : Prop := locksKnownRow.holds Try.pinned (OpenSpec.ofChange locksKnownSpec)

/-- ITS FALSE NEIGHBOUR: 'it returns false'. Refute it at one input. -/
def locksKnownWrong : ChangeSpec := { name := "locksKnown", fn := fun _ => fun
  | [] => { results := [.lit (.bool false)], args := [] }
  | _ => none }
def LocksKnownWrongFalsely : Prop := locksKnownRow.holds Try.pinned (OpenSpec.ofChange locksKnownWrong)

/-- 'caissonlaw26.LocksCheck': WHATEVER THE INPUT: true; the input reads as it did. -/
def locksCheckSpec : ChangeSpec := { name := "locksCheck", fn := fun _ => fun
  | [d1, d2, d3] => { results := [.lit (.bool true)], args := [d1, d2, d3] }
  | _ => none }
def locksCheckRow : OpenClaim := { program := "ytfdfadebfdmdgaa", sum := "1c9fad1bb1fb4f7329dcb0d89baa520253d8a04447539a19979479832a7963d2", func := "caisson/caissonlaw26.LocksCheck", spec := "locksCheck", inPlace := ["slices.overlaps[caisson/locks.Held]"], unfollowed := true, recurses := true, apart := false }
def LocksCheckSaid : Prop := locksCheckRow.holds Try.pinned (OpenSpec.ofChange locksCheckSpec)

/-- ITS FALSE NEIGHBOUR: 'it returns false'. Refute it at one input. -/
def locksCheckWrong : ChangeSpec := { name := "locksCheck", fn := fun _ => fun
  | [d1, d2, d3] => { results := [.lit (.bool false)], args := [d1, d2, d3] }
  | _ => none }
def LocksCheckWrongFalsely : Prop := locksCheckRow.holds Try.pinned (OpenSpec.ofChange locksCheckWrong)

/- THE SECOND FORM. 'bulk': how many values and letters a reading holds, each counted each time it is reached (what is shared counts as often as it is met; a slice's spare places count too). A statement '..UptoSaid' is the law's where the arguments, and the package variables that the reading takes, are together of bulk at most 1048576: NARROWER than '..Said'. Prove '..Said' where nothing that the law and all that it calls make is longer than what came in: it says more and counts as full. Else prove '..UptoSaid'. A law counts once. -/
mutual
def uptoBulk {H : Type} : DataW H → Nat
  | .lit (.string bytes) => bytes.length + 1
  | .lit _ => 1
  | .nil => 1
  | .ptr d => uptoBulk d + 1
  | .slice elems spare => uptoBulkAll elems + uptoBulkAll spare + 1
  | .agg parts => uptoBulkAll parts + 1
  | .iface _ d => uptoBulk d + 1
  | .map entries => uptoBulkEntries entries + 1
  | .held _ => 1
def uptoBulkAll {H : Type} : List (DataW H) → Nat
  | [] => 0
  | d :: r => uptoBulk d + uptoBulkAll r
def uptoBulkEntries {H : Type} : List (Lit × DataW H) → Nat
  | [] => 0
  | x :: r => uptoBulkEntry x + uptoBulkEntries r
def uptoBulkEntry {H : Type} : Lit × DataW H → Nat
  | (.string bytes, d) => bytes.length + uptoBulk d + 1
  | (_, d) => uptoBulk d + 1
 end
def uptoSmall : (H : Type) → List (DataW H) → Bool := fun _ ds => decide (uptoBulkAll ds ≤ 1048576)
def OpenSpec.upto (s : _root_.Go.ChangeSpec) : _root_.Go.OpenSpec := { _root_.Go.OpenSpec.ofChange s with cond := some uptoSmall }

/-- 'caissonlaw26.LocksWaits', WHERE WHAT IT READS IS OF BULK AT MOST 1048576: true; the input reads as it did. -/
def locksWaitsUptoRow : OpenClaim := { program := "ytfdfadebfdmdgaa", sum := "1c9fad1bb1fb4f7329dcb0d89baa520253d8a04447539a19979479832a7963d2", func := "caisson/caissonlaw26.LocksWaits", spec := "locksWaits", inPlace := ["slices.overlaps[caisson/locks.Held]"], unfollowed := true, recurses := true, apart := false, narrowed := true }
def LocksWaitsUptoSaid : Prop := locksWaitsUptoRow.holds Try.pinned (OpenSpec.upto locksWaitsSpec)

/-- 'caissonlaw26.LocksUpward', WHERE WHAT IT READS IS OF BULK AT MOST 1048576: true; the input reads as it did. -/
def locksUpwardUptoRow : OpenClaim := { program := "ytfdfadebfdmdgaa", sum := "1c9fad1bb1fb4f7329dcb0d89baa520253d8a04447539a19979479832a7963d2", func := "caisson/caissonlaw26.LocksUpward", spec := "locksUpward", inPlace := ["slices.overlaps[caisson/locks.Held]"], unfollowed := true, recurses := true, apart := false, narrowed := true }
def LocksUpwardUptoSaid : Prop := locksUpwardUptoRow.holds Try.pinned (OpenSpec.upto locksUpwardSpec)

/-- 'caissonlaw26.LocksErrors', WHERE WHAT IT READS IS OF BULK AT MOST 1048576: true; the input reads as it did. -/
def locksErrorsUptoRow : OpenClaim := { program := "ytfdfadebfdmdgaa", sum := "1c9fad1bb1fb4f7329dcb0d89baa520253d8a04447539a19979479832a7963d2", func := "caisson/caissonlaw26.LocksErrors", spec := "locksErrors", inPlace := ["slices.overlaps[caisson/locks.Held]"], unfollowed := true, recurses := true, apart := false, narrowed := true }
def LocksErrorsUptoSaid : Prop := locksErrorsUptoRow.holds Try.pinned (OpenSpec.upto locksErrorsSpec)

/-- 'caissonlaw26.LocksTake', WHERE WHAT IT READS IS OF BULK AT MOST 1048576: true; the input reads as it did. -/
def locksTakeUptoRow : OpenClaim := { program := "ytfdfadebfdmdgaa", sum := "1c9fad1bb1fb4f7329dcb0d89baa520253d8a04447539a19979479832a7963d2", func := "caisson/caissonlaw26.LocksTake", spec := "locksTake", inPlace := ["slices.overlaps[caisson/locks.Held]"], unfollowed := true, recurses := true, apart := false, narrowed := true }
def LocksTakeUptoSaid : Prop := locksTakeUptoRow.holds Try.pinned (OpenSpec.upto locksTakeSpec)

/-- 'caissonlaw26.LocksKnown', WHERE WHAT IT READS IS OF BULK AT MOST 1048576: true; the input reads as it did. -/
def locksKnownUptoRow : OpenClaim := { program := "ytfdfadebfdmdgaa", sum := "1c9fad1bb1fb4f7329dcb0d89baa520253d8a04447539a19979479832a7963d2", func := "caisson/caissonlaw26.LocksKnown", spec := "locksKnown", inPlace := ["slices.overlaps[caisson/locks.Held]"], unfollowed := true, recurses := true, apart := false, narrowed := true }
def LocksKnownUptoSaid : Prop := locksKnownUptoRow.holds Try.pinned (OpenSpec.upto locksKnownSpec)

/-- 'caissonlaw26.LocksCheck', WHERE WHAT IT READS IS OF BULK AT MOST 1048576: true; the input reads as it did. -/
def locksCheckUptoRow : OpenClaim := { program := "ytfdfadebfdmdgaa", sum := "1c9fad1bb1fb4f7329dcb0d89baa520253d8a04447539a19979479832a7963d2", func := "caisson/caissonlaw26.LocksCheck", spec := "locksCheck", inPlace := ["slices.overlaps[caisson/locks.Held]"], unfollowed := true, recurses := true, apart := false, narrowed := true }
def LocksCheckUptoSaid : Prop := locksCheckUptoRow.holds Try.pinned (OpenSpec.upto locksCheckSpec)

end Rows
end Go.Proofs.Ytfdfadebfdmdgaa
