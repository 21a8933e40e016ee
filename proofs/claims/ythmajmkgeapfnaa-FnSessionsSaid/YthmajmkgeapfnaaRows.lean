/-
  No cell of these rows narrows 'for every input' (looked for: loops, veiled, ifaces, maps, wideKeys, modest, calm, conditions, laid).
  DERIVED. THE GIVEN ROWS OF THIS SEAT. 10 by the template 'for every input the law returns true; each argument reads behind the call as it read before'; 0 by the template 'total and deterministic' (their statements: YthmajmkgeapfnaaTotals.lean).
  GIVEN WITH THE SEED: the statements are not yours to turn. If you find one false, say at which input.
  Laid BY PROGRAM, IN A SANDBOX (cutbox-rows.mjs): the forced cells as the released guide's own fill.sh prints them over the translation 4c98542dcf05aaf6… (all of the seat's roots in one cut). By AI agents, Wed Nov 11 2026. No macro, syntax, notation, axiom, sorry.
-/
import Derived.Test.YthmajmkgeapfnaaChecked
import GoSem.Claim
import GoSem.ClaimJoined
import GoSem.ClaimMapViews
import Derived.JoinedTies
import Derived.KernelRfl
namespace Go.Proofs.Ythmajmkgeapfnaa
/- THE CELL 'sum', in the pinned program and in every row, IS THE sha256 OF THE DUMP (.gsa) THAT YthmajmkgeapfnaaProg.lean LOADS. Nothing in Lean hashes anything: it is a label: what it is worth is what the hold of that sum in a sandbox is worth. -/
noncomputable def Try.pinned : Pinned := { name := "ythmajmkgeapfnaa", sum := "4c98542dcf05aaf63746449ebf5666ca3ecfe11032313022801b105796140f38", checked := Try.checked }
namespace Rows
def none {H : Type} : Left H := { results := [], args := [] }

/-- 'laws.FnExactSessionsRight': WHATEVER THE INPUT: true; the input reads as it did. -/
def fnExactSessionsRightSpec : ChangeSpec := { name := "fnExactSessionsRight", fn := fun _ => fun
  | [d] => { results := [.lit (.bool true)], args := [d] }
  | _ => none }
def fnExactSessionsRightRow : OpenClaim := { program := "ythmajmkgeapfnaa", sum := "4c98542dcf05aaf63746449ebf5666ca3ecfe11032313022801b105796140f38", func := "loop.example/g00387/laws.FnExactSessionsRight", spec := "fnExactSessionsRight", inPlace := ["internal/bytealg.IndexByteString", "internal/bytealg.IndexString"], named := ["internal/bytealg.MaxLen"], apart := false }
def FnExactSessionsRightSaid : Prop := fnExactSessionsRightRow.holds Try.pinned (OpenSpec.ofChange fnExactSessionsRightSpec)

/-- ITS FALSE NEIGHBOUR: 'it returns false'. Refute it at one input. -/
def fnExactSessionsRightWrong : ChangeSpec := { name := "fnExactSessionsRight", fn := fun _ => fun
  | [d] => { results := [.lit (.bool false)], args := [d] }
  | _ => none }
def FnExactSessionsRightWrongFalsely : Prop := fnExactSessionsRightRow.holds Try.pinned (OpenSpec.ofChange fnExactSessionsRightWrong)

/-- 'laws.FnExactAnyone': WHATEVER THE INPUT: true; the input reads as it did. -/
def fnExactAnyoneSpec : ChangeSpec := { name := "fnExactAnyone", fn := fun _ => fun
  | [d] => { results := [.lit (.bool true)], args := [d] }
  | _ => none }
def fnExactAnyoneRow : OpenClaim := { program := "ythmajmkgeapfnaa", sum := "4c98542dcf05aaf63746449ebf5666ca3ecfe11032313022801b105796140f38", func := "loop.example/g00387/laws.FnExactAnyone", spec := "fnExactAnyone", inPlace := ["internal/bytealg.IndexByteString", "internal/bytealg.IndexString"], unfollowed := true, recurses := true, named := ["internal/bytealg.MaxLen"], apart := false }
def FnExactAnyoneSaid : Prop := fnExactAnyoneRow.holds Try.pinned (OpenSpec.ofChange fnExactAnyoneSpec)

/-- ITS FALSE NEIGHBOUR: 'it returns false'. Refute it at one input. -/
def fnExactAnyoneWrong : ChangeSpec := { name := "fnExactAnyone", fn := fun _ => fun
  | [d] => { results := [.lit (.bool false)], args := [d] }
  | _ => none }
def FnExactAnyoneWrongFalsely : Prop := fnExactAnyoneRow.holds Try.pinned (OpenSpec.ofChange fnExactAnyoneWrong)

/-- 'laws.FnExactBest': WHATEVER THE INPUT: true; the input reads as it did. -/
def fnExactBestSpec : ChangeSpec := { name := "fnExactBest", fn := fun _ => fun
  | [d] => { results := [.lit (.bool true)], args := [d] }
  | _ => none }
def fnExactBestRow : OpenClaim := { program := "ythmajmkgeapfnaa", sum := "4c98542dcf05aaf63746449ebf5666ca3ecfe11032313022801b105796140f38", func := "loop.example/g00387/laws.FnExactBest", spec := "fnExactBest", inPlace := ["internal/bytealg.IndexByteString", "internal/bytealg.IndexString"], unfollowed := true, recurses := true, named := ["internal/bytealg.MaxLen"], apart := false }
def FnExactBestSaid : Prop := fnExactBestRow.holds Try.pinned (OpenSpec.ofChange fnExactBestSpec)

/-- ITS FALSE NEIGHBOUR: 'it returns false'. Refute it at one input. -/
def fnExactBestWrong : ChangeSpec := { name := "fnExactBest", fn := fun _ => fun
  | [d] => { results := [.lit (.bool false)], args := [d] }
  | _ => none }
def FnExactBestWrongFalsely : Prop := fnExactBestRow.holds Try.pinned (OpenSpec.ofChange fnExactBestWrong)

/-- 'laws.FnExactSeen': WHATEVER THE INPUT: true; the input reads as it did. -/
def fnExactSeenSpec : ChangeSpec := { name := "fnExactSeen", fn := fun _ => fun
  | [d] => { results := [.lit (.bool true)], args := [d] }
  | _ => none }
def fnExactSeenRow : OpenClaim := { program := "ythmajmkgeapfnaa", sum := "4c98542dcf05aaf63746449ebf5666ca3ecfe11032313022801b105796140f38", func := "loop.example/g00387/laws.FnExactSeen", spec := "fnExactSeen", inPlace := ["internal/bytealg.IndexByteString", "internal/bytealg.IndexString", "internal/abi.NoEscape", "internal/bytealg.MakeNoZero"], unfollowed := true, recurses := true, named := ["internal/bytealg.MaxLen"], apart := false }
def FnExactSeenSaid : Prop := fnExactSeenRow.holds Try.pinned (OpenSpec.ofChange fnExactSeenSpec)

/-- ITS FALSE NEIGHBOUR: 'it returns false'. Refute it at one input. -/
def fnExactSeenWrong : ChangeSpec := { name := "fnExactSeen", fn := fun _ => fun
  | [d] => { results := [.lit (.bool false)], args := [d] }
  | _ => none }
def FnExactSeenWrongFalsely : Prop := fnExactSeenRow.holds Try.pinned (OpenSpec.ofChange fnExactSeenWrong)

/-- 'laws.FnBest': WHATEVER THE INPUT: true; the input reads as it did. -/
def fnBestSpec : ChangeSpec := { name := "fnBest", fn := fun _ => fun
  | [d] => { results := [.lit (.bool true)], args := [d] }
  | _ => none }
def fnBestRow : OpenClaim := { program := "ythmajmkgeapfnaa", sum := "4c98542dcf05aaf63746449ebf5666ca3ecfe11032313022801b105796140f38", func := "loop.example/g00387/laws.FnBest", spec := "fnBest", inPlace := ["internal/bytealg.IndexByteString", "internal/bytealg.IndexString"], unfollowed := true, recurses := true, named := ["internal/bytealg.MaxLen"], apart := false }
def FnBestSaid : Prop := fnBestRow.holds Try.pinned (OpenSpec.ofChange fnBestSpec)

/-- ITS FALSE NEIGHBOUR: 'it returns false'. Refute it at one input. -/
def fnBestWrong : ChangeSpec := { name := "fnBest", fn := fun _ => fun
  | [d] => { results := [.lit (.bool false)], args := [d] }
  | _ => none }
def FnBestWrongFalsely : Prop := fnBestRow.holds Try.pinned (OpenSpec.ofChange fnBestWrong)

/-- 'laws.FnExactAbsent': WHATEVER THE INPUT: true; the input reads as it did. -/
def fnExactAbsentSpec : ChangeSpec := { name := "fnExactAbsent", fn := fun _ => fun
  | [d1, d2] => { results := [.lit (.bool true)], args := [d1, d2] }
  | _ => none }
def fnExactAbsentRow : OpenClaim := { program := "ythmajmkgeapfnaa", sum := "4c98542dcf05aaf63746449ebf5666ca3ecfe11032313022801b105796140f38", func := "loop.example/g00387/laws.FnExactAbsent", spec := "fnExactAbsent", inPlace := ["internal/bytealg.IndexByteString", "internal/bytealg.IndexString"], unfollowed := true, recurses := true, named := ["internal/bytealg.MaxLen"], apart := false }
def FnExactAbsentSaid : Prop := fnExactAbsentRow.holds Try.pinned (OpenSpec.ofChange fnExactAbsentSpec)

/-- ITS FALSE NEIGHBOUR: 'it returns false'. Refute it at one input. -/
def fnExactAbsentWrong : ChangeSpec := { name := "fnExactAbsent", fn := fun _ => fun
  | [d1, d2] => { results := [.lit (.bool false)], args := [d1, d2] }
  | _ => none }
def FnExactAbsentWrongFalsely : Prop := fnExactAbsentRow.holds Try.pinned (OpenSpec.ofChange fnExactAbsentWrong)

/-- 'laws.FnExactUnbind': WHATEVER THE INPUT: true; the input reads as it did. -/
def fnExactUnbindSpec : ChangeSpec := { name := "fnExactUnbind", fn := fun _ => fun
  | [d1, d2] => { results := [.lit (.bool true)], args := [d1, d2] }
  | _ => none }
def fnExactUnbindRow : OpenClaim := { program := "ythmajmkgeapfnaa", sum := "4c98542dcf05aaf63746449ebf5666ca3ecfe11032313022801b105796140f38", func := "loop.example/g00387/laws.FnExactUnbind", spec := "fnExactUnbind", inPlace := ["internal/bytealg.IndexByteString", "internal/bytealg.IndexString"], unfollowed := true, recurses := true, named := ["internal/bytealg.MaxLen"], apart := false }
def FnExactUnbindSaid : Prop := fnExactUnbindRow.holds Try.pinned (OpenSpec.ofChange fnExactUnbindSpec)

/-- ITS FALSE NEIGHBOUR: 'it returns false'. Refute it at one input. -/
def fnExactUnbindWrong : ChangeSpec := { name := "fnExactUnbind", fn := fun _ => fun
  | [d1, d2] => { results := [.lit (.bool false)], args := [d1, d2] }
  | _ => none }
def FnExactUnbindWrongFalsely : Prop := fnExactUnbindRow.holds Try.pinned (OpenSpec.ofChange fnExactUnbindWrong)

/-- 'laws.FnExactPresent': WHATEVER THE INPUT: true; the input reads as it did. -/
def fnExactPresentSpec : ChangeSpec := { name := "fnExactPresent", fn := fun _ => fun
  | [d1, d2, d3, d4] => { results := [.lit (.bool true)], args := [d1, d2, d3, d4] }
  | _ => none }
def fnExactPresentRow : OpenClaim := { program := "ythmajmkgeapfnaa", sum := "4c98542dcf05aaf63746449ebf5666ca3ecfe11032313022801b105796140f38", func := "loop.example/g00387/laws.FnExactPresent", spec := "fnExactPresent", inPlace := ["internal/bytealg.IndexByteString", "internal/bytealg.IndexString"], unfollowed := true, recurses := true, named := ["internal/bytealg.MaxLen"], apart := false }
def FnExactPresentSaid : Prop := fnExactPresentRow.holds Try.pinned (OpenSpec.ofChange fnExactPresentSpec)

/-- ITS FALSE NEIGHBOUR: 'it returns false'. Refute it at one input. -/
def fnExactPresentWrong : ChangeSpec := { name := "fnExactPresent", fn := fun _ => fun
  | [d1, d2, d3, d4] => { results := [.lit (.bool false)], args := [d1, d2, d3, d4] }
  | _ => none }
def FnExactPresentWrongFalsely : Prop := fnExactPresentRow.holds Try.pinned (OpenSpec.ofChange fnExactPresentWrong)

/-- 'laws.FnExactBind': WHATEVER THE INPUT: true; the input reads as it did. -/
def fnExactBindSpec : ChangeSpec := { name := "fnExactBind", fn := fun _ => fun
  | [d1, d2] => { results := [.lit (.bool true)], args := [d1, d2] }
  | _ => none }
def fnExactBindRow : OpenClaim := { program := "ythmajmkgeapfnaa", sum := "4c98542dcf05aaf63746449ebf5666ca3ecfe11032313022801b105796140f38", func := "loop.example/g00387/laws.FnExactBind", spec := "fnExactBind", inPlace := ["internal/bytealg.IndexByteString", "internal/bytealg.IndexString", "slices.overlaps[loop.example/g00387/impl.Session]"], unfollowed := true, recurses := true, named := ["internal/bytealg.MaxLen"], apart := false }
def FnExactBindSaid : Prop := fnExactBindRow.holds Try.pinned (OpenSpec.ofChange fnExactBindSpec)

/-- ITS FALSE NEIGHBOUR: 'it returns false'. Refute it at one input. -/
def fnExactBindWrong : ChangeSpec := { name := "fnExactBind", fn := fun _ => fun
  | [d1, d2] => { results := [.lit (.bool false)], args := [d1, d2] }
  | _ => none }
def FnExactBindWrongFalsely : Prop := fnExactBindRow.holds Try.pinned (OpenSpec.ofChange fnExactBindWrong)

/-- 'laws.FnSessions': WHATEVER THE INPUT: true; the input reads as it did. -/
def fnSessionsSpec : ChangeSpec := { name := "fnSessions", fn := fun _ => fun
  | [d1, d2] => { results := [.lit (.bool true)], args := [d1, d2] }
  | _ => none }
def fnSessionsRow : OpenClaim := { program := "ythmajmkgeapfnaa", sum := "4c98542dcf05aaf63746449ebf5666ca3ecfe11032313022801b105796140f38", func := "loop.example/g00387/laws.FnSessions", spec := "fnSessions", inPlace := ["internal/bytealg.IndexByteString", "internal/bytealg.IndexString", "slices.overlaps[loop.example/g00387/impl.Session]", "internal/abi.NoEscape", "internal/bytealg.MakeNoZero"], unfollowed := true, recurses := true, named := ["internal/bytealg.MaxLen"], apart := false }
def FnSessionsSaid : Prop := fnSessionsRow.holds Try.pinned (OpenSpec.ofChange fnSessionsSpec)

/-- ITS FALSE NEIGHBOUR: 'it returns false'. Refute it at one input. -/
def fnSessionsWrong : ChangeSpec := { name := "fnSessions", fn := fun _ => fun
  | [d1, d2] => { results := [.lit (.bool false)], args := [d1, d2] }
  | _ => none }
def FnSessionsWrongFalsely : Prop := fnSessionsRow.holds Try.pinned (OpenSpec.ofChange fnSessionsWrong)

/- THE SECOND FORM. 'bulk': how many values and letters a reading holds, each counted each time it is reached (what is shared counts as often as it is met; a slice's spare places count too). A statement '..UptoSaid' is the law's where the arguments, and the package variables that the reading takes, are together of bulk at most 1048576: NARROWER than '..Said'. Prove '..Said' where nothing that the law and all that it calls make is longer than what came in: it says more and counts as full. Else prove '..UptoSaid'. A law counts once. -/
mutual
def uptoBulk {H : Type} : DataW H → Nat
  | .lit (.string bytes) => bytes.length + 1
  | .lit _ => 1
  | .nil => 1
  | .ptr d => uptoBulk d + 1
  | .slice elems spare => uptoBulkAll elems + uptoBulkAll spare + 1
  | .agg parts => uptoBulkAll parts + 1
  | .iface _ d => uptoBulk d + 1
  | .map entries => uptoBulkEntries entries + 1
  | .held _ => 1
def uptoBulkAll {H : Type} : List (DataW H) → Nat
  | [] => 0
  | d :: r => uptoBulk d + uptoBulkAll r
def uptoBulkEntries {H : Type} : List (Lit × DataW H) → Nat
  | [] => 0
  | x :: r => uptoBulkEntry x + uptoBulkEntries r
def uptoBulkEntry {H : Type} : Lit × DataW H → Nat
  | (.string bytes, d) => bytes.length + uptoBulk d + 1
  | (_, d) => uptoBulk d + 1
 end
def uptoSmall : (H : Type) → List (DataW H) → Bool := fun _ ds => decide (uptoBulkAll ds ≤ 1048576)
def OpenSpec.upto (s : _root_.Go.ChangeSpec) : _root_.Go.OpenSpec := { _root_.Go.OpenSpec.ofChange s with cond := some uptoSmall }

/-- 'laws.FnExactSessionsRight', WHERE WHAT IT READS IS OF BULK AT MOST 1048576: true; the input reads as it did. -/
def fnExactSessionsRightUptoRow : OpenClaim := { program := "ythmajmkgeapfnaa", sum := "4c98542dcf05aaf63746449ebf5666ca3ecfe11032313022801b105796140f38", func := "loop.example/g00387/laws.FnExactSessionsRight", spec := "fnExactSessionsRight", inPlace := ["internal/bytealg.IndexByteString", "internal/bytealg.IndexString"], named := ["internal/bytealg.MaxLen"], apart := false, narrowed := true }
def FnExactSessionsRightUptoSaid : Prop := fnExactSessionsRightUptoRow.holds Try.pinned (OpenSpec.upto fnExactSessionsRightSpec)

/-- 'laws.FnExactAnyone', WHERE WHAT IT READS IS OF BULK AT MOST 1048576: true; the input reads as it did. -/
def fnExactAnyoneUptoRow : OpenClaim := { program := "ythmajmkgeapfnaa", sum := "4c98542dcf05aaf63746449ebf5666ca3ecfe11032313022801b105796140f38", func := "loop.example/g00387/laws.FnExactAnyone", spec := "fnExactAnyone", inPlace := ["internal/bytealg.IndexByteString", "internal/bytealg.IndexString"], unfollowed := true, recurses := true, named := ["internal/bytealg.MaxLen"], apart := false, narrowed := true }
def FnExactAnyoneUptoSaid : Prop := fnExactAnyoneUptoRow.holds Try.pinned (OpenSpec.upto fnExactAnyoneSpec)

/-- 'laws.FnExactBest', WHERE WHAT IT READS IS OF BULK AT MOST 1048576: true; the input reads as it did. -/
def fnExactBestUptoRow : OpenClaim := { program := "ythmajmkgeapfnaa", sum := "4c98542dcf05aaf63746449ebf5666ca3ecfe11032313022801b105796140f38", func := "loop.example/g00387/laws.FnExactBest", spec := "fnExactBest", inPlace := ["internal/bytealg.IndexByteString", "internal/bytealg.IndexString"], unfollowed := true, recurses := true, named := ["internal/bytealg.MaxLen"], apart := false, narrowed := true }
def FnExactBestUptoSaid : Prop := fnExactBestUptoRow.holds Try.pinned (OpenSpec.upto fnExactBestSpec)

/-- 'laws.FnExactSeen', WHERE WHAT IT READS IS OF BULK AT MOST 1048576: true; the input reads as it did. -/
def fnExactSeenUptoRow : OpenClaim := { program := "ythmajmkgeapfnaa", sum := "4c98542dcf05aaf63746449ebf5666ca3ecfe11032313022801b105796140f38", func := "loop.example/g00387/laws.FnExactSeen", spec := "fnExactSeen", inPlace := ["internal/bytealg.IndexByteString", "internal/bytealg.IndexString", "internal/abi.NoEscape", "internal/bytealg.MakeNoZero"], unfollowed := true, recurses := true, named := ["internal/bytealg.MaxLen"], apart := false, narrowed := true }
def FnExactSeenUptoSaid : Prop := fnExactSeenUptoRow.holds Try.pinned (OpenSpec.upto fnExactSeenSpec)

/-- 'laws.FnBest', WHERE WHAT IT READS IS OF BULK AT MOST 1048576: true; the input reads as it did. -/
def fnBestUptoRow : OpenClaim := { program := "ythmajmkgeapfnaa", sum := "4c98542dcf05aaf63746449ebf5666ca3ecfe11032313022801b105796140f38", func := "loop.example/g00387/laws.FnBest", spec := "fnBest", inPlace := ["internal/bytealg.IndexByteString", "internal/bytealg.IndexString"], unfollowed := true, recurses := true, named := ["internal/bytealg.MaxLen"], apart := false, narrowed := true }
def FnBestUptoSaid : Prop := fnBestUptoRow.holds Try.pinned (OpenSpec.upto fnBestSpec)

/-- 'laws.FnExactAbsent', WHERE WHAT IT READS IS OF BULK AT MOST 1048576: true; the input reads as it did. -/
def fnExactAbsentUptoRow : OpenClaim := { program := "ythmajmkgeapfnaa", sum := "4c98542dcf05aaf63746449ebf5666ca3ecfe11032313022801b105796140f38", func := "loop.example/g00387/laws.FnExactAbsent", spec := "fnExactAbsent", inPlace := ["internal/bytealg.IndexByteString", "internal/bytealg.IndexString"], unfollowed := true, recurses := true, named := ["internal/bytealg.MaxLen"], apart := false, narrowed := true }
def FnExactAbsentUptoSaid : Prop := fnExactAbsentUptoRow.holds Try.pinned (OpenSpec.upto fnExactAbsentSpec)

/-- 'laws.FnExactUnbind', WHERE WHAT IT READS IS OF BULK AT MOST 1048576: true; the input reads as it did. -/
def fnExactUnbindUptoRow : OpenClaim := { program := "ythmajmkgeapfnaa", sum := "4c98542dcf05aaf63746449ebf5666ca3ecfe11032313022801b105796140f38", func := "loop.example/g00387/laws.FnExactUnbind", spec := "fnExactUnbind", inPlace := ["internal/bytealg.IndexByteString", "internal/bytealg.IndexString"], unfollowed := true, recurses := true, named := ["internal/bytealg.MaxLen"], apart := false, narrowed := true }
def FnExactUnbindUptoSaid : Prop := fnExactUnbindUptoRow.holds Try.pinned (OpenSpec.upto fnExactUnbindSpec)

/-- 'laws.FnExactPresent', WHERE WHAT IT READS IS OF BULK AT MOST 1048576: true; the input reads as it did. -/
def fnExactPresentUptoRow : OpenClaim := { program := "ythmajmkgeapfnaa", sum := "4c98542dcf05aaf63746449ebf5666ca3ecfe11032313022801b105796140f38", func := "loop.example/g00387/laws.FnExactPresent", spec := "fnExactPresent", inPlace := ["internal/bytealg.IndexByteString", "internal/bytealg.IndexString"], unfollowed := true, recurses := true, named := ["internal/bytealg.MaxLen"], apart := false, narrowed := true }
def FnExactPresentUptoSaid : Prop := fnExactPresentUptoRow.holds Try.pinned (OpenSpec.upto fnExactPresentSpec)

/-- 'laws.FnExactBind', WHERE WHAT IT READS IS OF BULK AT MOST 1048576: true; the input reads as it did. -/
def fnExactBindUptoRow : OpenClaim := { program := "ythmajmkgeapfnaa", sum := "4c98542dcf05aaf63746449ebf5666ca3ecfe11032313022801b105796140f38", func := "loop.example/g00387/laws.FnExactBind", spec := "fnExactBind", inPlace := ["internal/bytealg.IndexByteString", "internal/bytealg.IndexString", "slices.overlaps[loop.example/g00387/impl.Session]"], unfollowed := true, recurses := true, named := ["internal/bytealg.MaxLen"], apart := false, narrowed := true }
def FnExactBindUptoSaid : Prop := fnExactBindUptoRow.holds Try.pinned (OpenSpec.upto fnExactBindSpec)

/-- 'laws.FnSessions', WHERE WHAT IT READS IS OF BULK AT MOST 1048576: true; the input reads as it did. -/
def fnSessionsUptoRow : OpenClaim := { program := "ythmajmkgeapfnaa", sum := "4c98542dcf05aaf63746449ebf5666ca3ecfe11032313022801b105796140f38", func := "loop.example/g00387/laws.FnSessions", spec := "fnSessions", inPlace := ["internal/bytealg.IndexByteString", "internal/bytealg.IndexString", "slices.overlaps[loop.example/g00387/impl.Session]", "internal/abi.NoEscape", "internal/bytealg.MakeNoZero"], unfollowed := true, recurses := true, named := ["internal/bytealg.MaxLen"], apart := false, narrowed := true }
def FnSessionsUptoSaid : Prop := fnSessionsUptoRow.holds Try.pinned (OpenSpec.upto fnSessionsSpec)

end Rows
end Go.Proofs.Ythmajmkgeapfnaa
