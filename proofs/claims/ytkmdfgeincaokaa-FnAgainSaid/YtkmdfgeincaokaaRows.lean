/-
  No cell of these rows narrows 'for every input' (looked for: loops, veiled, ifaces, maps, wideKeys, modest, calm, conditions, laid).
  DERIVED. THE GIVEN ROWS OF THIS SEAT. 8 by the template 'for every input the law returns true; each argument reads behind the call as it read before'; 0 by the template 'total and deterministic' (their statements: YtkmdfgeincaokaaTotals.lean).
  GIVEN WITH THE SEED: the statements are not yours to turn. If you find one false, say at which input.
  Laid BY PROGRAM, IN A SANDBOX (cutbox-rows.mjs): the forced cells as the released guide's own fill.sh prints them over the translation a6996f783a80b0f8… (all of the seat's roots in one cut). By AI agents, Wed Nov 11 2026. No macro, syntax, notation, axiom, sorry.
-/
import Derived.Test.YtkmdfgeincaokaaChecked
import GoSem.Claim
import GoSem.ClaimJoined
import GoSem.ClaimMapViews
import Derived.JoinedTies
import Derived.KernelRfl
namespace Go.Proofs.Ytkmdfgeincaokaa
/- THE CELL 'sum', in the pinned program and in every row, IS THE sha256 OF THE DUMP (.gsa) THAT YtkmdfgeincaokaaProg.lean LOADS. Nothing in Lean hashes anything: it is a label: what it is worth is what the hold of that sum in a sandbox is worth. -/
noncomputable def Try.pinned : Pinned := { name := "ytkmdfgeincaokaa", sum := "a6996f783a80b0f8c6a11ca22305550d3501bd849e8bc572cea0a8396b2d8c1d", checked := Try.checked }
namespace Rows
def none {H : Type} : Left H := { results := [], args := [] }

/-- 'laws.FnExactAgainRight': WHATEVER THE INPUT: true; the input reads as it did. -/
def fnExactAgainRightSpec : ChangeSpec := { name := "fnExactAgainRight", fn := fun _ => fun
  | [d] => { results := [.lit (.bool true)], args := [d] }
  | _ => none }
def fnExactAgainRightRow : OpenClaim := { program := "ytkmdfgeincaokaa", sum := "a6996f783a80b0f8c6a11ca22305550d3501bd849e8bc572cea0a8396b2d8c1d", func := "loop.example/g00387/laws.FnExactAgainRight", spec := "fnExactAgainRight", unfollowed := true, recurses := true, apart := false }
def FnExactAgainRightSaid : Prop := fnExactAgainRightRow.holds Try.pinned (OpenSpec.ofChange fnExactAgainRightSpec)

/-- ITS FALSE NEIGHBOUR: 'it returns false'. Refute it at one input. -/
def fnExactAgainRightWrong : ChangeSpec := { name := "fnExactAgainRight", fn := fun _ => fun
  | [d] => { results := [.lit (.bool false)], args := [d] }
  | _ => none }
def FnExactAgainRightWrongFalsely : Prop := fnExactAgainRightRow.holds Try.pinned (OpenSpec.ofChange fnExactAgainRightWrong)

/-- 'laws.FnResume': WHATEVER THE INPUT: true; the input reads as it did. -/
def fnResumeSpec : ChangeSpec := { name := "fnResume", fn := fun _ => fun
  | [d] => { results := [.lit (.bool true)], args := [d] }
  | _ => none }
def fnResumeRow : OpenClaim := { program := "ytkmdfgeincaokaa", sum := "a6996f783a80b0f8c6a11ca22305550d3501bd849e8bc572cea0a8396b2d8c1d", func := "loop.example/g00387/laws.FnResume", spec := "fnResume", unfollowed := true, recurses := true, apart := false }
def FnResumeSaid : Prop := fnResumeRow.holds Try.pinned (OpenSpec.ofChange fnResumeSpec)

/-- ITS FALSE NEIGHBOUR: 'it returns false'. Refute it at one input. -/
def fnResumeWrong : ChangeSpec := { name := "fnResume", fn := fun _ => fun
  | [d] => { results := [.lit (.bool false)], args := [d] }
  | _ => none }
def FnResumeWrongFalsely : Prop := fnResumeRow.holds Try.pinned (OpenSpec.ofChange fnResumeWrong)

/-- 'laws.FnExactAgainLost': WHATEVER THE INPUT: true; the input reads as it did. -/
def fnExactAgainLostSpec : ChangeSpec := { name := "fnExactAgainLost", fn := fun _ => fun
  | [d] => { results := [.lit (.bool true)], args := [d] }
  | _ => none }
def fnExactAgainLostRow : OpenClaim := { program := "ytkmdfgeincaokaa", sum := "a6996f783a80b0f8c6a11ca22305550d3501bd849e8bc572cea0a8396b2d8c1d", func := "loop.example/g00387/laws.FnExactAgainLost", spec := "fnExactAgainLost", unfollowed := true, recurses := true, apart := false }
def FnExactAgainLostSaid : Prop := fnExactAgainLostRow.holds Try.pinned (OpenSpec.ofChange fnExactAgainLostSpec)

/-- ITS FALSE NEIGHBOUR: 'it returns false'. Refute it at one input. -/
def fnExactAgainLostWrong : ChangeSpec := { name := "fnExactAgainLost", fn := fun _ => fun
  | [d] => { results := [.lit (.bool false)], args := [d] }
  | _ => none }
def FnExactAgainLostWrongFalsely : Prop := fnExactAgainLostRow.holds Try.pinned (OpenSpec.ofChange fnExactAgainLostWrong)

/-- 'laws.FnExactAgainGot': WHATEVER THE INPUT: true; the input reads as it did. -/
def fnExactAgainGotSpec : ChangeSpec := { name := "fnExactAgainGot", fn := fun _ => fun
  | [d] => { results := [.lit (.bool true)], args := [d] }
  | _ => none }
def fnExactAgainGotRow : OpenClaim := { program := "ytkmdfgeincaokaa", sum := "a6996f783a80b0f8c6a11ca22305550d3501bd849e8bc572cea0a8396b2d8c1d", func := "loop.example/g00387/laws.FnExactAgainGot", spec := "fnExactAgainGot", unfollowed := true, recurses := true, apart := false }
def FnExactAgainGotSaid : Prop := fnExactAgainGotRow.holds Try.pinned (OpenSpec.ofChange fnExactAgainGotSpec)

/-- ITS FALSE NEIGHBOUR: 'it returns false'. Refute it at one input. -/
def fnExactAgainGotWrong : ChangeSpec := { name := "fnExactAgainGot", fn := fun _ => fun
  | [d] => { results := [.lit (.bool false)], args := [d] }
  | _ => none }
def FnExactAgainGotWrongFalsely : Prop := fnExactAgainGotRow.holds Try.pinned (OpenSpec.ofChange fnExactAgainGotWrong)

/-- 'laws.FnExactAgainAck': WHATEVER THE INPUT: true; the input reads as it did. -/
def fnExactAgainAckSpec : ChangeSpec := { name := "fnExactAgainAck", fn := fun _ => fun
  | [d1, d2] => { results := [.lit (.bool true)], args := [d1, d2] }
  | _ => none }
def fnExactAgainAckRow : OpenClaim := { program := "ytkmdfgeincaokaa", sum := "a6996f783a80b0f8c6a11ca22305550d3501bd849e8bc572cea0a8396b2d8c1d", func := "loop.example/g00387/laws.FnExactAgainAck", spec := "fnExactAgainAck", unfollowed := true, recurses := true, apart := false }
def FnExactAgainAckSaid : Prop := fnExactAgainAckRow.holds Try.pinned (OpenSpec.ofChange fnExactAgainAckSpec)

/-- ITS FALSE NEIGHBOUR: 'it returns false'. Refute it at one input. -/
def fnExactAgainAckWrong : ChangeSpec := { name := "fnExactAgainAck", fn := fun _ => fun
  | [d1, d2] => { results := [.lit (.bool false)], args := [d1, d2] }
  | _ => none }
def FnExactAgainAckWrongFalsely : Prop := fnExactAgainAckRow.holds Try.pinned (OpenSpec.ofChange fnExactAgainAckWrong)

/-- 'laws.FnExactAgainResume': WHATEVER THE INPUT: true; the input reads as it did. -/
def fnExactAgainResumeSpec : ChangeSpec := { name := "fnExactAgainResume", fn := fun _ => fun
  | [d1, d2] => { results := [.lit (.bool true)], args := [d1, d2] }
  | _ => none }
def fnExactAgainResumeRow : OpenClaim := { program := "ytkmdfgeincaokaa", sum := "a6996f783a80b0f8c6a11ca22305550d3501bd849e8bc572cea0a8396b2d8c1d", func := "loop.example/g00387/laws.FnExactAgainResume", spec := "fnExactAgainResume", unfollowed := true, recurses := true, apart := false }
def FnExactAgainResumeSaid : Prop := fnExactAgainResumeRow.holds Try.pinned (OpenSpec.ofChange fnExactAgainResumeSpec)

/-- ITS FALSE NEIGHBOUR: 'it returns false'. Refute it at one input. -/
def fnExactAgainResumeWrong : ChangeSpec := { name := "fnExactAgainResume", fn := fun _ => fun
  | [d1, d2] => { results := [.lit (.bool false)], args := [d1, d2] }
  | _ => none }
def FnExactAgainResumeWrongFalsely : Prop := fnExactAgainResumeRow.holds Try.pinned (OpenSpec.ofChange fnExactAgainResumeWrong)

/-- 'laws.FnExactAgainSend': WHATEVER THE INPUT: true; the input reads as it did. -/
def fnExactAgainSendSpec : ChangeSpec := { name := "fnExactAgainSend", fn := fun _ => fun
  | [d1, d2] => { results := [.lit (.bool true)], args := [d1, d2] }
  | _ => none }
def fnExactAgainSendRow : OpenClaim := { program := "ytkmdfgeincaokaa", sum := "a6996f783a80b0f8c6a11ca22305550d3501bd849e8bc572cea0a8396b2d8c1d", func := "loop.example/g00387/laws.FnExactAgainSend", spec := "fnExactAgainSend", unfollowed := true, recurses := true, apart := false }
def FnExactAgainSendSaid : Prop := fnExactAgainSendRow.holds Try.pinned (OpenSpec.ofChange fnExactAgainSendSpec)

/-- ITS FALSE NEIGHBOUR: 'it returns false'. Refute it at one input. -/
def fnExactAgainSendWrong : ChangeSpec := { name := "fnExactAgainSend", fn := fun _ => fun
  | [d1, d2] => { results := [.lit (.bool false)], args := [d1, d2] }
  | _ => none }
def FnExactAgainSendWrongFalsely : Prop := fnExactAgainSendRow.holds Try.pinned (OpenSpec.ofChange fnExactAgainSendWrong)

/-- 'laws.FnAgain': WHATEVER THE INPUT: true; the input reads as it did. -/
def fnAgainSpec : ChangeSpec := { name := "fnAgain", fn := fun _ => fun
  | [d1, d2] => { results := [.lit (.bool true)], args := [d1, d2] }
  | _ => none }
def fnAgainRow : OpenClaim := { program := "ytkmdfgeincaokaa", sum := "a6996f783a80b0f8c6a11ca22305550d3501bd849e8bc572cea0a8396b2d8c1d", func := "loop.example/g00387/laws.FnAgain", spec := "fnAgain", unfollowed := true, recurses := true, apart := false }
def FnAgainSaid : Prop := fnAgainRow.holds Try.pinned (OpenSpec.ofChange fnAgainSpec)

/-- ITS FALSE NEIGHBOUR: 'it returns false'. Refute it at one input. -/
def fnAgainWrong : ChangeSpec := { name := "fnAgain", fn := fun _ => fun
  | [d1, d2] => { results := [.lit (.bool false)], args := [d1, d2] }
  | _ => none }
def FnAgainWrongFalsely : Prop := fnAgainRow.holds Try.pinned (OpenSpec.ofChange fnAgainWrong)

/- THE SECOND FORM. 'bulk': how many values and letters a reading holds, each counted each time it is reached (what is shared counts as often as it is met; a slice's spare places count too). A statement '..UptoSaid' is the law's where the arguments, and the package variables that the reading takes, are together of bulk at most 1048576: NARROWER than '..Said'. Prove '..Said' where nothing that the law and all that it calls make is longer than what came in: it says more and counts as full. Else prove '..UptoSaid'. A law counts once. -/
mutual
def uptoBulk {H : Type} : DataW H → Nat
  | .lit (.string bytes) => bytes.length + 1
  | .lit _ => 1
  | .nil => 1
  | .ptr d => uptoBulk d + 1
  | .slice elems spare => uptoBulkAll elems + uptoBulkAll spare + 1
  | .agg parts => uptoBulkAll parts + 1
  | .iface _ d => uptoBulk d + 1
  | .map entries => uptoBulkEntries entries + 1
  | .held _ => 1
def uptoBulkAll {H : Type} : List (DataW H) → Nat
  | [] => 0
  | d :: r => uptoBulk d + uptoBulkAll r
def uptoBulkEntries {H : Type} : List (Lit × DataW H) → Nat
  | [] => 0
  | x :: r => uptoBulkEntry x + uptoBulkEntries r
def uptoBulkEntry {H : Type} : Lit × DataW H → Nat
  | (.string bytes, d) => bytes.length + uptoBulk d + 1
  | (_, d) => uptoBulk d + 1
 end
def uptoSmall : (H : Type) → List (DataW H) → Bool := fun _ ds => decide (uptoBulkAll ds ≤ 1048576)
def OpenSpec.upto (s : _root_.Go.ChangeSpec) : _root_.Go.OpenSpec := { _root_.Go.OpenSpec.ofChange s with cond := some uptoSmall }

/-- 'laws.FnExactAgainRight', WHERE WHAT IT READS IS OF BULK AT MOST 1048576: true; the input reads as it did. -/
def fnExactAgainRightUptoRow : OpenClaim := { program := "ytkmdfgeincaokaa", sum := "a6996f783a80b0f8c6a11ca22305550d3501bd849e8bc572cea0a8396b2d8c1d", func := "loop.example/g00387/laws.FnExactAgainRight", spec := "fnExactAgainRight", unfollowed := true, recurses := true, apart := false, narrowed := true }
def FnExactAgainRightUptoSaid : Prop := fnExactAgainRightUptoRow.holds Try.pinned (OpenSpec.upto fnExactAgainRightSpec)

/-- 'laws.FnResume', WHERE WHAT IT READS IS OF BULK AT MOST 1048576: true; the input reads as it did. -/
def fnResumeUptoRow : OpenClaim := { program := "ytkmdfgeincaokaa", sum := "a6996f783a80b0f8c6a11ca22305550d3501bd849e8bc572cea0a8396b2d8c1d", func := "loop.example/g00387/laws.FnResume", spec := "fnResume", unfollowed := true, recurses := true, apart := false, narrowed := true }
def FnResumeUptoSaid : Prop := fnResumeUptoRow.holds Try.pinned (OpenSpec.upto fnResumeSpec)

/-- 'laws.FnExactAgainLost', WHERE WHAT IT READS IS OF BULK AT MOST 1048576: true; the input reads as it did. -/
def fnExactAgainLostUptoRow : OpenClaim := { program := "ytkmdfgeincaokaa", sum := "a6996f783a80b0f8c6a11ca22305550d3501bd849e8bc572cea0a8396b2d8c1d", func := "loop.example/g00387/laws.FnExactAgainLost", spec := "fnExactAgainLost", unfollowed := true, recurses := true, apart := false, narrowed := true }
def FnExactAgainLostUptoSaid : Prop := fnExactAgainLostUptoRow.holds Try.pinned (OpenSpec.upto fnExactAgainLostSpec)

/-- 'laws.FnExactAgainGot', WHERE WHAT IT READS IS OF BULK AT MOST 1048576: true; the input reads as it did. -/
def fnExactAgainGotUptoRow : OpenClaim := { program := "ytkmdfgeincaokaa", sum := "a6996f783a80b0f8c6a11ca22305550d3501bd849e8bc572cea0a8396b2d8c1d", func := "loop.example/g00387/laws.FnExactAgainGot", spec := "fnExactAgainGot", unfollowed := true, recurses := true, apart := false, narrowed := true }
def FnExactAgainGotUptoSaid : Prop := fnExactAgainGotUptoRow.holds Try.pinned (OpenSpec.upto fnExactAgainGotSpec)

/-- 'laws.FnExactAgainAck', WHERE WHAT IT READS IS OF BULK AT MOST 1048576: true; the input reads as it did. -/
def fnExactAgainAckUptoRow : OpenClaim := { program := "ytkmdfgeincaokaa", sum := "a6996f783a80b0f8c6a11ca22305550d3501bd849e8bc572cea0a8396b2d8c1d", func := "loop.example/g00387/laws.FnExactAgainAck", spec := "fnExactAgainAck", unfollowed := true, recurses := true, apart := false, narrowed := true }
def FnExactAgainAckUptoSaid : Prop := fnExactAgainAckUptoRow.holds Try.pinned (OpenSpec.upto fnExactAgainAckSpec)

/-- 'laws.FnExactAgainResume', WHERE WHAT IT READS IS OF BULK AT MOST 1048576: true; the input reads as it did. -/
def fnExactAgainResumeUptoRow : OpenClaim := { program := "ytkmdfgeincaokaa", sum := "a6996f783a80b0f8c6a11ca22305550d3501bd849e8bc572cea0a8396b2d8c1d", func := "loop.example/g00387/laws.FnExactAgainResume", spec := "fnExactAgainResume", unfollowed := true, recurses := true, apart := false, narrowed := true }
def FnExactAgainResumeUptoSaid : Prop := fnExactAgainResumeUptoRow.holds Try.pinned (OpenSpec.upto fnExactAgainResumeSpec)

/-- 'laws.FnExactAgainSend', WHERE WHAT IT READS IS OF BULK AT MOST 1048576: true; the input reads as it did. -/
def fnExactAgainSendUptoRow : OpenClaim := { program := "ytkmdfgeincaokaa", sum := "a6996f783a80b0f8c6a11ca22305550d3501bd849e8bc572cea0a8396b2d8c1d", func := "loop.example/g00387/laws.FnExactAgainSend", spec := "fnExactAgainSend", unfollowed := true, recurses := true, apart := false, narrowed := true }
def FnExactAgainSendUptoSaid : Prop := fnExactAgainSendUptoRow.holds Try.pinned (OpenSpec.upto fnExactAgainSendSpec)

/-- 'laws.FnAgain', WHERE WHAT IT READS IS OF BULK AT MOST 1048576: true; the input reads as it did. -/
def fnAgainUptoRow : OpenClaim := { program := "ytkmdfgeincaokaa", sum := "a6996f783a80b0f8c6a11ca22305550d3501bd849e8bc572cea0a8396b2d8c1d", func := "loop.example/g00387/laws.FnAgain", spec := "fnAgain", unfollowed := true, recurses := true, apart := false, narrowed := true }
def FnAgainUptoSaid : Prop := fnAgainUptoRow.holds Try.pinned (OpenSpec.upto fnAgainSpec)

end Rows
end Go.Proofs.Ytkmdfgeincaokaa
