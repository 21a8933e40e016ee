/-
  No cell of these rows narrows 'for every input' (looked for: loops, veiled, ifaces, maps, wideKeys, modest, calm, conditions, laid).
  DERIVED. THE GIVEN ROWS OF THIS SEAT. 10 by the template 'for every input the law returns true; each argument reads behind the call as it read before'; 0 by the template 'total and deterministic' (their statements: YtaaffhghpealjaaTotals.lean).
  GIVEN WITH THE SEED: the statements are not yours to turn. If you find one false, say at which input.
  Laid BY PROGRAM, IN A SANDBOX (cutbox-rows.mjs): the forced cells as the released guide's own fill.sh prints them over the translation 188d4b2b08ffa327… (all of the seat's roots in one cut). By AI agents, Wed Nov 11 2026. No macro, syntax, notation, axiom, sorry.
-/
import Derived.Test.YtaaffhghpealjaaChecked
import GoSem.Claim
import GoSem.ClaimJoined
import GoSem.ClaimMapViews
import Derived.JoinedTies
import Derived.KernelRfl
namespace Go.Proofs.Ytaaffhghpealjaa
/- THE CELL 'sum', in the pinned program and in every row, IS THE sha256 OF THE DUMP (.gsa) THAT YtaaffhghpealjaaProg.lean LOADS. Nothing in Lean hashes anything: it is a label: what it is worth is what the hold of that sum in a sandbox is worth. -/
noncomputable def Try.pinned : Pinned := { name := "ytaaffhghpealjaa", sum := "188d4b2b08ffa327e9b08c35caa9f06f411509521db12c6abe7de6dcade884b8", checked := Try.checked }
namespace Rows
def none {H : Type} : Left H := { results := [], args := [] }

/-- 'laws.FnExactLinkNew': WHATEVER THE INPUT: true; the input reads as it did. -/
def fnExactLinkNewSpec : ChangeSpec := { name := "fnExactLinkNew", fn := fun _ => fun
  | [] => { results := [.lit (.bool true)], args := [] }
  | _ => none }
def fnExactLinkNewRow : OpenClaim := { program := "ytaaffhghpealjaa", sum := "188d4b2b08ffa327e9b08c35caa9f06f411509521db12c6abe7de6dcade884b8", func := "loop.example/g00387/laws.FnExactLinkNew", spec := "fnExactLinkNew", apart := false }
def FnExactLinkNewSaid : Prop := fnExactLinkNewRow.holds Try.pinned (OpenSpec.ofChange fnExactLinkNewSpec)

/-- ITS FALSE NEIGHBOUR: 'it returns false'. Refute it at one input. -/
def fnExactLinkNewWrong : ChangeSpec := { name := "fnExactLinkNew", fn := fun _ => fun
  | [] => { results := [.lit (.bool false)], args := [] }
  | _ => none }
def FnExactLinkNewWrongFalsely : Prop := fnExactLinkNewRow.holds Try.pinned (OpenSpec.ofChange fnExactLinkNewWrong)

/-- 'laws.FnExactLinkRight': WHATEVER THE INPUT: true; the input reads as it did. -/
def fnExactLinkRightSpec : ChangeSpec := { name := "fnExactLinkRight", fn := fun _ => fun
  | [d] => { results := [.lit (.bool true)], args := [d] }
  | _ => none }
def fnExactLinkRightRow : OpenClaim := { program := "ytaaffhghpealjaa", sum := "188d4b2b08ffa327e9b08c35caa9f06f411509521db12c6abe7de6dcade884b8", func := "loop.example/g00387/laws.FnExactLinkRight", spec := "fnExactLinkRight", unfollowed := true, recurses := true, apart := false }
def FnExactLinkRightSaid : Prop := fnExactLinkRightRow.holds Try.pinned (OpenSpec.ofChange fnExactLinkRightSpec)

/-- ITS FALSE NEIGHBOUR: 'it returns false'. Refute it at one input. -/
def fnExactLinkRightWrong : ChangeSpec := { name := "fnExactLinkRight", fn := fun _ => fun
  | [d] => { results := [.lit (.bool false)], args := [d] }
  | _ => none }
def FnExactLinkRightWrongFalsely : Prop := fnExactLinkRightRow.holds Try.pinned (OpenSpec.ofChange fnExactLinkRightWrong)

/-- 'laws.FnExactFrameBytes': WHATEVER THE INPUT: true; the input reads as it did. -/
def fnExactFrameBytesSpec : ChangeSpec := { name := "fnExactFrameBytes", fn := fun _ => fun
  | [d] => { results := [.lit (.bool true)], args := [d] }
  | _ => none }
def fnExactFrameBytesRow : OpenClaim := { program := "ytaaffhghpealjaa", sum := "188d4b2b08ffa327e9b08c35caa9f06f411509521db12c6abe7de6dcade884b8", func := "loop.example/g00387/laws.FnExactFrameBytes", spec := "fnExactFrameBytes", apart := false }
def FnExactFrameBytesSaid : Prop := fnExactFrameBytesRow.holds Try.pinned (OpenSpec.ofChange fnExactFrameBytesSpec)

/-- ITS FALSE NEIGHBOUR: 'it returns false'. Refute it at one input. -/
def fnExactFrameBytesWrong : ChangeSpec := { name := "fnExactFrameBytes", fn := fun _ => fun
  | [d] => { results := [.lit (.bool false)], args := [d] }
  | _ => none }
def FnExactFrameBytesWrongFalsely : Prop := fnExactFrameBytesRow.holds Try.pinned (OpenSpec.ofChange fnExactFrameBytesWrong)

/-- 'laws.FnOnce': WHATEVER THE INPUT: true; the input reads as it did. -/
def fnOnceSpec : ChangeSpec := { name := "fnOnce", fn := fun _ => fun
  | [d1, d2] => { results := [.lit (.bool true)], args := [d1, d2] }
  | _ => none }
def fnOnceRow : OpenClaim := { program := "ytaaffhghpealjaa", sum := "188d4b2b08ffa327e9b08c35caa9f06f411509521db12c6abe7de6dcade884b8", func := "loop.example/g00387/laws.FnOnce", spec := "fnOnce", unfollowed := true, recurses := true, apart := false }
def FnOnceSaid : Prop := fnOnceRow.holds Try.pinned (OpenSpec.ofChange fnOnceSpec)

/-- ITS FALSE NEIGHBOUR: 'it returns false'. Refute it at one input. -/
def fnOnceWrong : ChangeSpec := { name := "fnOnce", fn := fun _ => fun
  | [d1, d2] => { results := [.lit (.bool false)], args := [d1, d2] }
  | _ => none }
def FnOnceWrongFalsely : Prop := fnOnceRow.holds Try.pinned (OpenSpec.ofChange fnOnceWrong)

/-- 'laws.FnExactLinkCut': WHATEVER THE INPUT: true; the input reads as it did. -/
def fnExactLinkCutSpec : ChangeSpec := { name := "fnExactLinkCut", fn := fun _ => fun
  | [d] => { results := [.lit (.bool true)], args := [d] }
  | _ => none }
def fnExactLinkCutRow : OpenClaim := { program := "ytaaffhghpealjaa", sum := "188d4b2b08ffa327e9b08c35caa9f06f411509521db12c6abe7de6dcade884b8", func := "loop.example/g00387/laws.FnExactLinkCut", spec := "fnExactLinkCut", unfollowed := true, recurses := true, apart := false }
def FnExactLinkCutSaid : Prop := fnExactLinkCutRow.holds Try.pinned (OpenSpec.ofChange fnExactLinkCutSpec)

/-- ITS FALSE NEIGHBOUR: 'it returns false'. Refute it at one input. -/
def fnExactLinkCutWrong : ChangeSpec := { name := "fnExactLinkCut", fn := fun _ => fun
  | [d] => { results := [.lit (.bool false)], args := [d] }
  | _ => none }
def FnExactLinkCutWrongFalsely : Prop := fnExactLinkCutRow.holds Try.pinned (OpenSpec.ofChange fnExactLinkCutWrong)

/-- 'laws.FnExactLinkTick': WHATEVER THE INPUT: true; the input reads as it did. -/
def fnExactLinkTickSpec : ChangeSpec := { name := "fnExactLinkTick", fn := fun _ => fun
  | [d1, d2] => { results := [.lit (.bool true)], args := [d1, d2] }
  | _ => none }
def fnExactLinkTickRow : OpenClaim := { program := "ytaaffhghpealjaa", sum := "188d4b2b08ffa327e9b08c35caa9f06f411509521db12c6abe7de6dcade884b8", func := "loop.example/g00387/laws.FnExactLinkTick", spec := "fnExactLinkTick", unfollowed := true, recurses := true, apart := false }
def FnExactLinkTickSaid : Prop := fnExactLinkTickRow.holds Try.pinned (OpenSpec.ofChange fnExactLinkTickSpec)

/-- ITS FALSE NEIGHBOUR: 'it returns false'. Refute it at one input. -/
def fnExactLinkTickWrong : ChangeSpec := { name := "fnExactLinkTick", fn := fun _ => fun
  | [d1, d2] => { results := [.lit (.bool false)], args := [d1, d2] }
  | _ => none }
def FnExactLinkTickWrongFalsely : Prop := fnExactLinkTickRow.holds Try.pinned (OpenSpec.ofChange fnExactLinkTickWrong)

/-- 'laws.FnExactLinkPut': WHATEVER THE INPUT: true; the input reads as it did. -/
def fnExactLinkPutSpec : ChangeSpec := { name := "fnExactLinkPut", fn := fun _ => fun
  | [d1, d2, d3] => { results := [.lit (.bool true)], args := [d1, d2, d3] }
  | _ => none }
def fnExactLinkPutRow : OpenClaim := { program := "ytaaffhghpealjaa", sum := "188d4b2b08ffa327e9b08c35caa9f06f411509521db12c6abe7de6dcade884b8", func := "loop.example/g00387/laws.FnExactLinkPut", spec := "fnExactLinkPut", unfollowed := true, recurses := true, apart := false }
def FnExactLinkPutSaid : Prop := fnExactLinkPutRow.holds Try.pinned (OpenSpec.ofChange fnExactLinkPutSpec)

/-- ITS FALSE NEIGHBOUR: 'it returns false'. Refute it at one input. -/
def fnExactLinkPutWrong : ChangeSpec := { name := "fnExactLinkPut", fn := fun _ => fun
  | [d1, d2, d3] => { results := [.lit (.bool false)], args := [d1, d2, d3] }
  | _ => none }
def FnExactLinkPutWrongFalsely : Prop := fnExactLinkPutRow.holds Try.pinned (OpenSpec.ofChange fnExactLinkPutWrong)

/-- 'laws.FnExactLinkHear': WHATEVER THE INPUT: true; the input reads as it did. -/
def fnExactLinkHearSpec : ChangeSpec := { name := "fnExactLinkHear", fn := fun _ => fun
  | [d1, d2] => { results := [.lit (.bool true)], args := [d1, d2] }
  | _ => none }
def fnExactLinkHearRow : OpenClaim := { program := "ytaaffhghpealjaa", sum := "188d4b2b08ffa327e9b08c35caa9f06f411509521db12c6abe7de6dcade884b8", func := "loop.example/g00387/laws.FnExactLinkHear", spec := "fnExactLinkHear", unfollowed := true, recurses := true, apart := false }
def FnExactLinkHearSaid : Prop := fnExactLinkHearRow.holds Try.pinned (OpenSpec.ofChange fnExactLinkHearSpec)

/-- ITS FALSE NEIGHBOUR: 'it returns false'. Refute it at one input. -/
def fnExactLinkHearWrong : ChangeSpec := { name := "fnExactLinkHear", fn := fun _ => fun
  | [d1, d2] => { results := [.lit (.bool false)], args := [d1, d2] }
  | _ => none }
def FnExactLinkHearWrongFalsely : Prop := fnExactLinkHearRow.holds Try.pinned (OpenSpec.ofChange fnExactLinkHearWrong)

/-- 'laws.FnExactFrameRead': WHATEVER THE INPUT: true; the input reads as it did. -/
def fnExactFrameReadSpec : ChangeSpec := { name := "fnExactFrameRead", fn := fun _ => fun
  | [d] => { results := [.lit (.bool true)], args := [d] }
  | _ => none }
def fnExactFrameReadRow : OpenClaim := { program := "ytaaffhghpealjaa", sum := "188d4b2b08ffa327e9b08c35caa9f06f411509521db12c6abe7de6dcade884b8", func := "loop.example/g00387/laws.FnExactFrameRead", spec := "fnExactFrameRead", apart := false }
def FnExactFrameReadSaid : Prop := fnExactFrameReadRow.holds Try.pinned (OpenSpec.ofChange fnExactFrameReadSpec)

/-- ITS FALSE NEIGHBOUR: 'it returns false'. Refute it at one input. -/
def fnExactFrameReadWrong : ChangeSpec := { name := "fnExactFrameRead", fn := fun _ => fun
  | [d] => { results := [.lit (.bool false)], args := [d] }
  | _ => none }
def FnExactFrameReadWrongFalsely : Prop := fnExactFrameReadRow.holds Try.pinned (OpenSpec.ofChange fnExactFrameReadWrong)

/-- 'laws.FnLink': WHATEVER THE INPUT: true; the input reads as it did. -/
def fnLinkSpec : ChangeSpec := { name := "fnLink", fn := fun _ => fun
  | [d1, d2] => { results := [.lit (.bool true)], args := [d1, d2] }
  | _ => none }
def fnLinkRow : OpenClaim := { program := "ytaaffhghpealjaa", sum := "188d4b2b08ffa327e9b08c35caa9f06f411509521db12c6abe7de6dcade884b8", func := "loop.example/g00387/laws.FnLink", spec := "fnLink", unfollowed := true, recurses := true, apart := false }
def FnLinkSaid : Prop := fnLinkRow.holds Try.pinned (OpenSpec.ofChange fnLinkSpec)

/-- ITS FALSE NEIGHBOUR: 'it returns false'. Refute it at one input. -/
def fnLinkWrong : ChangeSpec := { name := "fnLink", fn := fun _ => fun
  | [d1, d2] => { results := [.lit (.bool false)], args := [d1, d2] }
  | _ => none }
def FnLinkWrongFalsely : Prop := fnLinkRow.holds Try.pinned (OpenSpec.ofChange fnLinkWrong)

/- THE SECOND FORM. 'bulk': how many values and letters a reading holds, each counted each time it is reached (what is shared counts as often as it is met; a slice's spare places count too). A statement '..UptoSaid' is the law's where the arguments, and the package variables that the reading takes, are together of bulk at most 1048576: NARROWER than '..Said'. Prove '..Said' where nothing that the law and all that it calls make is longer than what came in: it says more and counts as full. Else prove '..UptoSaid'. A law counts once. -/
mutual
def uptoBulk {H : Type} : DataW H → Nat
  | .lit (.string bytes) => bytes.length + 1
  | .lit _ => 1
  | .nil => 1
  | .ptr d => uptoBulk d + 1
  | .slice elems spare => uptoBulkAll elems + uptoBulkAll spare + 1
  | .agg parts => uptoBulkAll parts + 1
  | .iface _ d => uptoBulk d + 1
  | .map entries => uptoBulkEntries entries + 1
  | .held _ => 1
def uptoBulkAll {H : Type} : List (DataW H) → Nat
  | [] => 0
  | d :: r => uptoBulk d + uptoBulkAll r
def uptoBulkEntries {H : Type} : List (Lit × DataW H) → Nat
  | [] => 0
  | x :: r => uptoBulkEntry x + uptoBulkEntries r
def uptoBulkEntry {H : Type} : Lit × DataW H → Nat
  | (.string bytes, d) => bytes.length + uptoBulk d + 1
  | (_, d) => uptoBulk d + 1
 end
def uptoSmall : (H : Type) → List (DataW H) → Bool := fun _ ds => decide (uptoBulkAll ds ≤ 1048576)
def OpenSpec.upto (s : _root_.Go.ChangeSpec) : _root_.Go.OpenSpec := { _root_.Go.OpenSpec.ofChange s with cond := some uptoSmall }

/-- 'laws.FnExactLinkNew', WHERE WHAT IT READS IS OF BULK AT MOST 1048576: true; the input reads as it did. -/
def fnExactLinkNewUptoRow : OpenClaim := { program := "ytaaffhghpealjaa", sum := "188d4b2b08ffa327e9b08c35caa9f06f411509521db12c6abe7de6dcade884b8", func := "loop.example/g00387/laws.FnExactLinkNew", spec := "fnExactLinkNew", apart := false, narrowed := true }
def FnExactLinkNewUptoSaid : Prop := fnExactLinkNewUptoRow.holds Try.pinned (OpenSpec.upto fnExactLinkNewSpec)

/-- 'laws.FnExactLinkRight', WHERE WHAT IT READS IS OF BULK AT MOST 1048576: true; the input reads as it did. -/
def fnExactLinkRightUptoRow : OpenClaim := { program := "ytaaffhghpealjaa", sum := "188d4b2b08ffa327e9b08c35caa9f06f411509521db12c6abe7de6dcade884b8", func := "loop.example/g00387/laws.FnExactLinkRight", spec := "fnExactLinkRight", unfollowed := true, recurses := true, apart := false, narrowed := true }
def FnExactLinkRightUptoSaid : Prop := fnExactLinkRightUptoRow.holds Try.pinned (OpenSpec.upto fnExactLinkRightSpec)

/-- 'laws.FnExactFrameBytes', WHERE WHAT IT READS IS OF BULK AT MOST 1048576: true; the input reads as it did. -/
def fnExactFrameBytesUptoRow : OpenClaim := { program := "ytaaffhghpealjaa", sum := "188d4b2b08ffa327e9b08c35caa9f06f411509521db12c6abe7de6dcade884b8", func := "loop.example/g00387/laws.FnExactFrameBytes", spec := "fnExactFrameBytes", apart := false, narrowed := true }
def FnExactFrameBytesUptoSaid : Prop := fnExactFrameBytesUptoRow.holds Try.pinned (OpenSpec.upto fnExactFrameBytesSpec)

/-- 'laws.FnOnce', WHERE WHAT IT READS IS OF BULK AT MOST 1048576: true; the input reads as it did. -/
def fnOnceUptoRow : OpenClaim := { program := "ytaaffhghpealjaa", sum := "188d4b2b08ffa327e9b08c35caa9f06f411509521db12c6abe7de6dcade884b8", func := "loop.example/g00387/laws.FnOnce", spec := "fnOnce", unfollowed := true, recurses := true, apart := false, narrowed := true }
def FnOnceUptoSaid : Prop := fnOnceUptoRow.holds Try.pinned (OpenSpec.upto fnOnceSpec)

/-- 'laws.FnExactLinkCut', WHERE WHAT IT READS IS OF BULK AT MOST 1048576: true; the input reads as it did. -/
def fnExactLinkCutUptoRow : OpenClaim := { program := "ytaaffhghpealjaa", sum := "188d4b2b08ffa327e9b08c35caa9f06f411509521db12c6abe7de6dcade884b8", func := "loop.example/g00387/laws.FnExactLinkCut", spec := "fnExactLinkCut", unfollowed := true, recurses := true, apart := false, narrowed := true }
def FnExactLinkCutUptoSaid : Prop := fnExactLinkCutUptoRow.holds Try.pinned (OpenSpec.upto fnExactLinkCutSpec)

/-- 'laws.FnExactLinkTick', WHERE WHAT IT READS IS OF BULK AT MOST 1048576: true; the input reads as it did. -/
def fnExactLinkTickUptoRow : OpenClaim := { program := "ytaaffhghpealjaa", sum := "188d4b2b08ffa327e9b08c35caa9f06f411509521db12c6abe7de6dcade884b8", func := "loop.example/g00387/laws.FnExactLinkTick", spec := "fnExactLinkTick", unfollowed := true, recurses := true, apart := false, narrowed := true }
def FnExactLinkTickUptoSaid : Prop := fnExactLinkTickUptoRow.holds Try.pinned (OpenSpec.upto fnExactLinkTickSpec)

/-- 'laws.FnExactLinkPut', WHERE WHAT IT READS IS OF BULK AT MOST 1048576: true; the input reads as it did. -/
def fnExactLinkPutUptoRow : OpenClaim := { program := "ytaaffhghpealjaa", sum := "188d4b2b08ffa327e9b08c35caa9f06f411509521db12c6abe7de6dcade884b8", func := "loop.example/g00387/laws.FnExactLinkPut", spec := "fnExactLinkPut", unfollowed := true, recurses := true, apart := false, narrowed := true }
def FnExactLinkPutUptoSaid : Prop := fnExactLinkPutUptoRow.holds Try.pinned (OpenSpec.upto fnExactLinkPutSpec)

/-- 'laws.FnExactLinkHear', WHERE WHAT IT READS IS OF BULK AT MOST 1048576: true; the input reads as it did. -/
def fnExactLinkHearUptoRow : OpenClaim := { program := "ytaaffhghpealjaa", sum := "188d4b2b08ffa327e9b08c35caa9f06f411509521db12c6abe7de6dcade884b8", func := "loop.example/g00387/laws.FnExactLinkHear", spec := "fnExactLinkHear", unfollowed := true, recurses := true, apart := false, narrowed := true }
def FnExactLinkHearUptoSaid : Prop := fnExactLinkHearUptoRow.holds Try.pinned (OpenSpec.upto fnExactLinkHearSpec)

/-- 'laws.FnExactFrameRead', WHERE WHAT IT READS IS OF BULK AT MOST 1048576: true; the input reads as it did. -/
def fnExactFrameReadUptoRow : OpenClaim := { program := "ytaaffhghpealjaa", sum := "188d4b2b08ffa327e9b08c35caa9f06f411509521db12c6abe7de6dcade884b8", func := "loop.example/g00387/laws.FnExactFrameRead", spec := "fnExactFrameRead", apart := false, narrowed := true }
def FnExactFrameReadUptoSaid : Prop := fnExactFrameReadUptoRow.holds Try.pinned (OpenSpec.upto fnExactFrameReadSpec)

/-- 'laws.FnLink', WHERE WHAT IT READS IS OF BULK AT MOST 1048576: true; the input reads as it did. -/
def fnLinkUptoRow : OpenClaim := { program := "ytaaffhghpealjaa", sum := "188d4b2b08ffa327e9b08c35caa9f06f411509521db12c6abe7de6dcade884b8", func := "loop.example/g00387/laws.FnLink", spec := "fnLink", unfollowed := true, recurses := true, apart := false, narrowed := true }
def FnLinkUptoSaid : Prop := fnLinkUptoRow.holds Try.pinned (OpenSpec.upto fnLinkSpec)

end Rows
end Go.Proofs.Ytaaffhghpealjaa
