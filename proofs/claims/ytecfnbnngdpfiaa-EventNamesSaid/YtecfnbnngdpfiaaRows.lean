/-
  No cell of these rows narrows 'for every input' (looked for: loops, veiled, ifaces, maps, wideKeys, modest, calm, conditions, laid).
  DERIVED. THE GIVEN ROWS OF THIS SEAT. 12 by the template 'for every input the law returns true; each argument reads behind the call as it read before'; 0 by the template 'total and deterministic' (their statements: YtecfnbnngdpfiaaTotals.lean).
  GIVEN WITH THE SEED: the statements are not yours to turn. If you find one false, say at which input.
  Laid BY PROGRAM, IN A SANDBOX (cutbox-rows.mjs): the forced cells as the released guide's own fill.sh prints them over the translation 58b101bddc7a7b6d… (all of the seat's roots in one cut). By AI agents, Wed Nov 11 2026. No macro, syntax, notation, axiom, sorry.
-/
import Derived.Test.YtecfnbnngdpfiaaChecked
import GoSem.Claim
import GoSem.ClaimJoined
import GoSem.ClaimMapViews
import Derived.JoinedTies
import Derived.KernelRfl
namespace Go.Proofs.Ytecfnbnngdpfiaa
/- THE CELL 'sum', in the pinned program and in every row, IS THE sha256 OF THE DUMP (.gsa) THAT YtecfnbnngdpfiaaProg.lean LOADS. Nothing in Lean hashes anything: it is a label: what it is worth is what the hold of that sum in a sandbox is worth. -/
noncomputable def Try.pinned : Pinned := { name := "ytecfnbnngdpfiaa", sum := "58b101bddc7a7b6d762821280bd6a57cddfd18e590e0c51ecfed42cd9133276d", checked := Try.checked }
namespace Rows
def none {H : Type} : Left H := { results := [], args := [] }

/-- 'clewlaw04.VintSigns': WHATEVER THE INPUT: true; the input reads as it did. -/
def vintSignsSpec : ChangeSpec := { name := "vintSigns", fn := fun _ => fun
  | [d1, d2] => { results := [.lit (.bool true)], args := [d1, d2] }
  | _ => none }
def vintSignsRow : OpenClaim := { program := "ytecfnbnngdpfiaa", sum := "58b101bddc7a7b6d762821280bd6a57cddfd18e590e0c51ecfed42cd9133276d", func := "clew/clewlaw04.VintSigns", spec := "vintSigns", recurses := true, apart := false }
def VintSignsSaid : Prop := vintSignsRow.holds Try.pinned (OpenSpec.ofChange vintSignsSpec)

/-- ITS FALSE NEIGHBOUR: 'it returns false'. Refute it at one input. -/
def vintSignsWrong : ChangeSpec := { name := "vintSigns", fn := fun _ => fun
  | [d1, d2] => { results := [.lit (.bool false)], args := [d1, d2] }
  | _ => none }
def VintSignsWrongFalsely : Prop := vintSignsRow.holds Try.pinned (OpenSpec.ofChange vintSignsWrong)

/-- 'clewlaw14.EventNames': WHATEVER THE INPUT: true; the input reads as it did. -/
def eventNamesSpec : ChangeSpec := { name := "eventNames", fn := fun _ => fun
  | [d1, d2] => { results := [.lit (.bool true)], args := [d1, d2] }
  | _ => none }
def eventNamesRow : OpenClaim := { program := "ytecfnbnngdpfiaa", sum := "58b101bddc7a7b6d762821280bd6a57cddfd18e590e0c51ecfed42cd9133276d", func := "clew/clewlaw14.EventNames", spec := "eventNames", apart := false }
def EventNamesSaid : Prop := eventNamesRow.holds Try.pinned (OpenSpec.ofChange eventNamesSpec)

/-- ITS FALSE NEIGHBOUR: 'it returns false'. Refute it at one input. -/
def eventNamesWrong : ChangeSpec := { name := "eventNames", fn := fun _ => fun
  | [d1, d2] => { results := [.lit (.bool false)], args := [d1, d2] }
  | _ => none }
def EventNamesWrongFalsely : Prop := eventNamesRow.holds Try.pinned (OpenSpec.ofChange eventNamesWrong)

/-- 'clewlaw14.EventSpans': WHATEVER THE INPUT: true; the input reads as it did. -/
def eventSpansSpec : ChangeSpec := { name := "eventSpans", fn := fun _ => fun
  | [d1, d2] => { results := [.lit (.bool true)], args := [d1, d2] }
  | _ => none }
def eventSpansRow : OpenClaim := { program := "ytecfnbnngdpfiaa", sum := "58b101bddc7a7b6d762821280bd6a57cddfd18e590e0c51ecfed42cd9133276d", func := "clew/clewlaw14.EventSpans", spec := "eventSpans", apart := false }
def EventSpansSaid : Prop := eventSpansRow.holds Try.pinned (OpenSpec.ofChange eventSpansSpec)

/-- ITS FALSE NEIGHBOUR: 'it returns false'. Refute it at one input. -/
def eventSpansWrong : ChangeSpec := { name := "eventSpans", fn := fun _ => fun
  | [d1, d2] => { results := [.lit (.bool false)], args := [d1, d2] }
  | _ => none }
def EventSpansWrongFalsely : Prop := eventSpansRow.holds Try.pinned (OpenSpec.ofChange eventSpansWrong)

/-- 'clewlaw14.EventRight': WHATEVER THE INPUT: true; the input reads as it did. -/
def eventRightSpec : ChangeSpec := { name := "eventRight", fn := fun _ => fun
  | [d1, d2] => { results := [.lit (.bool true)], args := [d1, d2] }
  | _ => none }
def eventRightRow : OpenClaim := { program := "ytecfnbnngdpfiaa", sum := "58b101bddc7a7b6d762821280bd6a57cddfd18e590e0c51ecfed42cd9133276d", func := "clew/clewlaw14.EventRight", spec := "eventRight", unfollowed := true, recurses := true, apart := false }
def EventRightSaid : Prop := eventRightRow.holds Try.pinned (OpenSpec.ofChange eventRightSpec)

/-- ITS FALSE NEIGHBOUR: 'it returns false'. Refute it at one input. -/
def eventRightWrong : ChangeSpec := { name := "eventRight", fn := fun _ => fun
  | [d1, d2] => { results := [.lit (.bool false)], args := [d1, d2] }
  | _ => none }
def EventRightWrongFalsely : Prop := eventRightRow.holds Try.pinned (OpenSpec.ofChange eventRightWrong)

/-- 'clewlaw04.VintBytes': WHATEVER THE INPUT: true; the input reads as it did. -/
def vintBytesSpec : ChangeSpec := { name := "vintBytes", fn := fun _ => fun
  | [d1, d2, d3] => { results := [.lit (.bool true)], args := [d1, d2, d3] }
  | _ => none }
def vintBytesRow : OpenClaim := { program := "ytecfnbnngdpfiaa", sum := "58b101bddc7a7b6d762821280bd6a57cddfd18e590e0c51ecfed42cd9133276d", func := "clew/clewlaw04.VintBytes", spec := "vintBytes", recurses := true, apart := false }
def VintBytesSaid : Prop := vintBytesRow.holds Try.pinned (OpenSpec.ofChange vintBytesSpec)

/-- ITS FALSE NEIGHBOUR: 'it returns false'. Refute it at one input. -/
def vintBytesWrong : ChangeSpec := { name := "vintBytes", fn := fun _ => fun
  | [d1, d2, d3] => { results := [.lit (.bool false)], args := [d1, d2, d3] }
  | _ => none }
def VintBytesWrongFalsely : Prop := vintBytesRow.holds Try.pinned (OpenSpec.ofChange vintBytesWrong)

/-- 'clewlaw04.VintGets': WHATEVER THE INPUT: true; the input reads as it did. -/
def vintGetsSpec : ChangeSpec := { name := "vintGets", fn := fun _ => fun
  | [d1, d2] => { results := [.lit (.bool true)], args := [d1, d2] }
  | _ => none }
def vintGetsRow : OpenClaim := { program := "ytecfnbnngdpfiaa", sum := "58b101bddc7a7b6d762821280bd6a57cddfd18e590e0c51ecfed42cd9133276d", func := "clew/clewlaw04.VintGets", spec := "vintGets", apart := false }
def VintGetsSaid : Prop := vintGetsRow.holds Try.pinned (OpenSpec.ofChange vintGetsSpec)

/-- ITS FALSE NEIGHBOUR: 'it returns false'. Refute it at one input. -/
def vintGetsWrong : ChangeSpec := { name := "vintGets", fn := fun _ => fun
  | [d1, d2] => { results := [.lit (.bool false)], args := [d1, d2] }
  | _ => none }
def VintGetsWrongFalsely : Prop := vintGetsRow.holds Try.pinned (OpenSpec.ofChange vintGetsWrong)

/-- 'clewlaw20.FileAny': WHATEVER THE INPUT: true; the input reads as it did. -/
def fileAnySpec : ChangeSpec := { name := "fileAny", fn := fun _ => fun
  | [d] => { results := [.lit (.bool true)], args := [d] }
  | _ => none }
def fileAnyRow : OpenClaim := { program := "ytecfnbnngdpfiaa", sum := "58b101bddc7a7b6d762821280bd6a57cddfd18e590e0c51ecfed42cd9133276d", func := "clew/clewlaw20.FileAny", spec := "fileAny", unfollowed := true, recurses := true, apart := false }
def FileAnySaid : Prop := fileAnyRow.holds Try.pinned (OpenSpec.ofChange fileAnySpec)

/-- ITS FALSE NEIGHBOUR: 'it returns false'. Refute it at one input. -/
def fileAnyWrong : ChangeSpec := { name := "fileAny", fn := fun _ => fun
  | [d] => { results := [.lit (.bool false)], args := [d] }
  | _ => none }
def FileAnyWrongFalsely : Prop := fileAnyRow.holds Try.pinned (OpenSpec.ofChange fileAnyWrong)

/-- 'clewlaw04.VintOnce': WHATEVER THE INPUT: true; the input reads as it did. -/
def vintOnceSpec : ChangeSpec := { name := "vintOnce", fn := fun _ => fun
  | [d1, d2] => { results := [.lit (.bool true)], args := [d1, d2] }
  | _ => none }
def vintOnceRow : OpenClaim := { program := "ytecfnbnngdpfiaa", sum := "58b101bddc7a7b6d762821280bd6a57cddfd18e590e0c51ecfed42cd9133276d", func := "clew/clewlaw04.VintOnce", spec := "vintOnce", apart := false }
def VintOnceSaid : Prop := vintOnceRow.holds Try.pinned (OpenSpec.ofChange vintOnceSpec)

/-- ITS FALSE NEIGHBOUR: 'it returns false'. Refute it at one input. -/
def vintOnceWrong : ChangeSpec := { name := "vintOnce", fn := fun _ => fun
  | [d1, d2] => { results := [.lit (.bool false)], args := [d1, d2] }
  | _ => none }
def VintOnceWrongFalsely : Prop := vintOnceRow.holds Try.pinned (OpenSpec.ofChange vintOnceWrong)

/-- 'clewlaw16.PileCuts': WHATEVER THE INPUT: true; the input reads as it did. -/
def pileCutsSpec : ChangeSpec := { name := "pileCuts", fn := fun _ => fun
  | [d1, d2] => { results := [.lit (.bool true)], args := [d1, d2] }
  | _ => none }
def pileCutsRow : OpenClaim := { program := "ytecfnbnngdpfiaa", sum := "58b101bddc7a7b6d762821280bd6a57cddfd18e590e0c51ecfed42cd9133276d", func := "clew/clewlaw16.PileCuts", spec := "pileCuts", apart := false }
def PileCutsSaid : Prop := pileCutsRow.holds Try.pinned (OpenSpec.ofChange pileCutsSpec)

/-- ITS FALSE NEIGHBOUR: 'it returns false'. Refute it at one input. -/
def pileCutsWrong : ChangeSpec := { name := "pileCuts", fn := fun _ => fun
  | [d1, d2] => { results := [.lit (.bool false)], args := [d1, d2] }
  | _ => none }
def PileCutsWrongFalsely : Prop := pileCutsRow.holds Try.pinned (OpenSpec.ofChange pileCutsWrong)

/-- 'clewlaw20.FileOpens': WHATEVER THE INPUT: true; the input reads as it did. -/
def fileOpensSpec : ChangeSpec := { name := "fileOpens", fn := fun _ => fun
  | [d1, d2, d3] => { results := [.lit (.bool true)], args := [d1, d2, d3] }
  | _ => none }
def fileOpensRow : OpenClaim := { program := "ytecfnbnngdpfiaa", sum := "58b101bddc7a7b6d762821280bd6a57cddfd18e590e0c51ecfed42cd9133276d", func := "clew/clewlaw20.FileOpens", spec := "fileOpens", unfollowed := true, recurses := true, apart := false }
def FileOpensSaid : Prop := fileOpensRow.holds Try.pinned (OpenSpec.ofChange fileOpensSpec)

/-- ITS FALSE NEIGHBOUR: 'it returns false'. Refute it at one input. -/
def fileOpensWrong : ChangeSpec := { name := "fileOpens", fn := fun _ => fun
  | [d1, d2, d3] => { results := [.lit (.bool false)], args := [d1, d2, d3] }
  | _ => none }
def FileOpensWrongFalsely : Prop := fileOpensRow.holds Try.pinned (OpenSpec.ofChange fileOpensWrong)

/-- 'clewlaw14.EventSame': WHATEVER THE INPUT: true; the input reads as it did. -/
def eventSameSpec : ChangeSpec := { name := "eventSame", fn := fun _ => fun
  | [d1, d2, d3] => { results := [.lit (.bool true)], args := [d1, d2, d3] }
  | _ => none }
def eventSameRow : OpenClaim := { program := "ytecfnbnngdpfiaa", sum := "58b101bddc7a7b6d762821280bd6a57cddfd18e590e0c51ecfed42cd9133276d", func := "clew/clewlaw14.EventSame", spec := "eventSame", apart := false }
def EventSameSaid : Prop := eventSameRow.holds Try.pinned (OpenSpec.ofChange eventSameSpec)

/-- ITS FALSE NEIGHBOUR: 'it returns false'. Refute it at one input. -/
def eventSameWrong : ChangeSpec := { name := "eventSame", fn := fun _ => fun
  | [d1, d2, d3] => { results := [.lit (.bool false)], args := [d1, d2, d3] }
  | _ => none }
def EventSameWrongFalsely : Prop := eventSameRow.holds Try.pinned (OpenSpec.ofChange eventSameWrong)

/-- 'clewlaw04.VintSigned': WHATEVER THE INPUT: true; the input reads as it did. -/
def vintSignedSpec : ChangeSpec := { name := "vintSigned", fn := fun _ => fun
  | [d1, d2] => { results := [.lit (.bool true)], args := [d1, d2] }
  | _ => none }
def vintSignedRow : OpenClaim := { program := "ytecfnbnngdpfiaa", sum := "58b101bddc7a7b6d762821280bd6a57cddfd18e590e0c51ecfed42cd9133276d", func := "clew/clewlaw04.VintSigned", spec := "vintSigned", apart := false }
def VintSignedSaid : Prop := vintSignedRow.holds Try.pinned (OpenSpec.ofChange vintSignedSpec)

/-- ITS FALSE NEIGHBOUR: 'it returns false'. Refute it at one input. -/
def vintSignedWrong : ChangeSpec := { name := "vintSigned", fn := fun _ => fun
  | [d1, d2] => { results := [.lit (.bool false)], args := [d1, d2] }
  | _ => none }
def VintSignedWrongFalsely : Prop := vintSignedRow.holds Try.pinned (OpenSpec.ofChange vintSignedWrong)

/- THE SECOND FORM. 'bulk': how many values and letters a reading holds, each counted each time it is reached (what is shared counts as often as it is met; a slice's spare places count too). A statement '..UptoSaid' is the law's where the arguments, and the package variables that the reading takes, are together of bulk at most 1048576: NARROWER than '..Said'. Prove '..Said' where nothing that the law and all that it calls make is longer than what came in: it says more and counts as full. Else prove '..UptoSaid'. A law counts once. -/
mutual
def uptoBulk {H : Type} : DataW H → Nat
  | .lit (.string bytes) => bytes.length + 1
  | .lit _ => 1
  | .nil => 1
  | .ptr d => uptoBulk d + 1
  | .slice elems spare => uptoBulkAll elems + uptoBulkAll spare + 1
  | .agg parts => uptoBulkAll parts + 1
  | .iface _ d => uptoBulk d + 1
  | .map entries => uptoBulkEntries entries + 1
  | .held _ => 1
def uptoBulkAll {H : Type} : List (DataW H) → Nat
  | [] => 0
  | d :: r => uptoBulk d + uptoBulkAll r
def uptoBulkEntries {H : Type} : List (Lit × DataW H) → Nat
  | [] => 0
  | x :: r => uptoBulkEntry x + uptoBulkEntries r
def uptoBulkEntry {H : Type} : Lit × DataW H → Nat
  | (.string bytes, d) => bytes.length + uptoBulk d + 1
  | (_, d) => uptoBulk d + 1
 end
def uptoSmall : (H : Type) → List (DataW H) → Bool := fun _ ds => decide (uptoBulkAll ds ≤ 1048576)
def OpenSpec.upto (s : _root_.Go.ChangeSpec) : _root_.Go.OpenSpec := { _root_.Go.OpenSpec.ofChange s with cond := some uptoSmall }

/-- 'clewlaw04.VintSigns', WHERE WHAT IT READS IS OF BULK AT MOST 1048576: true; the input reads as it did. -/
def vintSignsUptoRow : OpenClaim := { program := "ytecfnbnngdpfiaa", sum := "58b101bddc7a7b6d762821280bd6a57cddfd18e590e0c51ecfed42cd9133276d", func := "clew/clewlaw04.VintSigns", spec := "vintSigns", recurses := true, apart := false, narrowed := true }
def VintSignsUptoSaid : Prop := vintSignsUptoRow.holds Try.pinned (OpenSpec.upto vintSignsSpec)

/-- 'clewlaw14.EventNames', WHERE WHAT IT READS IS OF BULK AT MOST 1048576: true; the input reads as it did. -/
def eventNamesUptoRow : OpenClaim := { program := "ytecfnbnngdpfiaa", sum := "58b101bddc7a7b6d762821280bd6a57cddfd18e590e0c51ecfed42cd9133276d", func := "clew/clewlaw14.EventNames", spec := "eventNames", apart := false, narrowed := true }
def EventNamesUptoSaid : Prop := eventNamesUptoRow.holds Try.pinned (OpenSpec.upto eventNamesSpec)

/-- 'clewlaw14.EventSpans', WHERE WHAT IT READS IS OF BULK AT MOST 1048576: true; the input reads as it did. -/
def eventSpansUptoRow : OpenClaim := { program := "ytecfnbnngdpfiaa", sum := "58b101bddc7a7b6d762821280bd6a57cddfd18e590e0c51ecfed42cd9133276d", func := "clew/clewlaw14.EventSpans", spec := "eventSpans", apart := false, narrowed := true }
def EventSpansUptoSaid : Prop := eventSpansUptoRow.holds Try.pinned (OpenSpec.upto eventSpansSpec)

/-- 'clewlaw14.EventRight', WHERE WHAT IT READS IS OF BULK AT MOST 1048576: true; the input reads as it did. -/
def eventRightUptoRow : OpenClaim := { program := "ytecfnbnngdpfiaa", sum := "58b101bddc7a7b6d762821280bd6a57cddfd18e590e0c51ecfed42cd9133276d", func := "clew/clewlaw14.EventRight", spec := "eventRight", unfollowed := true, recurses := true, apart := false, narrowed := true }
def EventRightUptoSaid : Prop := eventRightUptoRow.holds Try.pinned (OpenSpec.upto eventRightSpec)

/-- 'clewlaw04.VintBytes', WHERE WHAT IT READS IS OF BULK AT MOST 1048576: true; the input reads as it did. -/
def vintBytesUptoRow : OpenClaim := { program := "ytecfnbnngdpfiaa", sum := "58b101bddc7a7b6d762821280bd6a57cddfd18e590e0c51ecfed42cd9133276d", func := "clew/clewlaw04.VintBytes", spec := "vintBytes", recurses := true, apart := false, narrowed := true }
def VintBytesUptoSaid : Prop := vintBytesUptoRow.holds Try.pinned (OpenSpec.upto vintBytesSpec)

/-- 'clewlaw04.VintGets', WHERE WHAT IT READS IS OF BULK AT MOST 1048576: true; the input reads as it did. -/
def vintGetsUptoRow : OpenClaim := { program := "ytecfnbnngdpfiaa", sum := "58b101bddc7a7b6d762821280bd6a57cddfd18e590e0c51ecfed42cd9133276d", func := "clew/clewlaw04.VintGets", spec := "vintGets", apart := false, narrowed := true }
def VintGetsUptoSaid : Prop := vintGetsUptoRow.holds Try.pinned (OpenSpec.upto vintGetsSpec)

/-- 'clewlaw20.FileAny', WHERE WHAT IT READS IS OF BULK AT MOST 1048576: true; the input reads as it did. -/
def fileAnyUptoRow : OpenClaim := { program := "ytecfnbnngdpfiaa", sum := "58b101bddc7a7b6d762821280bd6a57cddfd18e590e0c51ecfed42cd9133276d", func := "clew/clewlaw20.FileAny", spec := "fileAny", unfollowed := true, recurses := true, apart := false, narrowed := true }
def FileAnyUptoSaid : Prop := fileAnyUptoRow.holds Try.pinned (OpenSpec.upto fileAnySpec)

/-- 'clewlaw04.VintOnce', WHERE WHAT IT READS IS OF BULK AT MOST 1048576: true; the input reads as it did. -/
def vintOnceUptoRow : OpenClaim := { program := "ytecfnbnngdpfiaa", sum := "58b101bddc7a7b6d762821280bd6a57cddfd18e590e0c51ecfed42cd9133276d", func := "clew/clewlaw04.VintOnce", spec := "vintOnce", apart := false, narrowed := true }
def VintOnceUptoSaid : Prop := vintOnceUptoRow.holds Try.pinned (OpenSpec.upto vintOnceSpec)

/-- 'clewlaw16.PileCuts', WHERE WHAT IT READS IS OF BULK AT MOST 1048576: true; the input reads as it did. -/
def pileCutsUptoRow : OpenClaim := { program := "ytecfnbnngdpfiaa", sum := "58b101bddc7a7b6d762821280bd6a57cddfd18e590e0c51ecfed42cd9133276d", func := "clew/clewlaw16.PileCuts", spec := "pileCuts", apart := false, narrowed := true }
def PileCutsUptoSaid : Prop := pileCutsUptoRow.holds Try.pinned (OpenSpec.upto pileCutsSpec)

/-- 'clewlaw20.FileOpens', WHERE WHAT IT READS IS OF BULK AT MOST 1048576: true; the input reads as it did. -/
def fileOpensUptoRow : OpenClaim := { program := "ytecfnbnngdpfiaa", sum := "58b101bddc7a7b6d762821280bd6a57cddfd18e590e0c51ecfed42cd9133276d", func := "clew/clewlaw20.FileOpens", spec := "fileOpens", unfollowed := true, recurses := true, apart := false, narrowed := true }
def FileOpensUptoSaid : Prop := fileOpensUptoRow.holds Try.pinned (OpenSpec.upto fileOpensSpec)

/-- 'clewlaw14.EventSame', WHERE WHAT IT READS IS OF BULK AT MOST 1048576: true; the input reads as it did. -/
def eventSameUptoRow : OpenClaim := { program := "ytecfnbnngdpfiaa", sum := "58b101bddc7a7b6d762821280bd6a57cddfd18e590e0c51ecfed42cd9133276d", func := "clew/clewlaw14.EventSame", spec := "eventSame", apart := false, narrowed := true }
def EventSameUptoSaid : Prop := eventSameUptoRow.holds Try.pinned (OpenSpec.upto eventSameSpec)

/-- 'clewlaw04.VintSigned', WHERE WHAT IT READS IS OF BULK AT MOST 1048576: true; the input reads as it did. -/
def vintSignedUptoRow : OpenClaim := { program := "ytecfnbnngdpfiaa", sum := "58b101bddc7a7b6d762821280bd6a57cddfd18e590e0c51ecfed42cd9133276d", func := "clew/clewlaw04.VintSigned", spec := "vintSigned", apart := false, narrowed := true }
def VintSignedUptoSaid : Prop := vintSignedUptoRow.holds Try.pinned (OpenSpec.upto vintSignedSpec)

end Rows
end Go.Proofs.Ytecfnbnngdpfiaa
