/-
  No cell of these rows narrows 'for every input' (looked for: loops, veiled, ifaces, maps, wideKeys, modest, calm, conditions, laid).
  DERIVED. THE GIVEN ROWS OF THIS SEAT. 19 by the template 'for every input the law returns true; each argument reads behind the call as it read before'; 0 by the template 'total and deterministic' (their statements: YtlcglefbhlhcpaaTotals.lean).
  GIVEN WITH THE SEED: the statements are not yours to turn. If you find one false, say at which input.
  Laid BY PROGRAM, IN A SANDBOX (cutbox-rows.mjs): the forced cells as the released guide's own fill.sh prints them over the translation b585a9a82b975005… (all of the seat's roots in one cut). By AI agents, Wed Nov 11 2026. No macro, syntax, notation, axiom, sorry.
-/
import Derived.Test.YtlcglefbhlhcpaaChecked
import GoSem.Claim
import GoSem.ClaimJoined
import GoSem.ClaimMapViews
import Derived.JoinedTies
import Derived.KernelRfl
namespace Go.Proofs.Ytlcglefbhlhcpaa
/- THE CELL 'sum', in the pinned program and in every row, IS THE sha256 OF THE DUMP (.gsa) THAT YtlcglefbhlhcpaaProg.lean LOADS. Nothing in Lean hashes anything: it is a label: what it is worth is what the hold of that sum in a sandbox is worth. -/
noncomputable def Try.pinned : Pinned := { name := "ytlcglefbhlhcpaa", sum := "b585a9a82b975005865035d911d3f04f82b2183f94760ebbf6dc44232f263481", checked := Try.checked }
namespace Rows
def none {H : Type} : Left H := { results := [], args := [] }

/-- 'clewlaw20.FileAny': WHATEVER THE INPUT: true; the input reads as it did. -/
def fileAnySpec : ChangeSpec := { name := "fileAny", fn := fun _ => fun
  | [d] => { results := [.lit (.bool true)], args := [d] }
  | _ => none }
def fileAnyRow : OpenClaim := { program := "ytlcglefbhlhcpaa", sum := "b585a9a82b975005865035d911d3f04f82b2183f94760ebbf6dc44232f263481", func := "clew/clewlaw20.FileAny", spec := "fileAny", unfollowed := true, recurses := true, apart := false }
def FileAnySaid : Prop := fileAnyRow.holds Try.pinned (OpenSpec.ofChange fileAnySpec)

/-- ITS FALSE NEIGHBOUR: 'it returns false'. Refute it at one input. -/
def fileAnyWrong : ChangeSpec := { name := "fileAny", fn := fun _ => fun
  | [d] => { results := [.lit (.bool false)], args := [d] }
  | _ => none }
def FileAnyWrongFalsely : Prop := fileAnyRow.holds Try.pinned (OpenSpec.ofChange fileAnyWrong)

/-- 'clewlaw16.PileCuts': WHATEVER THE INPUT: true; the input reads as it did. -/
def pileCutsSpec : ChangeSpec := { name := "pileCuts", fn := fun _ => fun
  | [d1, d2] => { results := [.lit (.bool true)], args := [d1, d2] }
  | _ => none }
def pileCutsRow : OpenClaim := { program := "ytlcglefbhlhcpaa", sum := "b585a9a82b975005865035d911d3f04f82b2183f94760ebbf6dc44232f263481", func := "clew/clewlaw16.PileCuts", spec := "pileCuts", apart := false }
def PileCutsSaid : Prop := pileCutsRow.holds Try.pinned (OpenSpec.ofChange pileCutsSpec)

/-- ITS FALSE NEIGHBOUR: 'it returns false'. Refute it at one input. -/
def pileCutsWrong : ChangeSpec := { name := "pileCuts", fn := fun _ => fun
  | [d1, d2] => { results := [.lit (.bool false)], args := [d1, d2] }
  | _ => none }
def PileCutsWrongFalsely : Prop := pileCutsRow.holds Try.pinned (OpenSpec.ofChange pileCutsWrong)

/-- 'clewlaw20.FileOpens': WHATEVER THE INPUT: true; the input reads as it did. -/
def fileOpensSpec : ChangeSpec := { name := "fileOpens", fn := fun _ => fun
  | [d1, d2, d3] => { results := [.lit (.bool true)], args := [d1, d2, d3] }
  | _ => none }
def fileOpensRow : OpenClaim := { program := "ytlcglefbhlhcpaa", sum := "b585a9a82b975005865035d911d3f04f82b2183f94760ebbf6dc44232f263481", func := "clew/clewlaw20.FileOpens", spec := "fileOpens", unfollowed := true, recurses := true, apart := false }
def FileOpensSaid : Prop := fileOpensRow.holds Try.pinned (OpenSpec.ofChange fileOpensSpec)

/-- ITS FALSE NEIGHBOUR: 'it returns false'. Refute it at one input. -/
def fileOpensWrong : ChangeSpec := { name := "fileOpens", fn := fun _ => fun
  | [d1, d2, d3] => { results := [.lit (.bool false)], args := [d1, d2, d3] }
  | _ => none }
def FileOpensWrongFalsely : Prop := fileOpensRow.holds Try.pinned (OpenSpec.ofChange fileOpensWrong)

/-- 'clewlaw14.EventSame': WHATEVER THE INPUT: true; the input reads as it did. -/
def eventSameSpec : ChangeSpec := { name := "eventSame", fn := fun _ => fun
  | [d1, d2, d3] => { results := [.lit (.bool true)], args := [d1, d2, d3] }
  | _ => none }
def eventSameRow : OpenClaim := { program := "ytlcglefbhlhcpaa", sum := "b585a9a82b975005865035d911d3f04f82b2183f94760ebbf6dc44232f263481", func := "clew/clewlaw14.EventSame", spec := "eventSame", apart := false }
def EventSameSaid : Prop := eventSameRow.holds Try.pinned (OpenSpec.ofChange eventSameSpec)

/-- ITS FALSE NEIGHBOUR: 'it returns false'. Refute it at one input. -/
def eventSameWrong : ChangeSpec := { name := "eventSame", fn := fun _ => fun
  | [d1, d2, d3] => { results := [.lit (.bool false)], args := [d1, d2, d3] }
  | _ => none }
def EventSameWrongFalsely : Prop := eventSameRow.holds Try.pinned (OpenSpec.ofChange eventSameWrong)

/-- 'clewlaw16.PileTakes': WHATEVER THE INPUT: true; the input reads as it did. -/
def pileTakesSpec : ChangeSpec := { name := "pileTakes", fn := fun _ => fun
  | [d1, d2] => { results := [.lit (.bool true)], args := [d1, d2] }
  | _ => none }
def pileTakesRow : OpenClaim := { program := "ytlcglefbhlhcpaa", sum := "b585a9a82b975005865035d911d3f04f82b2183f94760ebbf6dc44232f263481", func := "clew/clewlaw16.PileTakes", spec := "pileTakes", apart := false }
def PileTakesSaid : Prop := pileTakesRow.holds Try.pinned (OpenSpec.ofChange pileTakesSpec)

/-- ITS FALSE NEIGHBOUR: 'it returns false'. Refute it at one input. -/
def pileTakesWrong : ChangeSpec := { name := "pileTakes", fn := fun _ => fun
  | [d1, d2] => { results := [.lit (.bool false)], args := [d1, d2] }
  | _ => none }
def PileTakesWrongFalsely : Prop := pileTakesRow.holds Try.pinned (OpenSpec.ofChange pileTakesWrong)

/-- 'clewlaw16.PilePlays': WHATEVER THE INPUT: true; the input reads as it did. -/
def pilePlaysSpec : ChangeSpec := { name := "pilePlays", fn := fun _ => fun
  | [d1, d2] => { results := [.lit (.bool true)], args := [d1, d2] }
  | _ => none }
def pilePlaysRow : OpenClaim := { program := "ytlcglefbhlhcpaa", sum := "b585a9a82b975005865035d911d3f04f82b2183f94760ebbf6dc44232f263481", func := "clew/clewlaw16.PilePlays", spec := "pilePlays", apart := false }
def PilePlaysSaid : Prop := pilePlaysRow.holds Try.pinned (OpenSpec.ofChange pilePlaysSpec)

/-- ITS FALSE NEIGHBOUR: 'it returns false'. Refute it at one input. -/
def pilePlaysWrong : ChangeSpec := { name := "pilePlays", fn := fun _ => fun
  | [d1, d2] => { results := [.lit (.bool false)], args := [d1, d2] }
  | _ => none }
def PilePlaysWrongFalsely : Prop := pilePlaysRow.holds Try.pinned (OpenSpec.ofChange pilePlaysWrong)

/-- 'clewlaw15.UndoBack': WHATEVER THE INPUT: true; the input reads as it did. -/
def undoBackSpec : ChangeSpec := { name := "undoBack", fn := fun _ => fun
  | [d1, d2] => { results := [.lit (.bool true)], args := [d1, d2] }
  | _ => none }
def undoBackRow : OpenClaim := { program := "ytlcglefbhlhcpaa", sum := "b585a9a82b975005865035d911d3f04f82b2183f94760ebbf6dc44232f263481", func := "clew/clewlaw15.UndoBack", spec := "undoBack", unfollowed := true, recurses := true, apart := false }
def UndoBackSaid : Prop := undoBackRow.holds Try.pinned (OpenSpec.ofChange undoBackSpec)

/-- ITS FALSE NEIGHBOUR: 'it returns false'. Refute it at one input. -/
def undoBackWrong : ChangeSpec := { name := "undoBack", fn := fun _ => fun
  | [d1, d2] => { results := [.lit (.bool false)], args := [d1, d2] }
  | _ => none }
def UndoBackWrongFalsely : Prop := undoBackRow.holds Try.pinned (OpenSpec.ofChange undoBackWrong)

/-- 'clewlaw15.UndoParts': WHATEVER THE INPUT: true; the input reads as it did. -/
def undoPartsSpec : ChangeSpec := { name := "undoParts", fn := fun _ => fun
  | [d1, d2, d3] => { results := [.lit (.bool true)], args := [d1, d2, d3] }
  | _ => none }
def undoPartsRow : OpenClaim := { program := "ytlcglefbhlhcpaa", sum := "b585a9a82b975005865035d911d3f04f82b2183f94760ebbf6dc44232f263481", func := "clew/clewlaw15.UndoParts", spec := "undoParts", unfollowed := true, recurses := true, apart := false }
def UndoPartsSaid : Prop := undoPartsRow.holds Try.pinned (OpenSpec.ofChange undoPartsSpec)

/-- ITS FALSE NEIGHBOUR: 'it returns false'. Refute it at one input. -/
def undoPartsWrong : ChangeSpec := { name := "undoParts", fn := fun _ => fun
  | [d1, d2, d3] => { results := [.lit (.bool false)], args := [d1, d2, d3] }
  | _ => none }
def UndoPartsWrongFalsely : Prop := undoPartsRow.holds Try.pinned (OpenSpec.ofChange undoPartsWrong)

/-- 'clewlaw15.UndoPlays': WHATEVER THE INPUT: true; the input reads as it did. -/
def undoPlaysSpec : ChangeSpec := { name := "undoPlays", fn := fun _ => fun
  | [d1, d2, d3] => { results := [.lit (.bool true)], args := [d1, d2, d3] }
  | _ => none }
def undoPlaysRow : OpenClaim := { program := "ytlcglefbhlhcpaa", sum := "b585a9a82b975005865035d911d3f04f82b2183f94760ebbf6dc44232f263481", func := "clew/clewlaw15.UndoPlays", spec := "undoPlays", unfollowed := true, recurses := true, apart := false }
def UndoPlaysSaid : Prop := undoPlaysRow.holds Try.pinned (OpenSpec.ofChange undoPlaysSpec)

/-- ITS FALSE NEIGHBOUR: 'it returns false'. Refute it at one input. -/
def undoPlaysWrong : ChangeSpec := { name := "undoPlays", fn := fun _ => fun
  | [d1, d2, d3] => { results := [.lit (.bool false)], args := [d1, d2, d3] }
  | _ => none }
def UndoPlaysWrongFalsely : Prop := undoPlaysRow.holds Try.pinned (OpenSpec.ofChange undoPlaysWrong)

/-- 'clewlaw18.DeltaBytes': WHATEVER THE INPUT: true; the input reads as it did. -/
def deltaBytesSpec : ChangeSpec := { name := "deltaBytes", fn := fun _ => fun
  | [d1, d2] => { results := [.lit (.bool true)], args := [d1, d2] }
  | _ => none }
def deltaBytesRow : OpenClaim := { program := "ytlcglefbhlhcpaa", sum := "b585a9a82b975005865035d911d3f04f82b2183f94760ebbf6dc44232f263481", func := "clew/clewlaw18.DeltaBytes", spec := "deltaBytes", unfollowed := true, recurses := true, apart := false }
def DeltaBytesSaid : Prop := deltaBytesRow.holds Try.pinned (OpenSpec.ofChange deltaBytesSpec)

/-- ITS FALSE NEIGHBOUR: 'it returns false'. Refute it at one input. -/
def deltaBytesWrong : ChangeSpec := { name := "deltaBytes", fn := fun _ => fun
  | [d1, d2] => { results := [.lit (.bool false)], args := [d1, d2] }
  | _ => none }
def DeltaBytesWrongFalsely : Prop := deltaBytesRow.holds Try.pinned (OpenSpec.ofChange deltaBytesWrong)

/-- 'clewlaw18.DeltaReads': WHATEVER THE INPUT: true; the input reads as it did. -/
def deltaReadsSpec : ChangeSpec := { name := "deltaReads", fn := fun _ => fun
  | [d1, d2, d3] => { results := [.lit (.bool true)], args := [d1, d2, d3] }
  | _ => none }
def deltaReadsRow : OpenClaim := { program := "ytlcglefbhlhcpaa", sum := "b585a9a82b975005865035d911d3f04f82b2183f94760ebbf6dc44232f263481", func := "clew/clewlaw18.DeltaReads", spec := "deltaReads", unfollowed := true, recurses := true, apart := false }
def DeltaReadsSaid : Prop := deltaReadsRow.holds Try.pinned (OpenSpec.ofChange deltaReadsSpec)

/-- ITS FALSE NEIGHBOUR: 'it returns false'. Refute it at one input. -/
def deltaReadsWrong : ChangeSpec := { name := "deltaReads", fn := fun _ => fun
  | [d1, d2, d3] => { results := [.lit (.bool false)], args := [d1, d2, d3] }
  | _ => none }
def DeltaReadsWrongFalsely : Prop := deltaReadsRow.holds Try.pinned (OpenSpec.ofChange deltaReadsWrong)

/-- 'clewlaw18.DeltaBack': WHATEVER THE INPUT: true; the input reads as it did. -/
def deltaBackSpec : ChangeSpec := { name := "deltaBack", fn := fun _ => fun
  | [d1, d2, d3, d4] => { results := [.lit (.bool true)], args := [d1, d2, d3, d4] }
  | _ => none }
def deltaBackRow : OpenClaim := { program := "ytlcglefbhlhcpaa", sum := "b585a9a82b975005865035d911d3f04f82b2183f94760ebbf6dc44232f263481", func := "clew/clewlaw18.DeltaBack", spec := "deltaBack", unfollowed := true, recurses := true, apart := false }
def DeltaBackSaid : Prop := deltaBackRow.holds Try.pinned (OpenSpec.ofChange deltaBackSpec)

/-- ITS FALSE NEIGHBOUR: 'it returns false'. Refute it at one input. -/
def deltaBackWrong : ChangeSpec := { name := "deltaBack", fn := fun _ => fun
  | [d1, d2, d3, d4] => { results := [.lit (.bool false)], args := [d1, d2, d3, d4] }
  | _ => none }
def DeltaBackWrongFalsely : Prop := deltaBackRow.holds Try.pinned (OpenSpec.ofChange deltaBackWrong)

/-- 'clewlaw18.DeltaOnce': WHATEVER THE INPUT: true; the input reads as it did. -/
def deltaOnceSpec : ChangeSpec := { name := "deltaOnce", fn := fun _ => fun
  | [d1, d2] => { results := [.lit (.bool true)], args := [d1, d2] }
  | _ => none }
def deltaOnceRow : OpenClaim := { program := "ytlcglefbhlhcpaa", sum := "b585a9a82b975005865035d911d3f04f82b2183f94760ebbf6dc44232f263481", func := "clew/clewlaw18.DeltaOnce", spec := "deltaOnce", unfollowed := true, recurses := true, apart := false }
def DeltaOnceSaid : Prop := deltaOnceRow.holds Try.pinned (OpenSpec.ofChange deltaOnceSpec)

/-- ITS FALSE NEIGHBOUR: 'it returns false'. Refute it at one input. -/
def deltaOnceWrong : ChangeSpec := { name := "deltaOnce", fn := fun _ => fun
  | [d1, d2] => { results := [.lit (.bool false)], args := [d1, d2] }
  | _ => none }
def DeltaOnceWrongFalsely : Prop := deltaOnceRow.holds Try.pinned (OpenSpec.ofChange deltaOnceWrong)

/-- 'clewlaw19.TapeTells': WHATEVER THE INPUT: true; the input reads as it did. -/
def tapeTellsSpec : ChangeSpec := { name := "tapeTells", fn := fun _ => fun
  | [d1, d2, d3] => { results := [.lit (.bool true)], args := [d1, d2, d3] }
  | _ => none }
def tapeTellsRow : OpenClaim := { program := "ytlcglefbhlhcpaa", sum := "b585a9a82b975005865035d911d3f04f82b2183f94760ebbf6dc44232f263481", func := "clew/clewlaw19.TapeTells", spec := "tapeTells", unfollowed := true, recurses := true, apart := false }
def TapeTellsSaid : Prop := tapeTellsRow.holds Try.pinned (OpenSpec.ofChange tapeTellsSpec)

/-- ITS FALSE NEIGHBOUR: 'it returns false'. Refute it at one input. -/
def tapeTellsWrong : ChangeSpec := { name := "tapeTells", fn := fun _ => fun
  | [d1, d2, d3] => { results := [.lit (.bool false)], args := [d1, d2, d3] }
  | _ => none }
def TapeTellsWrongFalsely : Prop := tapeTellsRow.holds Try.pinned (OpenSpec.ofChange tapeTellsWrong)

/-- 'clewlaw19.TapeOwn': WHATEVER THE INPUT: true; the input reads as it did. -/
def tapeOwnSpec : ChangeSpec := { name := "tapeOwn", fn := fun _ => fun
  | [d1, d2, d3] => { results := [.lit (.bool true)], args := [d1, d2, d3] }
  | _ => none }
def tapeOwnRow : OpenClaim := { program := "ytlcglefbhlhcpaa", sum := "b585a9a82b975005865035d911d3f04f82b2183f94760ebbf6dc44232f263481", func := "clew/clewlaw19.TapeOwn", spec := "tapeOwn", unfollowed := true, recurses := true, apart := false }
def TapeOwnSaid : Prop := tapeOwnRow.holds Try.pinned (OpenSpec.ofChange tapeOwnSpec)

/-- ITS FALSE NEIGHBOUR: 'it returns false'. Refute it at one input. -/
def tapeOwnWrong : ChangeSpec := { name := "tapeOwn", fn := fun _ => fun
  | [d1, d2, d3] => { results := [.lit (.bool false)], args := [d1, d2, d3] }
  | _ => none }
def TapeOwnWrongFalsely : Prop := tapeOwnRow.holds Try.pinned (OpenSpec.ofChange tapeOwnWrong)

/-- 'clewlaw19.TapePlays': WHATEVER THE INPUT: true; the input reads as it did. -/
def tapePlaysSpec : ChangeSpec := { name := "tapePlays", fn := fun _ => fun
  | [d1, d2] => { results := [.lit (.bool true)], args := [d1, d2] }
  | _ => none }
def tapePlaysRow : OpenClaim := { program := "ytlcglefbhlhcpaa", sum := "b585a9a82b975005865035d911d3f04f82b2183f94760ebbf6dc44232f263481", func := "clew/clewlaw19.TapePlays", spec := "tapePlays", unfollowed := true, recurses := true, apart := false }
def TapePlaysSaid : Prop := tapePlaysRow.holds Try.pinned (OpenSpec.ofChange tapePlaysSpec)

/-- ITS FALSE NEIGHBOUR: 'it returns false'. Refute it at one input. -/
def tapePlaysWrong : ChangeSpec := { name := "tapePlays", fn := fun _ => fun
  | [d1, d2] => { results := [.lit (.bool false)], args := [d1, d2] }
  | _ => none }
def TapePlaysWrongFalsely : Prop := tapePlaysRow.holds Try.pinned (OpenSpec.ofChange tapePlaysWrong)

/-- 'clewlaw19.TapeAll': WHATEVER THE INPUT: true; the input reads as it did. -/
def tapeAllSpec : ChangeSpec := { name := "tapeAll", fn := fun _ => fun
  | [d1, d2, d3] => { results := [.lit (.bool true)], args := [d1, d2, d3] }
  | _ => none }
def tapeAllRow : OpenClaim := { program := "ytlcglefbhlhcpaa", sum := "b585a9a82b975005865035d911d3f04f82b2183f94760ebbf6dc44232f263481", func := "clew/clewlaw19.TapeAll", spec := "tapeAll", unfollowed := true, recurses := true, apart := false }
def TapeAllSaid : Prop := tapeAllRow.holds Try.pinned (OpenSpec.ofChange tapeAllSpec)

/-- ITS FALSE NEIGHBOUR: 'it returns false'. Refute it at one input. -/
def tapeAllWrong : ChangeSpec := { name := "tapeAll", fn := fun _ => fun
  | [d1, d2, d3] => { results := [.lit (.bool false)], args := [d1, d2, d3] }
  | _ => none }
def TapeAllWrongFalsely : Prop := tapeAllRow.holds Try.pinned (OpenSpec.ofChange tapeAllWrong)

/-- 'clewlaw20.FilePacks': WHATEVER THE INPUT: true; the input reads as it did. -/
def filePacksSpec : ChangeSpec := { name := "filePacks", fn := fun _ => fun
  | [d1, d2, d3] => { results := [.lit (.bool true)], args := [d1, d2, d3] }
  | _ => none }
def filePacksRow : OpenClaim := { program := "ytlcglefbhlhcpaa", sum := "b585a9a82b975005865035d911d3f04f82b2183f94760ebbf6dc44232f263481", func := "clew/clewlaw20.FilePacks", spec := "filePacks", unfollowed := true, recurses := true, apart := false }
def FilePacksSaid : Prop := filePacksRow.holds Try.pinned (OpenSpec.ofChange filePacksSpec)

/-- ITS FALSE NEIGHBOUR: 'it returns false'. Refute it at one input. -/
def filePacksWrong : ChangeSpec := { name := "filePacks", fn := fun _ => fun
  | [d1, d2, d3] => { results := [.lit (.bool false)], args := [d1, d2, d3] }
  | _ => none }
def FilePacksWrongFalsely : Prop := filePacksRow.holds Try.pinned (OpenSpec.ofChange filePacksWrong)

/-- 'clewlaw20.FileTurned': WHATEVER THE INPUT: true; the input reads as it did. -/
def fileTurnedSpec : ChangeSpec := { name := "fileTurned", fn := fun _ => fun
  | [d1, d2, d3, d4] => { results := [.lit (.bool true)], args := [d1, d2, d3, d4] }
  | _ => none }
def fileTurnedRow : OpenClaim := { program := "ytlcglefbhlhcpaa", sum := "b585a9a82b975005865035d911d3f04f82b2183f94760ebbf6dc44232f263481", func := "clew/clewlaw20.FileTurned", spec := "fileTurned", unfollowed := true, recurses := true, apart := false }
def FileTurnedSaid : Prop := fileTurnedRow.holds Try.pinned (OpenSpec.ofChange fileTurnedSpec)

/-- ITS FALSE NEIGHBOUR: 'it returns false'. Refute it at one input. -/
def fileTurnedWrong : ChangeSpec := { name := "fileTurned", fn := fun _ => fun
  | [d1, d2, d3, d4] => { results := [.lit (.bool false)], args := [d1, d2, d3, d4] }
  | _ => none }
def FileTurnedWrongFalsely : Prop := fileTurnedRow.holds Try.pinned (OpenSpec.ofChange fileTurnedWrong)

/- THE SECOND FORM. 'bulk': how many values and letters a reading holds, each counted each time it is reached (what is shared counts as often as it is met; a slice's spare places count too). A statement '..UptoSaid' is the law's where the arguments, and the package variables that the reading takes, are together of bulk at most 1048576: NARROWER than '..Said'. Prove '..Said' where nothing that the law and all that it calls make is longer than what came in: it says more and counts as full. Else prove '..UptoSaid'. A law counts once. -/
mutual
def uptoBulk {H : Type} : DataW H → Nat
  | .lit (.string bytes) => bytes.length + 1
  | .lit _ => 1
  | .nil => 1
  | .ptr d => uptoBulk d + 1
  | .slice elems spare => uptoBulkAll elems + uptoBulkAll spare + 1
  | .agg parts => uptoBulkAll parts + 1
  | .iface _ d => uptoBulk d + 1
  | .map entries => uptoBulkEntries entries + 1
  | .held _ => 1
def uptoBulkAll {H : Type} : List (DataW H) → Nat
  | [] => 0
  | d :: r => uptoBulk d + uptoBulkAll r
def uptoBulkEntries {H : Type} : List (Lit × DataW H) → Nat
  | [] => 0
  | x :: r => uptoBulkEntry x + uptoBulkEntries r
def uptoBulkEntry {H : Type} : Lit × DataW H → Nat
  | (.string bytes, d) => bytes.length + uptoBulk d + 1
  | (_, d) => uptoBulk d + 1
 end
def uptoSmall : (H : Type) → List (DataW H) → Bool := fun _ ds => decide (uptoBulkAll ds ≤ 1048576)
def OpenSpec.upto (s : _root_.Go.ChangeSpec) : _root_.Go.OpenSpec := { _root_.Go.OpenSpec.ofChange s with cond := some uptoSmall }

/-- 'clewlaw20.FileAny', WHERE WHAT IT READS IS OF BULK AT MOST 1048576: true; the input reads as it did. -/
def fileAnyUptoRow : OpenClaim := { program := "ytlcglefbhlhcpaa", sum := "b585a9a82b975005865035d911d3f04f82b2183f94760ebbf6dc44232f263481", func := "clew/clewlaw20.FileAny", spec := "fileAny", unfollowed := true, recurses := true, apart := false, narrowed := true }
def FileAnyUptoSaid : Prop := fileAnyUptoRow.holds Try.pinned (OpenSpec.upto fileAnySpec)

/-- 'clewlaw16.PileCuts', WHERE WHAT IT READS IS OF BULK AT MOST 1048576: true; the input reads as it did. -/
def pileCutsUptoRow : OpenClaim := { program := "ytlcglefbhlhcpaa", sum := "b585a9a82b975005865035d911d3f04f82b2183f94760ebbf6dc44232f263481", func := "clew/clewlaw16.PileCuts", spec := "pileCuts", apart := false, narrowed := true }
def PileCutsUptoSaid : Prop := pileCutsUptoRow.holds Try.pinned (OpenSpec.upto pileCutsSpec)

/-- 'clewlaw20.FileOpens', WHERE WHAT IT READS IS OF BULK AT MOST 1048576: true; the input reads as it did. -/
def fileOpensUptoRow : OpenClaim := { program := "ytlcglefbhlhcpaa", sum := "b585a9a82b975005865035d911d3f04f82b2183f94760ebbf6dc44232f263481", func := "clew/clewlaw20.FileOpens", spec := "fileOpens", unfollowed := true, recurses := true, apart := false, narrowed := true }
def FileOpensUptoSaid : Prop := fileOpensUptoRow.holds Try.pinned (OpenSpec.upto fileOpensSpec)

/-- 'clewlaw14.EventSame', WHERE WHAT IT READS IS OF BULK AT MOST 1048576: true; the input reads as it did. -/
def eventSameUptoRow : OpenClaim := { program := "ytlcglefbhlhcpaa", sum := "b585a9a82b975005865035d911d3f04f82b2183f94760ebbf6dc44232f263481", func := "clew/clewlaw14.EventSame", spec := "eventSame", apart := false, narrowed := true }
def EventSameUptoSaid : Prop := eventSameUptoRow.holds Try.pinned (OpenSpec.upto eventSameSpec)

/-- 'clewlaw16.PileTakes', WHERE WHAT IT READS IS OF BULK AT MOST 1048576: true; the input reads as it did. -/
def pileTakesUptoRow : OpenClaim := { program := "ytlcglefbhlhcpaa", sum := "b585a9a82b975005865035d911d3f04f82b2183f94760ebbf6dc44232f263481", func := "clew/clewlaw16.PileTakes", spec := "pileTakes", apart := false, narrowed := true }
def PileTakesUptoSaid : Prop := pileTakesUptoRow.holds Try.pinned (OpenSpec.upto pileTakesSpec)

/-- 'clewlaw16.PilePlays', WHERE WHAT IT READS IS OF BULK AT MOST 1048576: true; the input reads as it did. -/
def pilePlaysUptoRow : OpenClaim := { program := "ytlcglefbhlhcpaa", sum := "b585a9a82b975005865035d911d3f04f82b2183f94760ebbf6dc44232f263481", func := "clew/clewlaw16.PilePlays", spec := "pilePlays", apart := false, narrowed := true }
def PilePlaysUptoSaid : Prop := pilePlaysUptoRow.holds Try.pinned (OpenSpec.upto pilePlaysSpec)

/-- 'clewlaw15.UndoBack', WHERE WHAT IT READS IS OF BULK AT MOST 1048576: true; the input reads as it did. -/
def undoBackUptoRow : OpenClaim := { program := "ytlcglefbhlhcpaa", sum := "b585a9a82b975005865035d911d3f04f82b2183f94760ebbf6dc44232f263481", func := "clew/clewlaw15.UndoBack", spec := "undoBack", unfollowed := true, recurses := true, apart := false, narrowed := true }
def UndoBackUptoSaid : Prop := undoBackUptoRow.holds Try.pinned (OpenSpec.upto undoBackSpec)

/-- 'clewlaw15.UndoParts', WHERE WHAT IT READS IS OF BULK AT MOST 1048576: true; the input reads as it did. -/
def undoPartsUptoRow : OpenClaim := { program := "ytlcglefbhlhcpaa", sum := "b585a9a82b975005865035d911d3f04f82b2183f94760ebbf6dc44232f263481", func := "clew/clewlaw15.UndoParts", spec := "undoParts", unfollowed := true, recurses := true, apart := false, narrowed := true }
def UndoPartsUptoSaid : Prop := undoPartsUptoRow.holds Try.pinned (OpenSpec.upto undoPartsSpec)

/-- 'clewlaw15.UndoPlays', WHERE WHAT IT READS IS OF BULK AT MOST 1048576: true; the input reads as it did. -/
def undoPlaysUptoRow : OpenClaim := { program := "ytlcglefbhlhcpaa", sum := "b585a9a82b975005865035d911d3f04f82b2183f94760ebbf6dc44232f263481", func := "clew/clewlaw15.UndoPlays", spec := "undoPlays", unfollowed := true, recurses := true, apart := false, narrowed := true }
def UndoPlaysUptoSaid : Prop := undoPlaysUptoRow.holds Try.pinned (OpenSpec.upto undoPlaysSpec)

/-- 'clewlaw18.DeltaBytes', WHERE WHAT IT READS IS OF BULK AT MOST 1048576: true; the input reads as it did. -/
def deltaBytesUptoRow : OpenClaim := { program := "ytlcglefbhlhcpaa", sum := "b585a9a82b975005865035d911d3f04f82b2183f94760ebbf6dc44232f263481", func := "clew/clewlaw18.DeltaBytes", spec := "deltaBytes", unfollowed := true, recurses := true, apart := false, narrowed := true }
def DeltaBytesUptoSaid : Prop := deltaBytesUptoRow.holds Try.pinned (OpenSpec.upto deltaBytesSpec)

/-- 'clewlaw18.DeltaReads', WHERE WHAT IT READS IS OF BULK AT MOST 1048576: true; the input reads as it did. -/
def deltaReadsUptoRow : OpenClaim := { program := "ytlcglefbhlhcpaa", sum := "b585a9a82b975005865035d911d3f04f82b2183f94760ebbf6dc44232f263481", func := "clew/clewlaw18.DeltaReads", spec := "deltaReads", unfollowed := true, recurses := true, apart := false, narrowed := true }
def DeltaReadsUptoSaid : Prop := deltaReadsUptoRow.holds Try.pinned (OpenSpec.upto deltaReadsSpec)

/-- 'clewlaw18.DeltaBack', WHERE WHAT IT READS IS OF BULK AT MOST 1048576: true; the input reads as it did. -/
def deltaBackUptoRow : OpenClaim := { program := "ytlcglefbhlhcpaa", sum := "b585a9a82b975005865035d911d3f04f82b2183f94760ebbf6dc44232f263481", func := "clew/clewlaw18.DeltaBack", spec := "deltaBack", unfollowed := true, recurses := true, apart := false, narrowed := true }
def DeltaBackUptoSaid : Prop := deltaBackUptoRow.holds Try.pinned (OpenSpec.upto deltaBackSpec)

/-- 'clewlaw18.DeltaOnce', WHERE WHAT IT READS IS OF BULK AT MOST 1048576: true; the input reads as it did. -/
def deltaOnceUptoRow : OpenClaim := { program := "ytlcglefbhlhcpaa", sum := "b585a9a82b975005865035d911d3f04f82b2183f94760ebbf6dc44232f263481", func := "clew/clewlaw18.DeltaOnce", spec := "deltaOnce", unfollowed := true, recurses := true, apart := false, narrowed := true }
def DeltaOnceUptoSaid : Prop := deltaOnceUptoRow.holds Try.pinned (OpenSpec.upto deltaOnceSpec)

/-- 'clewlaw19.TapeTells', WHERE WHAT IT READS IS OF BULK AT MOST 1048576: true; the input reads as it did. -/
def tapeTellsUptoRow : OpenClaim := { program := "ytlcglefbhlhcpaa", sum := "b585a9a82b975005865035d911d3f04f82b2183f94760ebbf6dc44232f263481", func := "clew/clewlaw19.TapeTells", spec := "tapeTells", unfollowed := true, recurses := true, apart := false, narrowed := true }
def TapeTellsUptoSaid : Prop := tapeTellsUptoRow.holds Try.pinned (OpenSpec.upto tapeTellsSpec)

/-- 'clewlaw19.TapeOwn', WHERE WHAT IT READS IS OF BULK AT MOST 1048576: true; the input reads as it did. -/
def tapeOwnUptoRow : OpenClaim := { program := "ytlcglefbhlhcpaa", sum := "b585a9a82b975005865035d911d3f04f82b2183f94760ebbf6dc44232f263481", func := "clew/clewlaw19.TapeOwn", spec := "tapeOwn", unfollowed := true, recurses := true, apart := false, narrowed := true }
def TapeOwnUptoSaid : Prop := tapeOwnUptoRow.holds Try.pinned (OpenSpec.upto tapeOwnSpec)

/-- 'clewlaw19.TapePlays', WHERE WHAT IT READS IS OF BULK AT MOST 1048576: true; the input reads as it did. -/
def tapePlaysUptoRow : OpenClaim := { program := "ytlcglefbhlhcpaa", sum := "b585a9a82b975005865035d911d3f04f82b2183f94760ebbf6dc44232f263481", func := "clew/clewlaw19.TapePlays", spec := "tapePlays", unfollowed := true, recurses := true, apart := false, narrowed := true }
def TapePlaysUptoSaid : Prop := tapePlaysUptoRow.holds Try.pinned (OpenSpec.upto tapePlaysSpec)

/-- 'clewlaw19.TapeAll', WHERE WHAT IT READS IS OF BULK AT MOST 1048576: true; the input reads as it did. -/
def tapeAllUptoRow : OpenClaim := { program := "ytlcglefbhlhcpaa", sum := "b585a9a82b975005865035d911d3f04f82b2183f94760ebbf6dc44232f263481", func := "clew/clewlaw19.TapeAll", spec := "tapeAll", unfollowed := true, recurses := true, apart := false, narrowed := true }
def TapeAllUptoSaid : Prop := tapeAllUptoRow.holds Try.pinned (OpenSpec.upto tapeAllSpec)

/-- 'clewlaw20.FilePacks', WHERE WHAT IT READS IS OF BULK AT MOST 1048576: true; the input reads as it did. -/
def filePacksUptoRow : OpenClaim := { program := "ytlcglefbhlhcpaa", sum := "b585a9a82b975005865035d911d3f04f82b2183f94760ebbf6dc44232f263481", func := "clew/clewlaw20.FilePacks", spec := "filePacks", unfollowed := true, recurses := true, apart := false, narrowed := true }
def FilePacksUptoSaid : Prop := filePacksUptoRow.holds Try.pinned (OpenSpec.upto filePacksSpec)

/-- 'clewlaw20.FileTurned', WHERE WHAT IT READS IS OF BULK AT MOST 1048576: true; the input reads as it did. -/
def fileTurnedUptoRow : OpenClaim := { program := "ytlcglefbhlhcpaa", sum := "b585a9a82b975005865035d911d3f04f82b2183f94760ebbf6dc44232f263481", func := "clew/clewlaw20.FileTurned", spec := "fileTurned", unfollowed := true, recurses := true, apart := false, narrowed := true }
def FileTurnedUptoSaid : Prop := fileTurnedUptoRow.holds Try.pinned (OpenSpec.upto fileTurnedSpec)

end Rows
end Go.Proofs.Ytlcglefbhlhcpaa
