/-
  NARROWER THAN 'FOR EVERY INPUT', by the rows' own cells (each row's printed sentence says how): SpeechLogs: laid · SpeechKept: laid · SpeechDoes: laid · SpeechFinds: laid · SpeechSound: laid · SpeechTrue: laid · SpeechRestores: laid · SpeechHolds: laid.
  DERIVED. THE GIVEN ROWS OF THIS SEAT. 8 by the template 'for every input the law returns true; each argument reads behind the call as it read before'; 0 by the template 'total and deterministic' (their statements: YthejnffhfmdpnaaDoorTotals.lean).
  GIVEN WITH THE SEED: the statements are not yours to turn. If you find one false, say at which input.
  Laid BY PROGRAM, IN A SANDBOX (cutbox-rows.mjs): the forced cells as the released guide's own fill.sh prints them over the translation d332b6a6022d9243… (all of the seat's roots in one cut). By AI agents, Wed Nov 11 2026. No macro, syntax, notation, axiom, sorry.
-/
import Derived.Test.YthejnffhfmdpnaaDoorChecked
import GoSem.PinnedTables
import GoSem.Claim
import GoSem.ClaimJoined
import GoSem.ClaimMapViews
import Derived.JoinedTies
import Derived.KernelRfl
namespace Go.Proofs.YthejnffhfmdpnaaDoor
/- THE CELL 'sum', in the pinned program and in every row, IS THE sha256 OF THE DUMP (.gsa) THAT YthejnffhfmdpnaaDoorProg.lean LOADS. Nothing in Lean hashes anything: it is a label: what it is worth is what the hold of that sum in a sandbox is worth. -/
noncomputable def Tryd.pinned : Pinned := { name := "ythejnffhfmdpnaadoor", sum := "d332b6a6022d92433bbf184b745615e1ae5e3eb85f621a3a577131113f8ba516", checked := Tryd.checked }
namespace Rows
def none {H : Type} : Left H := { results := [], args := [] }

/- WHAT THE LISTED PACKAGE-LEVEL VARIABLES READ AS WHEN THE CALL BEGINS. Each datum BY PROGRAM (the guide's laid-datum.mjs) off the statement by which the dump's own 'gosem.cut.vars' lays the variable. In a bare row this is a premise. The card (YthejnffhfmdpnaaDoorCards.lean) ties it to the program's text. -/
def laid_unicode_utf8_acceptRanges {H : Type} : DataW H := .agg [.agg [.lit (.int .u8 128), .lit (.int .u8 191)], .agg [.lit (.int .u8 160), .lit (.int .u8 191)], .agg [.lit (.int .u8 128), .lit (.int .u8 159)], .agg [.lit (.int .u8 144), .lit (.int .u8 191)], .agg [.lit (.int .u8 128), .lit (.int .u8 143)], .agg [.lit (.int .u8 0), .lit (.int .u8 0)], .agg [.lit (.int .u8 0), .lit (.int .u8 0)], .agg [.lit (.int .u8 0), .lit (.int .u8 0)], .agg [.lit (.int .u8 0), .lit (.int .u8 0)], .agg [.lit (.int .u8 0), .lit (.int .u8 0)], .agg [.lit (.int .u8 0), .lit (.int .u8 0)], .agg [.lit (.int .u8 0), .lit (.int .u8 0)], .agg [.lit (.int .u8 0), .lit (.int .u8 0)], .agg [.lit (.int .u8 0), .lit (.int .u8 0)], .agg [.lit (.int .u8 0), .lit (.int .u8 0)], .agg [.lit (.int .u8 0), .lit (.int .u8 0)]]
/-- One of Go's own tables, pinned by name: the form's constant. -/
def laid_unicode_utf8_first : DataW Unit := Go.Pinned.utf8First

/-- 'barquelaw22.SpeechLogs': WHATEVER THE INPUT: true; the input reads as it did. -/
def speechLogsSpec : ChangeSpec := { name := "speechLogs", fn := fun _ => fun
  | [d1, d2] => { results := [.lit (.bool true)], args := [d1, d2] }
  | _ => none }
def speechLogsRow : OpenClaim := { program := "ythejnffhfmdpnaadoor", sum := "d332b6a6022d92433bbf184b745615e1ae5e3eb85f621a3a577131113f8ba516", func := "barque/barquelaw22.SpeechLogs", spec := "speechLogs", inPlace := ["internal/bytealg.CountString", "internal/bytealg.IndexByteString", "internal/bytealg.IndexString", "internal/abi.NoEscape"], unfollowed := true, recurses := true, named := ["unicode/utf8.first", "unicode/utf8.acceptRanges", "internal/bytealg.MaxLen"], apart := false, laid := [("unicode/utf8.acceptRanges", laid_unicode_utf8_acceptRanges), ("unicode/utf8.first", laid_unicode_utf8_first)] }
def SpeechLogsSaid : Prop := speechLogsRow.holds Tryd.pinned (OpenSpec.ofChange speechLogsSpec)

/-- ITS FALSE NEIGHBOUR: 'it returns false'. Refute it at one input. -/
def speechLogsWrong : ChangeSpec := { name := "speechLogs", fn := fun _ => fun
  | [d1, d2] => { results := [.lit (.bool false)], args := [d1, d2] }
  | _ => none }
def SpeechLogsWrongFalsely : Prop := speechLogsRow.holds Tryd.pinned (OpenSpec.ofChange speechLogsWrong)

/-- 'barquelaw22.SpeechKept': WHATEVER THE INPUT: true; the input reads as it did. -/
def speechKeptSpec : ChangeSpec := { name := "speechKept", fn := fun _ => fun
  | [d1, d2] => { results := [.lit (.bool true)], args := [d1, d2] }
  | _ => none }
def speechKeptRow : OpenClaim := { program := "ythejnffhfmdpnaadoor", sum := "d332b6a6022d92433bbf184b745615e1ae5e3eb85f621a3a577131113f8ba516", func := "barque/barquelaw22.SpeechKept", spec := "speechKept", inPlace := ["internal/bytealg.CountString", "internal/bytealg.IndexByteString", "internal/bytealg.IndexString", "internal/abi.NoEscape"], unfollowed := true, recurses := true, named := ["unicode/utf8.first", "unicode/utf8.acceptRanges", "internal/bytealg.MaxLen"], apart := false, laid := [("unicode/utf8.acceptRanges", laid_unicode_utf8_acceptRanges), ("unicode/utf8.first", laid_unicode_utf8_first)] }
def SpeechKeptSaid : Prop := speechKeptRow.holds Tryd.pinned (OpenSpec.ofChange speechKeptSpec)

/-- ITS FALSE NEIGHBOUR: 'it returns false'. Refute it at one input. -/
def speechKeptWrong : ChangeSpec := { name := "speechKept", fn := fun _ => fun
  | [d1, d2] => { results := [.lit (.bool false)], args := [d1, d2] }
  | _ => none }
def SpeechKeptWrongFalsely : Prop := speechKeptRow.holds Tryd.pinned (OpenSpec.ofChange speechKeptWrong)

/-- 'barquelaw22.SpeechDoes': WHATEVER THE INPUT: true; the input reads as it did. -/
def speechDoesSpec : ChangeSpec := { name := "speechDoes", fn := fun _ => fun
  | [d] => { results := [.lit (.bool true)], args := [d] }
  | _ => none }
def speechDoesRow : OpenClaim := { program := "ythejnffhfmdpnaadoor", sum := "d332b6a6022d92433bbf184b745615e1ae5e3eb85f621a3a577131113f8ba516", func := "barque/barquelaw22.SpeechDoes", spec := "speechDoes", inPlace := ["internal/bytealg.CountString", "internal/bytealg.IndexByteString", "internal/bytealg.IndexString", "internal/abi.NoEscape"], unfollowed := true, recurses := true, named := ["unicode/utf8.first", "unicode/utf8.acceptRanges", "internal/bytealg.MaxLen"], apart := false, laid := [("unicode/utf8.acceptRanges", laid_unicode_utf8_acceptRanges), ("unicode/utf8.first", laid_unicode_utf8_first)] }
def SpeechDoesSaid : Prop := speechDoesRow.holds Tryd.pinned (OpenSpec.ofChange speechDoesSpec)

/-- ITS FALSE NEIGHBOUR: 'it returns false'. Refute it at one input. -/
def speechDoesWrong : ChangeSpec := { name := "speechDoes", fn := fun _ => fun
  | [d] => { results := [.lit (.bool false)], args := [d] }
  | _ => none }
def SpeechDoesWrongFalsely : Prop := speechDoesRow.holds Tryd.pinned (OpenSpec.ofChange speechDoesWrong)

/-- 'barquelaw22.SpeechFinds': WHATEVER THE INPUT: true; the input reads as it did. -/
def speechFindsSpec : ChangeSpec := { name := "speechFinds", fn := fun _ => fun
  | [d] => { results := [.lit (.bool true)], args := [d] }
  | _ => none }
def speechFindsRow : OpenClaim := { program := "ythejnffhfmdpnaadoor", sum := "d332b6a6022d92433bbf184b745615e1ae5e3eb85f621a3a577131113f8ba516", func := "barque/barquelaw22.SpeechFinds", spec := "speechFinds", inPlace := ["internal/bytealg.CountString", "internal/bytealg.IndexByteString", "internal/bytealg.IndexString", "internal/abi.NoEscape"], unfollowed := true, recurses := true, named := ["unicode/utf8.first", "unicode/utf8.acceptRanges", "internal/bytealg.MaxLen"], apart := false, laid := [("unicode/utf8.acceptRanges", laid_unicode_utf8_acceptRanges), ("unicode/utf8.first", laid_unicode_utf8_first)] }
def SpeechFindsSaid : Prop := speechFindsRow.holds Tryd.pinned (OpenSpec.ofChange speechFindsSpec)

/-- ITS FALSE NEIGHBOUR: 'it returns false'. Refute it at one input. -/
def speechFindsWrong : ChangeSpec := { name := "speechFinds", fn := fun _ => fun
  | [d] => { results := [.lit (.bool false)], args := [d] }
  | _ => none }
def SpeechFindsWrongFalsely : Prop := speechFindsRow.holds Tryd.pinned (OpenSpec.ofChange speechFindsWrong)

/-- 'barquelaw22.SpeechSound': WHATEVER THE INPUT: true; the input reads as it did. -/
def speechSoundSpec : ChangeSpec := { name := "speechSound", fn := fun _ => fun
  | [d1, d2] => { results := [.lit (.bool true)], args := [d1, d2] }
  | _ => none }
def speechSoundRow : OpenClaim := { program := "ythejnffhfmdpnaadoor", sum := "d332b6a6022d92433bbf184b745615e1ae5e3eb85f621a3a577131113f8ba516", func := "barque/barquelaw22.SpeechSound", spec := "speechSound", inPlace := ["internal/bytealg.CountString", "internal/bytealg.IndexByteString", "internal/bytealg.IndexString", "internal/abi.NoEscape"], unfollowed := true, recurses := true, named := ["unicode/utf8.first", "unicode/utf8.acceptRanges", "internal/bytealg.MaxLen"], apart := false, laid := [("unicode/utf8.acceptRanges", laid_unicode_utf8_acceptRanges), ("unicode/utf8.first", laid_unicode_utf8_first)] }
def SpeechSoundSaid : Prop := speechSoundRow.holds Tryd.pinned (OpenSpec.ofChange speechSoundSpec)

/-- ITS FALSE NEIGHBOUR: 'it returns false'. Refute it at one input. -/
def speechSoundWrong : ChangeSpec := { name := "speechSound", fn := fun _ => fun
  | [d1, d2] => { results := [.lit (.bool false)], args := [d1, d2] }
  | _ => none }
def SpeechSoundWrongFalsely : Prop := speechSoundRow.holds Tryd.pinned (OpenSpec.ofChange speechSoundWrong)

/-- 'barquelaw22.SpeechTrue': WHATEVER THE INPUT: true; the input reads as it did. -/
def speechTrueSpec : ChangeSpec := { name := "speechTrue", fn := fun _ => fun
  | [d1, d2] => { results := [.lit (.bool true)], args := [d1, d2] }
  | _ => none }
def speechTrueRow : OpenClaim := { program := "ythejnffhfmdpnaadoor", sum := "d332b6a6022d92433bbf184b745615e1ae5e3eb85f621a3a577131113f8ba516", func := "barque/barquelaw22.SpeechTrue", spec := "speechTrue", inPlace := ["internal/bytealg.CountString", "internal/bytealg.IndexByteString", "internal/bytealg.IndexString", "internal/abi.NoEscape"], unfollowed := true, recurses := true, named := ["unicode/utf8.first", "unicode/utf8.acceptRanges", "internal/bytealg.MaxLen"], apart := false, laid := [("unicode/utf8.acceptRanges", laid_unicode_utf8_acceptRanges), ("unicode/utf8.first", laid_unicode_utf8_first)] }
def SpeechTrueSaid : Prop := speechTrueRow.holds Tryd.pinned (OpenSpec.ofChange speechTrueSpec)

/-- ITS FALSE NEIGHBOUR: 'it returns false'. Refute it at one input. -/
def speechTrueWrong : ChangeSpec := { name := "speechTrue", fn := fun _ => fun
  | [d1, d2] => { results := [.lit (.bool false)], args := [d1, d2] }
  | _ => none }
def SpeechTrueWrongFalsely : Prop := speechTrueRow.holds Tryd.pinned (OpenSpec.ofChange speechTrueWrong)

/-- 'barquelaw22.SpeechRestores': WHATEVER THE INPUT: true; the input reads as it did. -/
def speechRestoresSpec : ChangeSpec := { name := "speechRestores", fn := fun _ => fun
  | [d] => { results := [.lit (.bool true)], args := [d] }
  | _ => none }
def speechRestoresRow : OpenClaim := { program := "ythejnffhfmdpnaadoor", sum := "d332b6a6022d92433bbf184b745615e1ae5e3eb85f621a3a577131113f8ba516", func := "barque/barquelaw22.SpeechRestores", spec := "speechRestores", inPlace := ["internal/bytealg.CountString", "internal/bytealg.IndexByteString", "internal/bytealg.IndexString", "internal/abi.NoEscape"], unfollowed := true, recurses := true, named := ["unicode/utf8.first", "unicode/utf8.acceptRanges", "internal/bytealg.MaxLen"], apart := false, laid := [("unicode/utf8.acceptRanges", laid_unicode_utf8_acceptRanges), ("unicode/utf8.first", laid_unicode_utf8_first)] }
def SpeechRestoresSaid : Prop := speechRestoresRow.holds Tryd.pinned (OpenSpec.ofChange speechRestoresSpec)

/-- ITS FALSE NEIGHBOUR: 'it returns false'. Refute it at one input. -/
def speechRestoresWrong : ChangeSpec := { name := "speechRestores", fn := fun _ => fun
  | [d] => { results := [.lit (.bool false)], args := [d] }
  | _ => none }
def SpeechRestoresWrongFalsely : Prop := speechRestoresRow.holds Tryd.pinned (OpenSpec.ofChange speechRestoresWrong)

/-- 'barquelaw22.SpeechHolds': WHATEVER THE INPUT: true; the input reads as it did. -/
def speechHoldsSpec : ChangeSpec := { name := "speechHolds", fn := fun _ => fun
  | [d1, d2] => { results := [.lit (.bool true)], args := [d1, d2] }
  | _ => none }
def speechHoldsRow : OpenClaim := { program := "ythejnffhfmdpnaadoor", sum := "d332b6a6022d92433bbf184b745615e1ae5e3eb85f621a3a577131113f8ba516", func := "barque/barquelaw22.SpeechHolds", spec := "speechHolds", inPlace := ["internal/bytealg.CountString", "internal/bytealg.IndexByteString", "internal/bytealg.IndexString", "internal/abi.NoEscape"], unfollowed := true, recurses := true, named := ["unicode/utf8.first", "unicode/utf8.acceptRanges", "internal/bytealg.MaxLen"], apart := false, laid := [("unicode/utf8.acceptRanges", laid_unicode_utf8_acceptRanges), ("unicode/utf8.first", laid_unicode_utf8_first)] }
def SpeechHoldsSaid : Prop := speechHoldsRow.holds Tryd.pinned (OpenSpec.ofChange speechHoldsSpec)

/-- ITS FALSE NEIGHBOUR: 'it returns false'. Refute it at one input. -/
def speechHoldsWrong : ChangeSpec := { name := "speechHolds", fn := fun _ => fun
  | [d1, d2] => { results := [.lit (.bool false)], args := [d1, d2] }
  | _ => none }
def SpeechHoldsWrongFalsely : Prop := speechHoldsRow.holds Tryd.pinned (OpenSpec.ofChange speechHoldsWrong)

/- THE SECOND FORM. 'bulk': how many values and letters a reading holds, each counted each time it is reached (what is shared counts as often as it is met; a slice's spare places count too). A statement '..UptoSaid' is the law's where the arguments, and the package variables that the reading takes, are together of bulk at most 1048576: NARROWER than '..Said'. Prove '..Said' where nothing that the law and all that it calls make is longer than what came in: it says more and counts as full. Else prove '..UptoSaid'. A law counts once. -/
mutual
def uptoBulk {H : Type} : DataW H → Nat
  | .lit (.string bytes) => bytes.length + 1
  | .lit _ => 1
  | .nil => 1
  | .ptr d => uptoBulk d + 1
  | .slice elems spare => uptoBulkAll elems + uptoBulkAll spare + 1
  | .agg parts => uptoBulkAll parts + 1
  | .iface _ d => uptoBulk d + 1
  | .map entries => uptoBulkEntries entries + 1
  | .held _ => 1
def uptoBulkAll {H : Type} : List (DataW H) → Nat
  | [] => 0
  | d :: r => uptoBulk d + uptoBulkAll r
def uptoBulkEntries {H : Type} : List (Lit × DataW H) → Nat
  | [] => 0
  | x :: r => uptoBulkEntry x + uptoBulkEntries r
def uptoBulkEntry {H : Type} : Lit × DataW H → Nat
  | (.string bytes, d) => bytes.length + uptoBulk d + 1
  | (_, d) => uptoBulk d + 1
 end
def uptoSmall : (H : Type) → List (DataW H) → Bool := fun _ ds => decide (uptoBulkAll ds ≤ 1048576)
def OpenSpec.upto (s : _root_.Go.ChangeSpec) : _root_.Go.OpenSpec := { _root_.Go.OpenSpec.ofChange s with cond := some uptoSmall }

/-- 'barquelaw22.SpeechLogs', WHERE WHAT IT READS IS OF BULK AT MOST 1048576: true; the input reads as it did. -/
def speechLogsUptoRow : OpenClaim := { program := "ythejnffhfmdpnaadoor", sum := "d332b6a6022d92433bbf184b745615e1ae5e3eb85f621a3a577131113f8ba516", func := "barque/barquelaw22.SpeechLogs", spec := "speechLogs", inPlace := ["internal/bytealg.CountString", "internal/bytealg.IndexByteString", "internal/bytealg.IndexString", "internal/abi.NoEscape"], unfollowed := true, recurses := true, named := ["unicode/utf8.first", "unicode/utf8.acceptRanges", "internal/bytealg.MaxLen"], apart := false, laid := [("unicode/utf8.acceptRanges", laid_unicode_utf8_acceptRanges), ("unicode/utf8.first", laid_unicode_utf8_first)], narrowed := true }
def SpeechLogsUptoSaid : Prop := speechLogsUptoRow.holds Tryd.pinned (OpenSpec.upto speechLogsSpec)

/-- 'barquelaw22.SpeechKept', WHERE WHAT IT READS IS OF BULK AT MOST 1048576: true; the input reads as it did. -/
def speechKeptUptoRow : OpenClaim := { program := "ythejnffhfmdpnaadoor", sum := "d332b6a6022d92433bbf184b745615e1ae5e3eb85f621a3a577131113f8ba516", func := "barque/barquelaw22.SpeechKept", spec := "speechKept", inPlace := ["internal/bytealg.CountString", "internal/bytealg.IndexByteString", "internal/bytealg.IndexString", "internal/abi.NoEscape"], unfollowed := true, recurses := true, named := ["unicode/utf8.first", "unicode/utf8.acceptRanges", "internal/bytealg.MaxLen"], apart := false, laid := [("unicode/utf8.acceptRanges", laid_unicode_utf8_acceptRanges), ("unicode/utf8.first", laid_unicode_utf8_first)], narrowed := true }
def SpeechKeptUptoSaid : Prop := speechKeptUptoRow.holds Tryd.pinned (OpenSpec.upto speechKeptSpec)

/-- 'barquelaw22.SpeechDoes', WHERE WHAT IT READS IS OF BULK AT MOST 1048576: true; the input reads as it did. -/
def speechDoesUptoRow : OpenClaim := { program := "ythejnffhfmdpnaadoor", sum := "d332b6a6022d92433bbf184b745615e1ae5e3eb85f621a3a577131113f8ba516", func := "barque/barquelaw22.SpeechDoes", spec := "speechDoes", inPlace := ["internal/bytealg.CountString", "internal/bytealg.IndexByteString", "internal/bytealg.IndexString", "internal/abi.NoEscape"], unfollowed := true, recurses := true, named := ["unicode/utf8.first", "unicode/utf8.acceptRanges", "internal/bytealg.MaxLen"], apart := false, laid := [("unicode/utf8.acceptRanges", laid_unicode_utf8_acceptRanges), ("unicode/utf8.first", laid_unicode_utf8_first)], narrowed := true }
def SpeechDoesUptoSaid : Prop := speechDoesUptoRow.holds Tryd.pinned (OpenSpec.upto speechDoesSpec)

/-- 'barquelaw22.SpeechFinds', WHERE WHAT IT READS IS OF BULK AT MOST 1048576: true; the input reads as it did. -/
def speechFindsUptoRow : OpenClaim := { program := "ythejnffhfmdpnaadoor", sum := "d332b6a6022d92433bbf184b745615e1ae5e3eb85f621a3a577131113f8ba516", func := "barque/barquelaw22.SpeechFinds", spec := "speechFinds", inPlace := ["internal/bytealg.CountString", "internal/bytealg.IndexByteString", "internal/bytealg.IndexString", "internal/abi.NoEscape"], unfollowed := true, recurses := true, named := ["unicode/utf8.first", "unicode/utf8.acceptRanges", "internal/bytealg.MaxLen"], apart := false, laid := [("unicode/utf8.acceptRanges", laid_unicode_utf8_acceptRanges), ("unicode/utf8.first", laid_unicode_utf8_first)], narrowed := true }
def SpeechFindsUptoSaid : Prop := speechFindsUptoRow.holds Tryd.pinned (OpenSpec.upto speechFindsSpec)

/-- 'barquelaw22.SpeechSound', WHERE WHAT IT READS IS OF BULK AT MOST 1048576: true; the input reads as it did. -/
def speechSoundUptoRow : OpenClaim := { program := "ythejnffhfmdpnaadoor", sum := "d332b6a6022d92433bbf184b745615e1ae5e3eb85f621a3a577131113f8ba516", func := "barque/barquelaw22.SpeechSound", spec := "speechSound", inPlace := ["internal/bytealg.CountString", "internal/bytealg.IndexByteString", "internal/bytealg.IndexString", "internal/abi.NoEscape"], unfollowed := true, recurses := true, named := ["unicode/utf8.first", "unicode/utf8.acceptRanges", "internal/bytealg.MaxLen"], apart := false, laid := [("unicode/utf8.acceptRanges", laid_unicode_utf8_acceptRanges), ("unicode/utf8.first", laid_unicode_utf8_first)], narrowed := true }
def SpeechSoundUptoSaid : Prop := speechSoundUptoRow.holds Tryd.pinned (OpenSpec.upto speechSoundSpec)

/-- 'barquelaw22.SpeechTrue', WHERE WHAT IT READS IS OF BULK AT MOST 1048576: true; the input reads as it did. -/
def speechTrueUptoRow : OpenClaim := { program := "ythejnffhfmdpnaadoor", sum := "d332b6a6022d92433bbf184b745615e1ae5e3eb85f621a3a577131113f8ba516", func := "barque/barquelaw22.SpeechTrue", spec := "speechTrue", inPlace := ["internal/bytealg.CountString", "internal/bytealg.IndexByteString", "internal/bytealg.IndexString", "internal/abi.NoEscape"], unfollowed := true, recurses := true, named := ["unicode/utf8.first", "unicode/utf8.acceptRanges", "internal/bytealg.MaxLen"], apart := false, laid := [("unicode/utf8.acceptRanges", laid_unicode_utf8_acceptRanges), ("unicode/utf8.first", laid_unicode_utf8_first)], narrowed := true }
def SpeechTrueUptoSaid : Prop := speechTrueUptoRow.holds Tryd.pinned (OpenSpec.upto speechTrueSpec)

/-- 'barquelaw22.SpeechRestores', WHERE WHAT IT READS IS OF BULK AT MOST 1048576: true; the input reads as it did. -/
def speechRestoresUptoRow : OpenClaim := { program := "ythejnffhfmdpnaadoor", sum := "d332b6a6022d92433bbf184b745615e1ae5e3eb85f621a3a577131113f8ba516", func := "barque/barquelaw22.SpeechRestores", spec := "speechRestores", inPlace := ["internal/bytealg.CountString", "internal/bytealg.IndexByteString", "internal/bytealg.IndexString", "internal/abi.NoEscape"], unfollowed := true, recurses := true, named := ["unicode/utf8.first", "unicode/utf8.acceptRanges", "internal/bytealg.MaxLen"], apart := false, laid := [("unicode/utf8.acceptRanges", laid_unicode_utf8_acceptRanges), ("unicode/utf8.first", laid_unicode_utf8_first)], narrowed := true }
def SpeechRestoresUptoSaid : Prop := speechRestoresUptoRow.holds Tryd.pinned (OpenSpec.upto speechRestoresSpec)

/-- 'barquelaw22.SpeechHolds', WHERE WHAT IT READS IS OF BULK AT MOST 1048576: true; the input reads as it did. -/
def speechHoldsUptoRow : OpenClaim := { program := "ythejnffhfmdpnaadoor", sum := "d332b6a6022d92433bbf184b745615e1ae5e3eb85f621a3a577131113f8ba516", func := "barque/barquelaw22.SpeechHolds", spec := "speechHolds", inPlace := ["internal/bytealg.CountString", "internal/bytealg.IndexByteString", "internal/bytealg.IndexString", "internal/abi.NoEscape"], unfollowed := true, recurses := true, named := ["unicode/utf8.first", "unicode/utf8.acceptRanges", "internal/bytealg.MaxLen"], apart := false, laid := [("unicode/utf8.acceptRanges", laid_unicode_utf8_acceptRanges), ("unicode/utf8.first", laid_unicode_utf8_first)], narrowed := true }
def SpeechHoldsUptoSaid : Prop := speechHoldsUptoRow.holds Tryd.pinned (OpenSpec.upto speechHoldsSpec)

end Rows
end Go.Proofs.YthejnffhfmdpnaaDoor
