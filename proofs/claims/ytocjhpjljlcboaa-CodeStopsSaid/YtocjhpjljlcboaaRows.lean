/-
  No cell of these rows narrows 'for every input' (looked for: loops, veiled, ifaces, maps, wideKeys, modest, calm, conditions, laid).
  DERIVED. THE GIVEN ROWS OF THIS SEAT. 18 by the template 'for every input the law returns true; each argument reads behind the call as it read before'; 0 by the template 'total and deterministic' (their statements: YtocjhpjljlcboaaTotals.lean).
  GIVEN WITH THE SEED: the statements are not yours to turn. If you find one false, say at which input.
  Laid BY PROGRAM, IN A SANDBOX (cutbox-rows.mjs): the forced cells as the released guide's own fill.sh prints them over the translation 0f8043e99cb9fd67… (all of the seat's roots in one cut). By AI agents, Wed Nov 11 2026. No macro, syntax, notation, axiom, sorry.
-/
import Derived.Test.YtocjhpjljlcboaaChecked
import GoSem.Claim
import GoSem.ClaimJoined
import GoSem.ClaimMapViews
import Derived.JoinedTies
import Derived.KernelRfl
namespace Go.Proofs.Ytocjhpjljlcboaa
/- THE CELL 'sum', in the pinned program and in every row, IS THE sha256 OF THE DUMP (.gsa) THAT YtocjhpjljlcboaaProg.lean LOADS. Nothing in Lean hashes anything: it is a label: what it is worth is what the hold of that sum in a sandbox is worth. -/
noncomputable def Try.pinned : Pinned := { name := "ytocjhpjljlcboaa", sum := "0f8043e99cb9fd67d481df36ab38ceaddca95d15c82dc0ad32045a64cf00ed34", checked := Try.checked }
namespace Rows
def none {H : Type} : Left H := { results := [], args := [] }

/-- 'barquelaw01.CodeNums': WHATEVER THE INPUT: true; the input reads as it did. -/
def codeNumsSpec : ChangeSpec := { name := "codeNums", fn := fun _ => fun
  | [d] => { results := [.lit (.bool true)], args := [d] }
  | _ => none }
def codeNumsRow : OpenClaim := { program := "ytocjhpjljlcboaa", sum := "0f8043e99cb9fd67d481df36ab38ceaddca95d15c82dc0ad32045a64cf00ed34", func := "barque/barquelaw01.CodeNums", spec := "codeNums", apart := false }
def CodeNumsSaid : Prop := codeNumsRow.holds Try.pinned (OpenSpec.ofChange codeNumsSpec)

/-- ITS FALSE NEIGHBOUR: 'it returns false'. Refute it at one input. -/
def codeNumsWrong : ChangeSpec := { name := "codeNums", fn := fun _ => fun
  | [d] => { results := [.lit (.bool false)], args := [d] }
  | _ => none }
def CodeNumsWrongFalsely : Prop := codeNumsRow.holds Try.pinned (OpenSpec.ofChange codeNumsWrong)

/-- 'barquelaw01.CodeSigns': WHATEVER THE INPUT: true; the input reads as it did. -/
def codeSignsSpec : ChangeSpec := { name := "codeSigns", fn := fun _ => fun
  | [d] => { results := [.lit (.bool true)], args := [d] }
  | _ => none }
def codeSignsRow : OpenClaim := { program := "ytocjhpjljlcboaa", sum := "0f8043e99cb9fd67d481df36ab38ceaddca95d15c82dc0ad32045a64cf00ed34", func := "barque/barquelaw01.CodeSigns", spec := "codeSigns", apart := false }
def CodeSignsSaid : Prop := codeSignsRow.holds Try.pinned (OpenSpec.ofChange codeSignsSpec)

/-- ITS FALSE NEIGHBOUR: 'it returns false'. Refute it at one input. -/
def codeSignsWrong : ChangeSpec := { name := "codeSigns", fn := fun _ => fun
  | [d] => { results := [.lit (.bool false)], args := [d] }
  | _ => none }
def CodeSignsWrongFalsely : Prop := codeSignsRow.holds Try.pinned (OpenSpec.ofChange codeSignsWrong)

/-- 'barquelaw01.CodeTexts': WHATEVER THE INPUT: true; the input reads as it did. -/
def codeTextsSpec : ChangeSpec := { name := "codeTexts", fn := fun _ => fun
  | [d1, d2] => { results := [.lit (.bool true)], args := [d1, d2] }
  | _ => none }
def codeTextsRow : OpenClaim := { program := "ytocjhpjljlcboaa", sum := "0f8043e99cb9fd67d481df36ab38ceaddca95d15c82dc0ad32045a64cf00ed34", func := "barque/barquelaw01.CodeTexts", spec := "codeTexts", apart := false }
def CodeTextsSaid : Prop := codeTextsRow.holds Try.pinned (OpenSpec.ofChange codeTextsSpec)

/-- ITS FALSE NEIGHBOUR: 'it returns false'. Refute it at one input. -/
def codeTextsWrong : ChangeSpec := { name := "codeTexts", fn := fun _ => fun
  | [d1, d2] => { results := [.lit (.bool false)], args := [d1, d2] }
  | _ => none }
def CodeTextsWrongFalsely : Prop := codeTextsRow.holds Try.pinned (OpenSpec.ofChange codeTextsWrong)

/-- 'barquelaw01.CodeNobody': WHATEVER THE INPUT: true; the input reads as it did. -/
def codeNobodySpec : ChangeSpec := { name := "codeNobody", fn := fun _ => fun
  | [d] => { results := [.lit (.bool true)], args := [d] }
  | _ => none }
def codeNobodyRow : OpenClaim := { program := "ytocjhpjljlcboaa", sum := "0f8043e99cb9fd67d481df36ab38ceaddca95d15c82dc0ad32045a64cf00ed34", func := "barque/barquelaw01.CodeNobody", spec := "codeNobody", apart := false }
def CodeNobodySaid : Prop := codeNobodyRow.holds Try.pinned (OpenSpec.ofChange codeNobodySpec)

/-- ITS FALSE NEIGHBOUR: 'it returns false'. Refute it at one input. -/
def codeNobodyWrong : ChangeSpec := { name := "codeNobody", fn := fun _ => fun
  | [d] => { results := [.lit (.bool false)], args := [d] }
  | _ => none }
def CodeNobodyWrongFalsely : Prop := codeNobodyRow.holds Try.pinned (OpenSpec.ofChange codeNobodyWrong)

/-- 'barquelaw08.PressPresses': WHATEVER THE INPUT: true; the input reads as it did. -/
def pressPressesSpec : ChangeSpec := { name := "pressPresses", fn := fun _ => fun
  | [d] => { results := [.lit (.bool true)], args := [d] }
  | _ => none }
def pressPressesRow : OpenClaim := { program := "ytocjhpjljlcboaa", sum := "0f8043e99cb9fd67d481df36ab38ceaddca95d15c82dc0ad32045a64cf00ed34", func := "barque/barquelaw08.PressPresses", spec := "pressPresses", inPlace := ["internal/abi.NoEscape"], unfollowed := true, recurses := true, apart := false }
def PressPressesSaid : Prop := pressPressesRow.holds Try.pinned (OpenSpec.ofChange pressPressesSpec)

/-- ITS FALSE NEIGHBOUR: 'it returns false'. Refute it at one input. -/
def pressPressesWrong : ChangeSpec := { name := "pressPresses", fn := fun _ => fun
  | [d] => { results := [.lit (.bool false)], args := [d] }
  | _ => none }
def PressPressesWrongFalsely : Prop := pressPressesRow.holds Try.pinned (OpenSpec.ofChange pressPressesWrong)

/-- 'barquelaw08.PressFar': WHATEVER THE INPUT: true; the input reads as it did. -/
def pressFarSpec : ChangeSpec := { name := "pressFar", fn := fun _ => fun
  | [d1, d2] => { results := [.lit (.bool true)], args := [d1, d2] }
  | _ => none }
def pressFarRow : OpenClaim := { program := "ytocjhpjljlcboaa", sum := "0f8043e99cb9fd67d481df36ab38ceaddca95d15c82dc0ad32045a64cf00ed34", func := "barque/barquelaw08.PressFar", spec := "pressFar", inPlace := ["internal/abi.NoEscape"], unfollowed := true, recurses := true, apart := false }
def PressFarSaid : Prop := pressFarRow.holds Try.pinned (OpenSpec.ofChange pressFarSpec)

/-- ITS FALSE NEIGHBOUR: 'it returns false'. Refute it at one input. -/
def pressFarWrong : ChangeSpec := { name := "pressFar", fn := fun _ => fun
  | [d1, d2] => { results := [.lit (.bool false)], args := [d1, d2] }
  | _ => none }
def PressFarWrongFalsely : Prop := pressFarRow.holds Try.pinned (OpenSpec.ofChange pressFarWrong)

/-- 'barquelaw08.PressBounds': WHATEVER THE INPUT: true; the input reads as it did. -/
def pressBoundsSpec : ChangeSpec := { name := "pressBounds", fn := fun _ => fun
  | [d] => { results := [.lit (.bool true)], args := [d] }
  | _ => none }
def pressBoundsRow : OpenClaim := { program := "ytocjhpjljlcboaa", sum := "0f8043e99cb9fd67d481df36ab38ceaddca95d15c82dc0ad32045a64cf00ed34", func := "barque/barquelaw08.PressBounds", spec := "pressBounds", inPlace := ["internal/abi.NoEscape"], unfollowed := true, recurses := true, apart := false }
def PressBoundsSaid : Prop := pressBoundsRow.holds Try.pinned (OpenSpec.ofChange pressBoundsSpec)

/-- ITS FALSE NEIGHBOUR: 'it returns false'. Refute it at one input. -/
def pressBoundsWrong : ChangeSpec := { name := "pressBounds", fn := fun _ => fun
  | [d] => { results := [.lit (.bool false)], args := [d] }
  | _ => none }
def PressBoundsWrongFalsely : Prop := pressBoundsRow.holds Try.pinned (OpenSpec.ofChange pressBoundsWrong)

/-- 'barquelaw08.PressWraps': WHATEVER THE INPUT: true; the input reads as it did. -/
def pressWrapsSpec : ChangeSpec := { name := "pressWraps", fn := fun _ => fun
  | [d] => { results := [.lit (.bool true)], args := [d] }
  | _ => none }
def pressWrapsRow : OpenClaim := { program := "ytocjhpjljlcboaa", sum := "0f8043e99cb9fd67d481df36ab38ceaddca95d15c82dc0ad32045a64cf00ed34", func := "barque/barquelaw08.PressWraps", spec := "pressWraps", inPlace := ["internal/abi.NoEscape"], unfollowed := true, recurses := true, apart := false }
def PressWrapsSaid : Prop := pressWrapsRow.holds Try.pinned (OpenSpec.ofChange pressWrapsSpec)

/-- ITS FALSE NEIGHBOUR: 'it returns false'. Refute it at one input. -/
def pressWrapsWrong : ChangeSpec := { name := "pressWraps", fn := fun _ => fun
  | [d] => { results := [.lit (.bool false)], args := [d] }
  | _ => none }
def PressWrapsWrongFalsely : Prop := pressWrapsRow.holds Try.pinned (OpenSpec.ofChange pressWrapsWrong)

/-- 'barquelaw08.PressLong': WHATEVER THE INPUT: true; the input reads as it did. -/
def pressLongSpec : ChangeSpec := { name := "pressLong", fn := fun _ => fun
  | [d] => { results := [.lit (.bool true)], args := [d] }
  | _ => none }
def pressLongRow : OpenClaim := { program := "ytocjhpjljlcboaa", sum := "0f8043e99cb9fd67d481df36ab38ceaddca95d15c82dc0ad32045a64cf00ed34", func := "barque/barquelaw08.PressLong", spec := "pressLong", inPlace := ["internal/abi.NoEscape"], unfollowed := true, recurses := true, apart := false }
def PressLongSaid : Prop := pressLongRow.holds Try.pinned (OpenSpec.ofChange pressLongSpec)

/-- ITS FALSE NEIGHBOUR: 'it returns false'. Refute it at one input. -/
def pressLongWrong : ChangeSpec := { name := "pressLong", fn := fun _ => fun
  | [d] => { results := [.lit (.bool false)], args := [d] }
  | _ => none }
def PressLongWrongFalsely : Prop := pressLongRow.holds Try.pinned (OpenSpec.ofChange pressLongWrong)

/-- 'barquelaw01.CodeReads': WHATEVER THE INPUT: true; the input reads as it did. -/
def codeReadsSpec : ChangeSpec := { name := "codeReads", fn := fun _ => fun
  | [d1, d2] => { results := [.lit (.bool true)], args := [d1, d2] }
  | _ => none }
def codeReadsRow : OpenClaim := { program := "ytocjhpjljlcboaa", sum := "0f8043e99cb9fd67d481df36ab38ceaddca95d15c82dc0ad32045a64cf00ed34", func := "barque/barquelaw01.CodeReads", spec := "codeReads", apart := false }
def CodeReadsSaid : Prop := codeReadsRow.holds Try.pinned (OpenSpec.ofChange codeReadsSpec)

/-- ITS FALSE NEIGHBOUR: 'it returns false'. Refute it at one input. -/
def codeReadsWrong : ChangeSpec := { name := "codeReads", fn := fun _ => fun
  | [d1, d2] => { results := [.lit (.bool false)], args := [d1, d2] }
  | _ => none }
def CodeReadsWrongFalsely : Prop := codeReadsRow.holds Try.pinned (OpenSpec.ofChange codeReadsWrong)

/-- 'barquelaw01.CodeStops': WHATEVER THE INPUT: true; the input reads as it did. -/
def codeStopsSpec : ChangeSpec := { name := "codeStops", fn := fun _ => fun
  | [d1, d2, d3] => { results := [.lit (.bool true)], args := [d1, d2, d3] }
  | _ => none }
def codeStopsRow : OpenClaim := { program := "ytocjhpjljlcboaa", sum := "0f8043e99cb9fd67d481df36ab38ceaddca95d15c82dc0ad32045a64cf00ed34", func := "barque/barquelaw01.CodeStops", spec := "codeStops", apart := false }
def CodeStopsSaid : Prop := codeStopsRow.holds Try.pinned (OpenSpec.ofChange codeStopsSpec)

/-- ITS FALSE NEIGHBOUR: 'it returns false'. Refute it at one input. -/
def codeStopsWrong : ChangeSpec := { name := "codeStops", fn := fun _ => fun
  | [d1, d2, d3] => { results := [.lit (.bool false)], args := [d1, d2, d3] }
  | _ => none }
def CodeStopsWrongFalsely : Prop := codeStopsRow.holds Try.pinned (OpenSpec.ofChange codeStopsWrong)

/-- 'barquelaw01.CodeLists': WHATEVER THE INPUT: true; the input reads as it did. -/
def codeListsSpec : ChangeSpec := { name := "codeLists", fn := fun _ => fun
  | [d1, d2] => { results := [.lit (.bool true)], args := [d1, d2] }
  | _ => none }
def codeListsRow : OpenClaim := { program := "ytocjhpjljlcboaa", sum := "0f8043e99cb9fd67d481df36ab38ceaddca95d15c82dc0ad32045a64cf00ed34", func := "barque/barquelaw01.CodeLists", spec := "codeLists", inPlace := ["internal/abi.NoEscape"], apart := false }
def CodeListsSaid : Prop := codeListsRow.holds Try.pinned (OpenSpec.ofChange codeListsSpec)

/-- ITS FALSE NEIGHBOUR: 'it returns false'. Refute it at one input. -/
def codeListsWrong : ChangeSpec := { name := "codeLists", fn := fun _ => fun
  | [d1, d2] => { results := [.lit (.bool false)], args := [d1, d2] }
  | _ => none }
def CodeListsWrongFalsely : Prop := codeListsRow.holds Try.pinned (OpenSpec.ofChange codeListsWrong)

/-- 'barquelaw01.CodeCanon': WHATEVER THE INPUT: true; the input reads as it did. -/
def codeCanonSpec : ChangeSpec := { name := "codeCanon", fn := fun _ => fun
  | [d] => { results := [.lit (.bool true)], args := [d] }
  | _ => none }
def codeCanonRow : OpenClaim := { program := "ytocjhpjljlcboaa", sum := "0f8043e99cb9fd67d481df36ab38ceaddca95d15c82dc0ad32045a64cf00ed34", func := "barque/barquelaw01.CodeCanon", spec := "codeCanon", inPlace := ["internal/abi.NoEscape"], apart := false }
def CodeCanonSaid : Prop := codeCanonRow.holds Try.pinned (OpenSpec.ofChange codeCanonSpec)

/-- ITS FALSE NEIGHBOUR: 'it returns false'. Refute it at one input. -/
def codeCanonWrong : ChangeSpec := { name := "codeCanon", fn := fun _ => fun
  | [d] => { results := [.lit (.bool false)], args := [d] }
  | _ => none }
def CodeCanonWrongFalsely : Prop := codeCanonRow.holds Try.pinned (OpenSpec.ofChange codeCanonWrong)

/-- 'barquelaw01.CodeBack': WHATEVER THE INPUT: true; the input reads as it did. -/
def codeBackSpec : ChangeSpec := { name := "codeBack", fn := fun _ => fun
  | [d1, d2, d3, d4] => { results := [.lit (.bool true)], args := [d1, d2, d3, d4] }
  | _ => none }
def codeBackRow : OpenClaim := { program := "ytocjhpjljlcboaa", sum := "0f8043e99cb9fd67d481df36ab38ceaddca95d15c82dc0ad32045a64cf00ed34", func := "barque/barquelaw01.CodeBack", spec := "codeBack", inPlace := ["internal/abi.NoEscape"], apart := false }
def CodeBackSaid : Prop := codeBackRow.holds Try.pinned (OpenSpec.ofChange codeBackSpec)

/-- ITS FALSE NEIGHBOUR: 'it returns false'. Refute it at one input. -/
def codeBackWrong : ChangeSpec := { name := "codeBack", fn := fun _ => fun
  | [d1, d2, d3, d4] => { results := [.lit (.bool false)], args := [d1, d2, d3, d4] }
  | _ => none }
def CodeBackWrongFalsely : Prop := codeBackRow.holds Try.pinned (OpenSpec.ofChange codeBackWrong)

/-- 'barquelaw08.PressLooses': WHATEVER THE INPUT: true; the input reads as it did. -/
def pressLoosesSpec : ChangeSpec := { name := "pressLooses", fn := fun _ => fun
  | [d] => { results := [.lit (.bool true)], args := [d] }
  | _ => none }
def pressLoosesRow : OpenClaim := { program := "ytocjhpjljlcboaa", sum := "0f8043e99cb9fd67d481df36ab38ceaddca95d15c82dc0ad32045a64cf00ed34", func := "barque/barquelaw08.PressLooses", spec := "pressLooses", inPlace := ["internal/abi.NoEscape"], unfollowed := true, recurses := true, apart := false }
def PressLoosesSaid : Prop := pressLoosesRow.holds Try.pinned (OpenSpec.ofChange pressLoosesSpec)

/-- ITS FALSE NEIGHBOUR: 'it returns false'. Refute it at one input. -/
def pressLoosesWrong : ChangeSpec := { name := "pressLooses", fn := fun _ => fun
  | [d] => { results := [.lit (.bool false)], args := [d] }
  | _ => none }
def PressLoosesWrongFalsely : Prop := pressLoosesRow.holds Try.pinned (OpenSpec.ofChange pressLoosesWrong)

/-- 'barquelaw08.PressTwice': WHATEVER THE INPUT: true; the input reads as it did. -/
def pressTwiceSpec : ChangeSpec := { name := "pressTwice", fn := fun _ => fun
  | [d] => { results := [.lit (.bool true)], args := [d] }
  | _ => none }
def pressTwiceRow : OpenClaim := { program := "ytocjhpjljlcboaa", sum := "0f8043e99cb9fd67d481df36ab38ceaddca95d15c82dc0ad32045a64cf00ed34", func := "barque/barquelaw08.PressTwice", spec := "pressTwice", inPlace := ["internal/abi.NoEscape"], unfollowed := true, recurses := true, apart := false }
def PressTwiceSaid : Prop := pressTwiceRow.holds Try.pinned (OpenSpec.ofChange pressTwiceSpec)

/-- ITS FALSE NEIGHBOUR: 'it returns false'. Refute it at one input. -/
def pressTwiceWrong : ChangeSpec := { name := "pressTwice", fn := fun _ => fun
  | [d] => { results := [.lit (.bool false)], args := [d] }
  | _ => none }
def PressTwiceWrongFalsely : Prop := pressTwiceRow.holds Try.pinned (OpenSpec.ofChange pressTwiceWrong)

/-- 'barquelaw08.PressOpens': WHATEVER THE INPUT: true; the input reads as it did. -/
def pressOpensSpec : ChangeSpec := { name := "pressOpens", fn := fun _ => fun
  | [d] => { results := [.lit (.bool true)], args := [d] }
  | _ => none }
def pressOpensRow : OpenClaim := { program := "ytocjhpjljlcboaa", sum := "0f8043e99cb9fd67d481df36ab38ceaddca95d15c82dc0ad32045a64cf00ed34", func := "barque/barquelaw08.PressOpens", spec := "pressOpens", inPlace := ["internal/abi.NoEscape"], unfollowed := true, recurses := true, apart := false }
def PressOpensSaid : Prop := pressOpensRow.holds Try.pinned (OpenSpec.ofChange pressOpensSpec)

/-- ITS FALSE NEIGHBOUR: 'it returns false'. Refute it at one input. -/
def pressOpensWrong : ChangeSpec := { name := "pressOpens", fn := fun _ => fun
  | [d] => { results := [.lit (.bool false)], args := [d] }
  | _ => none }
def PressOpensWrongFalsely : Prop := pressOpensRow.holds Try.pinned (OpenSpec.ofChange pressOpensWrong)

/-- 'barquelaw08.PressBack': WHATEVER THE INPUT: true; the input reads as it did. -/
def pressBackSpec : ChangeSpec := { name := "pressBack", fn := fun _ => fun
  | [d] => { results := [.lit (.bool true)], args := [d] }
  | _ => none }
def pressBackRow : OpenClaim := { program := "ytocjhpjljlcboaa", sum := "0f8043e99cb9fd67d481df36ab38ceaddca95d15c82dc0ad32045a64cf00ed34", func := "barque/barquelaw08.PressBack", spec := "pressBack", inPlace := ["internal/abi.NoEscape"], unfollowed := true, recurses := true, apart := false }
def PressBackSaid : Prop := pressBackRow.holds Try.pinned (OpenSpec.ofChange pressBackSpec)

/-- ITS FALSE NEIGHBOUR: 'it returns false'. Refute it at one input. -/
def pressBackWrong : ChangeSpec := { name := "pressBack", fn := fun _ => fun
  | [d] => { results := [.lit (.bool false)], args := [d] }
  | _ => none }
def PressBackWrongFalsely : Prop := pressBackRow.holds Try.pinned (OpenSpec.ofChange pressBackWrong)

/- THE SECOND FORM. 'bulk': how many values and letters a reading holds, each counted each time it is reached (what is shared counts as often as it is met; a slice's spare places count too). A statement '..UptoSaid' is the law's where the arguments, and the package variables that the reading takes, are together of bulk at most 1048576: NARROWER than '..Said'. Prove '..Said' where nothing that the law and all that it calls make is longer than what came in: it says more and counts as full. Else prove '..UptoSaid'. A law counts once. -/
mutual
def uptoBulk {H : Type} : DataW H → Nat
  | .lit (.string bytes) => bytes.length + 1
  | .lit _ => 1
  | .nil => 1
  | .ptr d => uptoBulk d + 1
  | .slice elems spare => uptoBulkAll elems + uptoBulkAll spare + 1
  | .agg parts => uptoBulkAll parts + 1
  | .iface _ d => uptoBulk d + 1
  | .map entries => uptoBulkEntries entries + 1
  | .held _ => 1
def uptoBulkAll {H : Type} : List (DataW H) → Nat
  | [] => 0
  | d :: r => uptoBulk d + uptoBulkAll r
def uptoBulkEntries {H : Type} : List (Lit × DataW H) → Nat
  | [] => 0
  | x :: r => uptoBulkEntry x + uptoBulkEntries r
def uptoBulkEntry {H : Type} : Lit × DataW H → Nat
  | (.string bytes, d) => bytes.length + uptoBulk d + 1
  | (_, d) => uptoBulk d + 1
 end
def uptoSmall : (H : Type) → List (DataW H) → Bool := fun _ ds => decide (uptoBulkAll ds ≤ 1048576)
def OpenSpec.upto (s : _root_.Go.ChangeSpec) : _root_.Go.OpenSpec := { _root_.Go.OpenSpec.ofChange s with cond := some uptoSmall }

/-- 'barquelaw01.CodeNums', WHERE WHAT IT READS IS OF BULK AT MOST 1048576: true; the input reads as it did. -/
def codeNumsUptoRow : OpenClaim := { program := "ytocjhpjljlcboaa", sum := "0f8043e99cb9fd67d481df36ab38ceaddca95d15c82dc0ad32045a64cf00ed34", func := "barque/barquelaw01.CodeNums", spec := "codeNums", apart := false, narrowed := true }
def CodeNumsUptoSaid : Prop := codeNumsUptoRow.holds Try.pinned (OpenSpec.upto codeNumsSpec)

/-- 'barquelaw01.CodeSigns', WHERE WHAT IT READS IS OF BULK AT MOST 1048576: true; the input reads as it did. -/
def codeSignsUptoRow : OpenClaim := { program := "ytocjhpjljlcboaa", sum := "0f8043e99cb9fd67d481df36ab38ceaddca95d15c82dc0ad32045a64cf00ed34", func := "barque/barquelaw01.CodeSigns", spec := "codeSigns", apart := false, narrowed := true }
def CodeSignsUptoSaid : Prop := codeSignsUptoRow.holds Try.pinned (OpenSpec.upto codeSignsSpec)

/-- 'barquelaw01.CodeTexts', WHERE WHAT IT READS IS OF BULK AT MOST 1048576: true; the input reads as it did. -/
def codeTextsUptoRow : OpenClaim := { program := "ytocjhpjljlcboaa", sum := "0f8043e99cb9fd67d481df36ab38ceaddca95d15c82dc0ad32045a64cf00ed34", func := "barque/barquelaw01.CodeTexts", spec := "codeTexts", apart := false, narrowed := true }
def CodeTextsUptoSaid : Prop := codeTextsUptoRow.holds Try.pinned (OpenSpec.upto codeTextsSpec)

/-- 'barquelaw01.CodeNobody', WHERE WHAT IT READS IS OF BULK AT MOST 1048576: true; the input reads as it did. -/
def codeNobodyUptoRow : OpenClaim := { program := "ytocjhpjljlcboaa", sum := "0f8043e99cb9fd67d481df36ab38ceaddca95d15c82dc0ad32045a64cf00ed34", func := "barque/barquelaw01.CodeNobody", spec := "codeNobody", apart := false, narrowed := true }
def CodeNobodyUptoSaid : Prop := codeNobodyUptoRow.holds Try.pinned (OpenSpec.upto codeNobodySpec)

/-- 'barquelaw08.PressPresses', WHERE WHAT IT READS IS OF BULK AT MOST 1048576: true; the input reads as it did. -/
def pressPressesUptoRow : OpenClaim := { program := "ytocjhpjljlcboaa", sum := "0f8043e99cb9fd67d481df36ab38ceaddca95d15c82dc0ad32045a64cf00ed34", func := "barque/barquelaw08.PressPresses", spec := "pressPresses", inPlace := ["internal/abi.NoEscape"], unfollowed := true, recurses := true, apart := false, narrowed := true }
def PressPressesUptoSaid : Prop := pressPressesUptoRow.holds Try.pinned (OpenSpec.upto pressPressesSpec)

/-- 'barquelaw08.PressFar', WHERE WHAT IT READS IS OF BULK AT MOST 1048576: true; the input reads as it did. -/
def pressFarUptoRow : OpenClaim := { program := "ytocjhpjljlcboaa", sum := "0f8043e99cb9fd67d481df36ab38ceaddca95d15c82dc0ad32045a64cf00ed34", func := "barque/barquelaw08.PressFar", spec := "pressFar", inPlace := ["internal/abi.NoEscape"], unfollowed := true, recurses := true, apart := false, narrowed := true }
def PressFarUptoSaid : Prop := pressFarUptoRow.holds Try.pinned (OpenSpec.upto pressFarSpec)

/-- 'barquelaw08.PressBounds', WHERE WHAT IT READS IS OF BULK AT MOST 1048576: true; the input reads as it did. -/
def pressBoundsUptoRow : OpenClaim := { program := "ytocjhpjljlcboaa", sum := "0f8043e99cb9fd67d481df36ab38ceaddca95d15c82dc0ad32045a64cf00ed34", func := "barque/barquelaw08.PressBounds", spec := "pressBounds", inPlace := ["internal/abi.NoEscape"], unfollowed := true, recurses := true, apart := false, narrowed := true }
def PressBoundsUptoSaid : Prop := pressBoundsUptoRow.holds Try.pinned (OpenSpec.upto pressBoundsSpec)

/-- 'barquelaw08.PressWraps', WHERE WHAT IT READS IS OF BULK AT MOST 1048576: true; the input reads as it did. -/
def pressWrapsUptoRow : OpenClaim := { program := "ytocjhpjljlcboaa", sum := "0f8043e99cb9fd67d481df36ab38ceaddca95d15c82dc0ad32045a64cf00ed34", func := "barque/barquelaw08.PressWraps", spec := "pressWraps", inPlace := ["internal/abi.NoEscape"], unfollowed := true, recurses := true, apart := false, narrowed := true }
def PressWrapsUptoSaid : Prop := pressWrapsUptoRow.holds Try.pinned (OpenSpec.upto pressWrapsSpec)

/-- 'barquelaw08.PressLong', WHERE WHAT IT READS IS OF BULK AT MOST 1048576: true; the input reads as it did. -/
def pressLongUptoRow : OpenClaim := { program := "ytocjhpjljlcboaa", sum := "0f8043e99cb9fd67d481df36ab38ceaddca95d15c82dc0ad32045a64cf00ed34", func := "barque/barquelaw08.PressLong", spec := "pressLong", inPlace := ["internal/abi.NoEscape"], unfollowed := true, recurses := true, apart := false, narrowed := true }
def PressLongUptoSaid : Prop := pressLongUptoRow.holds Try.pinned (OpenSpec.upto pressLongSpec)

/-- 'barquelaw01.CodeReads', WHERE WHAT IT READS IS OF BULK AT MOST 1048576: true; the input reads as it did. -/
def codeReadsUptoRow : OpenClaim := { program := "ytocjhpjljlcboaa", sum := "0f8043e99cb9fd67d481df36ab38ceaddca95d15c82dc0ad32045a64cf00ed34", func := "barque/barquelaw01.CodeReads", spec := "codeReads", apart := false, narrowed := true }
def CodeReadsUptoSaid : Prop := codeReadsUptoRow.holds Try.pinned (OpenSpec.upto codeReadsSpec)

/-- 'barquelaw01.CodeStops', WHERE WHAT IT READS IS OF BULK AT MOST 1048576: true; the input reads as it did. -/
def codeStopsUptoRow : OpenClaim := { program := "ytocjhpjljlcboaa", sum := "0f8043e99cb9fd67d481df36ab38ceaddca95d15c82dc0ad32045a64cf00ed34", func := "barque/barquelaw01.CodeStops", spec := "codeStops", apart := false, narrowed := true }
def CodeStopsUptoSaid : Prop := codeStopsUptoRow.holds Try.pinned (OpenSpec.upto codeStopsSpec)

/-- 'barquelaw01.CodeLists', WHERE WHAT IT READS IS OF BULK AT MOST 1048576: true; the input reads as it did. -/
def codeListsUptoRow : OpenClaim := { program := "ytocjhpjljlcboaa", sum := "0f8043e99cb9fd67d481df36ab38ceaddca95d15c82dc0ad32045a64cf00ed34", func := "barque/barquelaw01.CodeLists", spec := "codeLists", inPlace := ["internal/abi.NoEscape"], apart := false, narrowed := true }
def CodeListsUptoSaid : Prop := codeListsUptoRow.holds Try.pinned (OpenSpec.upto codeListsSpec)

/-- 'barquelaw01.CodeCanon', WHERE WHAT IT READS IS OF BULK AT MOST 1048576: true; the input reads as it did. -/
def codeCanonUptoRow : OpenClaim := { program := "ytocjhpjljlcboaa", sum := "0f8043e99cb9fd67d481df36ab38ceaddca95d15c82dc0ad32045a64cf00ed34", func := "barque/barquelaw01.CodeCanon", spec := "codeCanon", inPlace := ["internal/abi.NoEscape"], apart := false, narrowed := true }
def CodeCanonUptoSaid : Prop := codeCanonUptoRow.holds Try.pinned (OpenSpec.upto codeCanonSpec)

/-- 'barquelaw01.CodeBack', WHERE WHAT IT READS IS OF BULK AT MOST 1048576: true; the input reads as it did. -/
def codeBackUptoRow : OpenClaim := { program := "ytocjhpjljlcboaa", sum := "0f8043e99cb9fd67d481df36ab38ceaddca95d15c82dc0ad32045a64cf00ed34", func := "barque/barquelaw01.CodeBack", spec := "codeBack", inPlace := ["internal/abi.NoEscape"], apart := false, narrowed := true }
def CodeBackUptoSaid : Prop := codeBackUptoRow.holds Try.pinned (OpenSpec.upto codeBackSpec)

/-- 'barquelaw08.PressLooses', WHERE WHAT IT READS IS OF BULK AT MOST 1048576: true; the input reads as it did. -/
def pressLoosesUptoRow : OpenClaim := { program := "ytocjhpjljlcboaa", sum := "0f8043e99cb9fd67d481df36ab38ceaddca95d15c82dc0ad32045a64cf00ed34", func := "barque/barquelaw08.PressLooses", spec := "pressLooses", inPlace := ["internal/abi.NoEscape"], unfollowed := true, recurses := true, apart := false, narrowed := true }
def PressLoosesUptoSaid : Prop := pressLoosesUptoRow.holds Try.pinned (OpenSpec.upto pressLoosesSpec)

/-- 'barquelaw08.PressTwice', WHERE WHAT IT READS IS OF BULK AT MOST 1048576: true; the input reads as it did. -/
def pressTwiceUptoRow : OpenClaim := { program := "ytocjhpjljlcboaa", sum := "0f8043e99cb9fd67d481df36ab38ceaddca95d15c82dc0ad32045a64cf00ed34", func := "barque/barquelaw08.PressTwice", spec := "pressTwice", inPlace := ["internal/abi.NoEscape"], unfollowed := true, recurses := true, apart := false, narrowed := true }
def PressTwiceUptoSaid : Prop := pressTwiceUptoRow.holds Try.pinned (OpenSpec.upto pressTwiceSpec)

/-- 'barquelaw08.PressOpens', WHERE WHAT IT READS IS OF BULK AT MOST 1048576: true; the input reads as it did. -/
def pressOpensUptoRow : OpenClaim := { program := "ytocjhpjljlcboaa", sum := "0f8043e99cb9fd67d481df36ab38ceaddca95d15c82dc0ad32045a64cf00ed34", func := "barque/barquelaw08.PressOpens", spec := "pressOpens", inPlace := ["internal/abi.NoEscape"], unfollowed := true, recurses := true, apart := false, narrowed := true }
def PressOpensUptoSaid : Prop := pressOpensUptoRow.holds Try.pinned (OpenSpec.upto pressOpensSpec)

/-- 'barquelaw08.PressBack', WHERE WHAT IT READS IS OF BULK AT MOST 1048576: true; the input reads as it did. -/
def pressBackUptoRow : OpenClaim := { program := "ytocjhpjljlcboaa", sum := "0f8043e99cb9fd67d481df36ab38ceaddca95d15c82dc0ad32045a64cf00ed34", func := "barque/barquelaw08.PressBack", spec := "pressBack", inPlace := ["internal/abi.NoEscape"], unfollowed := true, recurses := true, apart := false, narrowed := true }
def PressBackUptoSaid : Prop := pressBackUptoRow.holds Try.pinned (OpenSpec.upto pressBackSpec)

end Rows
end Go.Proofs.Ytocjhpjljlcboaa
