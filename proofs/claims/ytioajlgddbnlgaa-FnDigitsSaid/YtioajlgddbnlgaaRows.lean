/-
  No cell of these rows narrows 'for every input' (looked for: loops, veiled, ifaces, maps, wideKeys, modest, calm, conditions, laid).
  DERIVED. THE GIVEN ROWS OF THIS SEAT. 12 by the template 'for every input the law returns true; each argument reads behind the call as it read before'; 0 by the template 'total and deterministic' (their statements: YtioajlgddbnlgaaTotals.lean).
  GIVEN WITH THE SEED: the statements are not yours to turn. If you find one false, say at which input.
  Laid BY PROGRAM, IN A SANDBOX (cutbox-rows.mjs): the forced cells as the released guide's own fill.sh prints them over the translation 4dc1047929b725ad… (all of the seat's roots in one cut). By AI agents, Wed Nov 11 2026. No macro, syntax, notation, axiom, sorry.
-/
import Derived.Test.YtioajlgddbnlgaaChecked
import GoSem.Claim
import GoSem.ClaimJoined
import GoSem.ClaimMapViews
import Derived.JoinedTies
import Derived.KernelRfl
namespace Go.Proofs.Ytioajlgddbnlgaa
/- THE CELL 'sum', in the pinned program and in every row, IS THE sha256 OF THE DUMP (.gsa) THAT YtioajlgddbnlgaaProg.lean LOADS. Nothing in Lean hashes anything: it is a label: what it is worth is what the hold of that sum in a sandbox is worth. -/
noncomputable def Try.pinned : Pinned := { name := "ytioajlgddbnlgaa", sum := "4dc1047929b725ad72549d3898057c2e692426b86ccfc4a5672a58a71f2747c4", checked := Try.checked }
namespace Rows
def none {H : Type} : Left H := { results := [], args := [] }

/-- 'laws.FnExactConstants': WHATEVER THE INPUT: true; the input reads as it did. -/
def fnExactConstantsSpec : ChangeSpec := { name := "fnExactConstants", fn := fun _ => fun
  | [] => { results := [.lit (.bool true)], args := [] }
  | _ => none }
def fnExactConstantsRow : OpenClaim := { program := "ytioajlgddbnlgaa", sum := "4dc1047929b725ad72549d3898057c2e692426b86ccfc4a5672a58a71f2747c4", func := "loop.example/g00129/laws.FnExactConstants", spec := "fnExactConstants", apart := false }
def FnExactConstantsSaid : Prop := fnExactConstantsRow.holds Try.pinned (OpenSpec.ofChange fnExactConstantsSpec)

/-- ITS FALSE NEIGHBOUR: 'it returns false'. Refute it at one input. -/
def fnExactConstantsWrong : ChangeSpec := { name := "fnExactConstants", fn := fun _ => fun
  | [] => { results := [.lit (.bool false)], args := [] }
  | _ => none }
def FnExactConstantsWrongFalsely : Prop := fnExactConstantsRow.holds Try.pinned (OpenSpec.ofChange fnExactConstantsWrong)

/-- 'laws.FnExactTickGap': WHATEVER THE INPUT: true; the input reads as it did. -/
def fnExactTickGapSpec : ChangeSpec := { name := "fnExactTickGap", fn := fun _ => fun
  | [d1, d2] => { results := [.lit (.bool true)], args := [d1, d2] }
  | _ => none }
def fnExactTickGapRow : OpenClaim := { program := "ytioajlgddbnlgaa", sum := "4dc1047929b725ad72549d3898057c2e692426b86ccfc4a5672a58a71f2747c4", func := "loop.example/g00129/laws.FnExactTickGap", spec := "fnExactTickGap", apart := false }
def FnExactTickGapSaid : Prop := fnExactTickGapRow.holds Try.pinned (OpenSpec.ofChange fnExactTickGapSpec)

/-- ITS FALSE NEIGHBOUR: 'it returns false'. Refute it at one input. -/
def fnExactTickGapWrong : ChangeSpec := { name := "fnExactTickGap", fn := fun _ => fun
  | [d1, d2] => { results := [.lit (.bool false)], args := [d1, d2] }
  | _ => none }
def FnExactTickGapWrongFalsely : Prop := fnExactTickGapRow.holds Try.pinned (OpenSpec.ofChange fnExactTickGapWrong)

/-- 'laws.FnExactTickOn': WHATEVER THE INPUT: true; the input reads as it did. -/
def fnExactTickOnSpec : ChangeSpec := { name := "fnExactTickOn", fn := fun _ => fun
  | [d1, d2] => { results := [.lit (.bool true)], args := [d1, d2] }
  | _ => none }
def fnExactTickOnRow : OpenClaim := { program := "ytioajlgddbnlgaa", sum := "4dc1047929b725ad72549d3898057c2e692426b86ccfc4a5672a58a71f2747c4", func := "loop.example/g00129/laws.FnExactTickOn", spec := "fnExactTickOn", apart := false }
def FnExactTickOnSaid : Prop := fnExactTickOnRow.holds Try.pinned (OpenSpec.ofChange fnExactTickOnSpec)

/-- ITS FALSE NEIGHBOUR: 'it returns false'. Refute it at one input. -/
def fnExactTickOnWrong : ChangeSpec := { name := "fnExactTickOn", fn := fun _ => fun
  | [d1, d2] => { results := [.lit (.bool false)], args := [d1, d2] }
  | _ => none }
def FnExactTickOnWrongFalsely : Prop := fnExactTickOnRow.holds Try.pinned (OpenSpec.ofChange fnExactTickOnWrong)

/-- 'laws.FnExactTickDue': WHATEVER THE INPUT: true; the input reads as it did. -/
def fnExactTickDueSpec : ChangeSpec := { name := "fnExactTickDue", fn := fun _ => fun
  | [d1, d2] => { results := [.lit (.bool true)], args := [d1, d2] }
  | _ => none }
def fnExactTickDueRow : OpenClaim := { program := "ytioajlgddbnlgaa", sum := "4dc1047929b725ad72549d3898057c2e692426b86ccfc4a5672a58a71f2747c4", func := "loop.example/g00129/laws.FnExactTickDue", spec := "fnExactTickDue", apart := false }
def FnExactTickDueSaid : Prop := fnExactTickDueRow.holds Try.pinned (OpenSpec.ofChange fnExactTickDueSpec)

/-- ITS FALSE NEIGHBOUR: 'it returns false'. Refute it at one input. -/
def fnExactTickDueWrong : ChangeSpec := { name := "fnExactTickDue", fn := fun _ => fun
  | [d1, d2] => { results := [.lit (.bool false)], args := [d1, d2] }
  | _ => none }
def FnExactTickDueWrongFalsely : Prop := fnExactTickDueRow.holds Try.pinned (OpenSpec.ofChange fnExactTickDueWrong)

/-- 'laws.FnExactLrc': WHATEVER THE INPUT: true; the input reads as it did. -/
def fnExactLrcSpec : ChangeSpec := { name := "fnExactLrc", fn := fun _ => fun
  | [d] => { results := [.lit (.bool true)], args := [d] }
  | _ => none }
def fnExactLrcRow : OpenClaim := { program := "ytioajlgddbnlgaa", sum := "4dc1047929b725ad72549d3898057c2e692426b86ccfc4a5672a58a71f2747c4", func := "loop.example/g00129/laws.FnExactLrc", spec := "fnExactLrc", apart := false }
def FnExactLrcSaid : Prop := fnExactLrcRow.holds Try.pinned (OpenSpec.ofChange fnExactLrcSpec)

/-- ITS FALSE NEIGHBOUR: 'it returns false'. Refute it at one input. -/
def fnExactLrcWrong : ChangeSpec := { name := "fnExactLrc", fn := fun _ => fun
  | [d] => { results := [.lit (.bool false)], args := [d] }
  | _ => none }
def FnExactLrcWrongFalsely : Prop := fnExactLrcRow.holds Try.pinned (OpenSpec.ofChange fnExactLrcWrong)

/-- 'laws.FnExactWordAt': WHATEVER THE INPUT: true; the input reads as it did. -/
def fnExactWordAtSpec : ChangeSpec := { name := "fnExactWordAt", fn := fun _ => fun
  | [d1, d2] => { results := [.lit (.bool true)], args := [d1, d2] }
  | _ => none }
def fnExactWordAtRow : OpenClaim := { program := "ytioajlgddbnlgaa", sum := "4dc1047929b725ad72549d3898057c2e692426b86ccfc4a5672a58a71f2747c4", func := "loop.example/g00129/laws.FnExactWordAt", spec := "fnExactWordAt", apart := false }
def FnExactWordAtSaid : Prop := fnExactWordAtRow.holds Try.pinned (OpenSpec.ofChange fnExactWordAtSpec)

/-- ITS FALSE NEIGHBOUR: 'it returns false'. Refute it at one input. -/
def fnExactWordAtWrong : ChangeSpec := { name := "fnExactWordAt", fn := fun _ => fun
  | [d1, d2] => { results := [.lit (.bool false)], args := [d1, d2] }
  | _ => none }
def FnExactWordAtWrongFalsely : Prop := fnExactWordAtRow.holds Try.pinned (OpenSpec.ofChange fnExactWordAtWrong)

/-- 'laws.FnExactHex': WHATEVER THE INPUT: true; the input reads as it did. -/
def fnExactHexSpec : ChangeSpec := { name := "fnExactHex", fn := fun _ => fun
  | [d] => { results := [.lit (.bool true)], args := [d] }
  | _ => none }
def fnExactHexRow : OpenClaim := { program := "ytioajlgddbnlgaa", sum := "4dc1047929b725ad72549d3898057c2e692426b86ccfc4a5672a58a71f2747c4", func := "loop.example/g00129/laws.FnExactHex", spec := "fnExactHex", apart := false }
def FnExactHexSaid : Prop := fnExactHexRow.holds Try.pinned (OpenSpec.ofChange fnExactHexSpec)

/-- ITS FALSE NEIGHBOUR: 'it returns false'. Refute it at one input. -/
def fnExactHexWrong : ChangeSpec := { name := "fnExactHex", fn := fun _ => fun
  | [d] => { results := [.lit (.bool false)], args := [d] }
  | _ => none }
def FnExactHexWrongFalsely : Prop := fnExactHexRow.holds Try.pinned (OpenSpec.ofChange fnExactHexWrong)

/-- 'laws.FnExactPutWord': WHATEVER THE INPUT: true; the input reads as it did. -/
def fnExactPutWordSpec : ChangeSpec := { name := "fnExactPutWord", fn := fun _ => fun
  | [d1, d2] => { results := [.lit (.bool true)], args := [d1, d2] }
  | _ => none }
def fnExactPutWordRow : OpenClaim := { program := "ytioajlgddbnlgaa", sum := "4dc1047929b725ad72549d3898057c2e692426b86ccfc4a5672a58a71f2747c4", func := "loop.example/g00129/laws.FnExactPutWord", spec := "fnExactPutWord", apart := false }
def FnExactPutWordSaid : Prop := fnExactPutWordRow.holds Try.pinned (OpenSpec.ofChange fnExactPutWordSpec)

/-- ITS FALSE NEIGHBOUR: 'it returns false'. Refute it at one input. -/
def fnExactPutWordWrong : ChangeSpec := { name := "fnExactPutWord", fn := fun _ => fun
  | [d1, d2] => { results := [.lit (.bool false)], args := [d1, d2] }
  | _ => none }
def FnExactPutWordWrongFalsely : Prop := fnExactPutWordRow.holds Try.pinned (OpenSpec.ofChange fnExactPutWordWrong)

/-- 'laws.FnExactCrc': WHATEVER THE INPUT: true; the input reads as it did. -/
def fnExactCrcSpec : ChangeSpec := { name := "fnExactCrc", fn := fun _ => fun
  | [d] => { results := [.lit (.bool true)], args := [d] }
  | _ => none }
def fnExactCrcRow : OpenClaim := { program := "ytioajlgddbnlgaa", sum := "4dc1047929b725ad72549d3898057c2e692426b86ccfc4a5672a58a71f2747c4", func := "loop.example/g00129/laws.FnExactCrc", spec := "fnExactCrc", apart := false }
def FnExactCrcSaid : Prop := fnExactCrcRow.holds Try.pinned (OpenSpec.ofChange fnExactCrcSpec)

/-- ITS FALSE NEIGHBOUR: 'it returns false'. Refute it at one input. -/
def fnExactCrcWrong : ChangeSpec := { name := "fnExactCrc", fn := fun _ => fun
  | [d] => { results := [.lit (.bool false)], args := [d] }
  | _ => none }
def FnExactCrcWrongFalsely : Prop := fnExactCrcRow.holds Try.pinned (OpenSpec.ofChange fnExactCrcWrong)

/-- 'laws.FnTicks': WHATEVER THE INPUT: true; the input reads as it did. -/
def fnTicksSpec : ChangeSpec := { name := "fnTicks", fn := fun _ => fun
  | [d] => { results := [.lit (.bool true)], args := [d] }
  | _ => none }
def fnTicksRow : OpenClaim := { program := "ytioajlgddbnlgaa", sum := "4dc1047929b725ad72549d3898057c2e692426b86ccfc4a5672a58a71f2747c4", func := "loop.example/g00129/laws.FnTicks", spec := "fnTicks", apart := false }
def FnTicksSaid : Prop := fnTicksRow.holds Try.pinned (OpenSpec.ofChange fnTicksSpec)

/-- ITS FALSE NEIGHBOUR: 'it returns false'. Refute it at one input. -/
def fnTicksWrong : ChangeSpec := { name := "fnTicks", fn := fun _ => fun
  | [d] => { results := [.lit (.bool false)], args := [d] }
  | _ => none }
def FnTicksWrongFalsely : Prop := fnTicksRow.holds Try.pinned (OpenSpec.ofChange fnTicksWrong)

/-- 'laws.FnExactUnHex': WHATEVER THE INPUT: true; the input reads as it did. -/
def fnExactUnHexSpec : ChangeSpec := { name := "fnExactUnHex", fn := fun _ => fun
  | [d] => { results := [.lit (.bool true)], args := [d] }
  | _ => none }
def fnExactUnHexRow : OpenClaim := { program := "ytioajlgddbnlgaa", sum := "4dc1047929b725ad72549d3898057c2e692426b86ccfc4a5672a58a71f2747c4", func := "loop.example/g00129/laws.FnExactUnHex", spec := "fnExactUnHex", apart := false }
def FnExactUnHexSaid : Prop := fnExactUnHexRow.holds Try.pinned (OpenSpec.ofChange fnExactUnHexSpec)

/-- ITS FALSE NEIGHBOUR: 'it returns false'. Refute it at one input. -/
def fnExactUnHexWrong : ChangeSpec := { name := "fnExactUnHex", fn := fun _ => fun
  | [d] => { results := [.lit (.bool false)], args := [d] }
  | _ => none }
def FnExactUnHexWrongFalsely : Prop := fnExactUnHexRow.holds Try.pinned (OpenSpec.ofChange fnExactUnHexWrong)

/-- 'laws.FnDigits': WHATEVER THE INPUT: true; the input reads as it did. -/
def fnDigitsSpec : ChangeSpec := { name := "fnDigits", fn := fun _ => fun
  | [d] => { results := [.lit (.bool true)], args := [d] }
  | _ => none }
def fnDigitsRow : OpenClaim := { program := "ytioajlgddbnlgaa", sum := "4dc1047929b725ad72549d3898057c2e692426b86ccfc4a5672a58a71f2747c4", func := "loop.example/g00129/laws.FnDigits", spec := "fnDigits", apart := false }
def FnDigitsSaid : Prop := fnDigitsRow.holds Try.pinned (OpenSpec.ofChange fnDigitsSpec)

/-- ITS FALSE NEIGHBOUR: 'it returns false'. Refute it at one input. -/
def fnDigitsWrong : ChangeSpec := { name := "fnDigits", fn := fun _ => fun
  | [d] => { results := [.lit (.bool false)], args := [d] }
  | _ => none }
def FnDigitsWrongFalsely : Prop := fnDigitsRow.holds Try.pinned (OpenSpec.ofChange fnDigitsWrong)

/- THE SECOND FORM. 'bulk': how many values and letters a reading holds, each counted each time it is reached (what is shared counts as often as it is met; a slice's spare places count too). A statement '..UptoSaid' is the law's where the arguments, and the package variables that the reading takes, are together of bulk at most 1048576: NARROWER than '..Said'. Prove '..Said' where nothing that the law and all that it calls make is longer than what came in: it says more and counts as full. Else prove '..UptoSaid'. A law counts once. -/
mutual
def uptoBulk {H : Type} : DataW H → Nat
  | .lit (.string bytes) => bytes.length + 1
  | .lit _ => 1
  | .nil => 1
  | .ptr d => uptoBulk d + 1
  | .slice elems spare => uptoBulkAll elems + uptoBulkAll spare + 1
  | .agg parts => uptoBulkAll parts + 1
  | .iface _ d => uptoBulk d + 1
  | .map entries => uptoBulkEntries entries + 1
  | .held _ => 1
def uptoBulkAll {H : Type} : List (DataW H) → Nat
  | [] => 0
  | d :: r => uptoBulk d + uptoBulkAll r
def uptoBulkEntries {H : Type} : List (Lit × DataW H) → Nat
  | [] => 0
  | x :: r => uptoBulkEntry x + uptoBulkEntries r
def uptoBulkEntry {H : Type} : Lit × DataW H → Nat
  | (.string bytes, d) => bytes.length + uptoBulk d + 1
  | (_, d) => uptoBulk d + 1
 end
def uptoSmall : (H : Type) → List (DataW H) → Bool := fun _ ds => decide (uptoBulkAll ds ≤ 1048576)
def OpenSpec.upto (s : _root_.Go.ChangeSpec) : _root_.Go.OpenSpec := { _root_.Go.OpenSpec.ofChange s with cond := some uptoSmall }

/-- 'laws.FnExactConstants', WHERE WHAT IT READS IS OF BULK AT MOST 1048576: true; the input reads as it did. -/
def fnExactConstantsUptoRow : OpenClaim := { program := "ytioajlgddbnlgaa", sum := "4dc1047929b725ad72549d3898057c2e692426b86ccfc4a5672a58a71f2747c4", func := "loop.example/g00129/laws.FnExactConstants", spec := "fnExactConstants", apart := false, narrowed := true }
def FnExactConstantsUptoSaid : Prop := fnExactConstantsUptoRow.holds Try.pinned (OpenSpec.upto fnExactConstantsSpec)

/-- 'laws.FnExactTickGap', WHERE WHAT IT READS IS OF BULK AT MOST 1048576: true; the input reads as it did. -/
def fnExactTickGapUptoRow : OpenClaim := { program := "ytioajlgddbnlgaa", sum := "4dc1047929b725ad72549d3898057c2e692426b86ccfc4a5672a58a71f2747c4", func := "loop.example/g00129/laws.FnExactTickGap", spec := "fnExactTickGap", apart := false, narrowed := true }
def FnExactTickGapUptoSaid : Prop := fnExactTickGapUptoRow.holds Try.pinned (OpenSpec.upto fnExactTickGapSpec)

/-- 'laws.FnExactTickOn', WHERE WHAT IT READS IS OF BULK AT MOST 1048576: true; the input reads as it did. -/
def fnExactTickOnUptoRow : OpenClaim := { program := "ytioajlgddbnlgaa", sum := "4dc1047929b725ad72549d3898057c2e692426b86ccfc4a5672a58a71f2747c4", func := "loop.example/g00129/laws.FnExactTickOn", spec := "fnExactTickOn", apart := false, narrowed := true }
def FnExactTickOnUptoSaid : Prop := fnExactTickOnUptoRow.holds Try.pinned (OpenSpec.upto fnExactTickOnSpec)

/-- 'laws.FnExactTickDue', WHERE WHAT IT READS IS OF BULK AT MOST 1048576: true; the input reads as it did. -/
def fnExactTickDueUptoRow : OpenClaim := { program := "ytioajlgddbnlgaa", sum := "4dc1047929b725ad72549d3898057c2e692426b86ccfc4a5672a58a71f2747c4", func := "loop.example/g00129/laws.FnExactTickDue", spec := "fnExactTickDue", apart := false, narrowed := true }
def FnExactTickDueUptoSaid : Prop := fnExactTickDueUptoRow.holds Try.pinned (OpenSpec.upto fnExactTickDueSpec)

/-- 'laws.FnExactLrc', WHERE WHAT IT READS IS OF BULK AT MOST 1048576: true; the input reads as it did. -/
def fnExactLrcUptoRow : OpenClaim := { program := "ytioajlgddbnlgaa", sum := "4dc1047929b725ad72549d3898057c2e692426b86ccfc4a5672a58a71f2747c4", func := "loop.example/g00129/laws.FnExactLrc", spec := "fnExactLrc", apart := false, narrowed := true }
def FnExactLrcUptoSaid : Prop := fnExactLrcUptoRow.holds Try.pinned (OpenSpec.upto fnExactLrcSpec)

/-- 'laws.FnExactWordAt', WHERE WHAT IT READS IS OF BULK AT MOST 1048576: true; the input reads as it did. -/
def fnExactWordAtUptoRow : OpenClaim := { program := "ytioajlgddbnlgaa", sum := "4dc1047929b725ad72549d3898057c2e692426b86ccfc4a5672a58a71f2747c4", func := "loop.example/g00129/laws.FnExactWordAt", spec := "fnExactWordAt", apart := false, narrowed := true }
def FnExactWordAtUptoSaid : Prop := fnExactWordAtUptoRow.holds Try.pinned (OpenSpec.upto fnExactWordAtSpec)

/-- 'laws.FnExactHex', WHERE WHAT IT READS IS OF BULK AT MOST 1048576: true; the input reads as it did. -/
def fnExactHexUptoRow : OpenClaim := { program := "ytioajlgddbnlgaa", sum := "4dc1047929b725ad72549d3898057c2e692426b86ccfc4a5672a58a71f2747c4", func := "loop.example/g00129/laws.FnExactHex", spec := "fnExactHex", apart := false, narrowed := true }
def FnExactHexUptoSaid : Prop := fnExactHexUptoRow.holds Try.pinned (OpenSpec.upto fnExactHexSpec)

/-- 'laws.FnExactPutWord', WHERE WHAT IT READS IS OF BULK AT MOST 1048576: true; the input reads as it did. -/
def fnExactPutWordUptoRow : OpenClaim := { program := "ytioajlgddbnlgaa", sum := "4dc1047929b725ad72549d3898057c2e692426b86ccfc4a5672a58a71f2747c4", func := "loop.example/g00129/laws.FnExactPutWord", spec := "fnExactPutWord", apart := false, narrowed := true }
def FnExactPutWordUptoSaid : Prop := fnExactPutWordUptoRow.holds Try.pinned (OpenSpec.upto fnExactPutWordSpec)

/-- 'laws.FnExactCrc', WHERE WHAT IT READS IS OF BULK AT MOST 1048576: true; the input reads as it did. -/
def fnExactCrcUptoRow : OpenClaim := { program := "ytioajlgddbnlgaa", sum := "4dc1047929b725ad72549d3898057c2e692426b86ccfc4a5672a58a71f2747c4", func := "loop.example/g00129/laws.FnExactCrc", spec := "fnExactCrc", apart := false, narrowed := true }
def FnExactCrcUptoSaid : Prop := fnExactCrcUptoRow.holds Try.pinned (OpenSpec.upto fnExactCrcSpec)

/-- 'laws.FnTicks', WHERE WHAT IT READS IS OF BULK AT MOST 1048576: true; the input reads as it did. -/
def fnTicksUptoRow : OpenClaim := { program := "ytioajlgddbnlgaa", sum := "4dc1047929b725ad72549d3898057c2e692426b86ccfc4a5672a58a71f2747c4", func := "loop.example/g00129/laws.FnTicks", spec := "fnTicks", apart := false, narrowed := true }
def FnTicksUptoSaid : Prop := fnTicksUptoRow.holds Try.pinned (OpenSpec.upto fnTicksSpec)

/-- 'laws.FnExactUnHex', WHERE WHAT IT READS IS OF BULK AT MOST 1048576: true; the input reads as it did. -/
def fnExactUnHexUptoRow : OpenClaim := { program := "ytioajlgddbnlgaa", sum := "4dc1047929b725ad72549d3898057c2e692426b86ccfc4a5672a58a71f2747c4", func := "loop.example/g00129/laws.FnExactUnHex", spec := "fnExactUnHex", apart := false, narrowed := true }
def FnExactUnHexUptoSaid : Prop := fnExactUnHexUptoRow.holds Try.pinned (OpenSpec.upto fnExactUnHexSpec)

/-- 'laws.FnDigits', WHERE WHAT IT READS IS OF BULK AT MOST 1048576: true; the input reads as it did. -/
def fnDigitsUptoRow : OpenClaim := { program := "ytioajlgddbnlgaa", sum := "4dc1047929b725ad72549d3898057c2e692426b86ccfc4a5672a58a71f2747c4", func := "loop.example/g00129/laws.FnDigits", spec := "fnDigits", apart := false, narrowed := true }
def FnDigitsUptoSaid : Prop := fnDigitsUptoRow.holds Try.pinned (OpenSpec.upto fnDigitsSpec)

end Rows
end Go.Proofs.Ytioajlgddbnlgaa
