/-
  No cell of these rows narrows 'for every input' (looked for: loops, veiled, ifaces, maps, wideKeys, modest, calm, conditions, laid).
  DERIVED. THE GIVEN ROWS OF THIS SEAT. 14 by the template 'for every input the law returns true; each argument reads behind the call as it read before'; 0 by the template 'total and deterministic' (their statements: YtnikdfcdddlfbaaTotals.lean).
  GIVEN WITH THE SEED: the statements are not yours to turn. If you find one false, say at which input.
  Laid BY PROGRAM, IN A SANDBOX (cutbox-rows.mjs): the forced cells as the released guide's own fill.sh prints them over the translation f3471dba1323bb4d… (all of the seat's roots in one cut). By AI agents, Wed Nov 11 2026. No macro, syntax, notation, axiom, sorry.
-/
import Derived.Test.YtnikdfcdddlfbaaChecked
import GoSem.Claim
import GoSem.ClaimJoined
import GoSem.ClaimMapViews
import Derived.JoinedTies
import Derived.KernelRfl
namespace Go.Proofs.Ytnikdfcdddlfbaa
/- THE CELL 'sum', in the pinned program and in every row, IS THE sha256 OF THE DUMP (.gsa) THAT YtnikdfcdddlfbaaProg.lean LOADS. Nothing in Lean hashes anything: it is a label: what it is worth is what the hold of that sum in a sandbox is worth. -/
noncomputable def Try.pinned : Pinned := { name := "ytnikdfcdddlfbaa", sum := "f3471dba1323bb4d12b05ff88045a23e3f9fc1de32086583b330319eccd7b75a", checked := Try.checked }
namespace Rows
def none {H : Type} : Left H := { results := [], args := [] }

/-- 'laws.FnExactRingOk': WHATEVER THE INPUT: true; the input reads as it did. -/
def fnExactRingOkSpec : ChangeSpec := { name := "fnExactRingOk", fn := fun _ => fun
  | [d] => { results := [.lit (.bool true)], args := [d] }
  | _ => none }
def fnExactRingOkRow : OpenClaim := { program := "ytnikdfcdddlfbaa", sum := "f3471dba1323bb4d12b05ff88045a23e3f9fc1de32086583b330319eccd7b75a", func := "loop.example/g00129/laws.FnExactRingOk", spec := "fnExactRingOk", apart := false }
def FnExactRingOkSaid : Prop := fnExactRingOkRow.holds Try.pinned (OpenSpec.ofChange fnExactRingOkSpec)

/-- ITS FALSE NEIGHBOUR: 'it returns false'. Refute it at one input. -/
def fnExactRingOkWrong : ChangeSpec := { name := "fnExactRingOk", fn := fun _ => fun
  | [d] => { results := [.lit (.bool false)], args := [d] }
  | _ => none }
def FnExactRingOkWrongFalsely : Prop := fnExactRingOkRow.holds Try.pinned (OpenSpec.ofChange fnExactRingOkWrong)

/-- 'laws.FnSums': WHATEVER THE INPUT: true; the input reads as it did. -/
def fnSumsSpec : ChangeSpec := { name := "fnSums", fn := fun _ => fun
  | [d] => { results := [.lit (.bool true)], args := [d] }
  | _ => none }
def fnSumsRow : OpenClaim := { program := "ytnikdfcdddlfbaa", sum := "f3471dba1323bb4d12b05ff88045a23e3f9fc1de32086583b330319eccd7b75a", func := "loop.example/g00129/laws.FnSums", spec := "fnSums", apart := false }
def FnSumsSaid : Prop := fnSumsRow.holds Try.pinned (OpenSpec.ofChange fnSumsSpec)

/-- ITS FALSE NEIGHBOUR: 'it returns false'. Refute it at one input. -/
def fnSumsWrong : ChangeSpec := { name := "fnSums", fn := fun _ => fun
  | [d] => { results := [.lit (.bool false)], args := [d] }
  | _ => none }
def FnSumsWrongFalsely : Prop := fnSumsRow.holds Try.pinned (OpenSpec.ofChange fnSumsWrong)

/-- 'laws.FnExactRtuOk': WHATEVER THE INPUT: true; the input reads as it did. -/
def fnExactRtuOkSpec : ChangeSpec := { name := "fnExactRtuOk", fn := fun _ => fun
  | [d] => { results := [.lit (.bool true)], args := [d] }
  | _ => none }
def fnExactRtuOkRow : OpenClaim := { program := "ytnikdfcdddlfbaa", sum := "f3471dba1323bb4d12b05ff88045a23e3f9fc1de32086583b330319eccd7b75a", func := "loop.example/g00129/laws.FnExactRtuOk", spec := "fnExactRtuOk", apart := false }
def FnExactRtuOkSaid : Prop := fnExactRtuOkRow.holds Try.pinned (OpenSpec.ofChange fnExactRtuOkSpec)

/-- ITS FALSE NEIGHBOUR: 'it returns false'. Refute it at one input. -/
def fnExactRtuOkWrong : ChangeSpec := { name := "fnExactRtuOk", fn := fun _ => fun
  | [d] => { results := [.lit (.bool false)], args := [d] }
  | _ => none }
def FnExactRtuOkWrongFalsely : Prop := fnExactRtuOkRow.holds Try.pinned (OpenSpec.ofChange fnExactRtuOkWrong)

/-- 'laws.FnExactPackBits': WHATEVER THE INPUT: true; the input reads as it did. -/
def fnExactPackBitsSpec : ChangeSpec := { name := "fnExactPackBits", fn := fun _ => fun
  | [d] => { results := [.lit (.bool true)], args := [d] }
  | _ => none }
def fnExactPackBitsRow : OpenClaim := { program := "ytnikdfcdddlfbaa", sum := "f3471dba1323bb4d12b05ff88045a23e3f9fc1de32086583b330319eccd7b75a", func := "loop.example/g00129/laws.FnExactPackBits", spec := "fnExactPackBits", apart := false }
def FnExactPackBitsSaid : Prop := fnExactPackBitsRow.holds Try.pinned (OpenSpec.ofChange fnExactPackBitsSpec)

/-- ITS FALSE NEIGHBOUR: 'it returns false'. Refute it at one input. -/
def fnExactPackBitsWrong : ChangeSpec := { name := "fnExactPackBits", fn := fun _ => fun
  | [d] => { results := [.lit (.bool false)], args := [d] }
  | _ => none }
def FnExactPackBitsWrongFalsely : Prop := fnExactPackBitsRow.holds Try.pinned (OpenSpec.ofChange fnExactPackBitsWrong)

/-- 'laws.FnExactRtuNew': WHATEVER THE INPUT: true; the input reads as it did. -/
def fnExactRtuNewSpec : ChangeSpec := { name := "fnExactRtuNew", fn := fun _ => fun
  | [d1, d2] => { results := [.lit (.bool true)], args := [d1, d2] }
  | _ => none }
def fnExactRtuNewRow : OpenClaim := { program := "ytnikdfcdddlfbaa", sum := "f3471dba1323bb4d12b05ff88045a23e3f9fc1de32086583b330319eccd7b75a", func := "loop.example/g00129/laws.FnExactRtuNew", spec := "fnExactRtuNew", apart := false }
def FnExactRtuNewSaid : Prop := fnExactRtuNewRow.holds Try.pinned (OpenSpec.ofChange fnExactRtuNewSpec)

/-- ITS FALSE NEIGHBOUR: 'it returns false'. Refute it at one input. -/
def fnExactRtuNewWrong : ChangeSpec := { name := "fnExactRtuNew", fn := fun _ => fun
  | [d1, d2] => { results := [.lit (.bool false)], args := [d1, d2] }
  | _ => none }
def FnExactRtuNewWrongFalsely : Prop := fnExactRtuNewRow.holds Try.pinned (OpenSpec.ofChange fnExactRtuNewWrong)

/-- 'laws.FnBits': WHATEVER THE INPUT: true; the input reads as it did. -/
def fnBitsSpec : ChangeSpec := { name := "fnBits", fn := fun _ => fun
  | [d] => { results := [.lit (.bool true)], args := [d] }
  | _ => none }
def fnBitsRow : OpenClaim := { program := "ytnikdfcdddlfbaa", sum := "f3471dba1323bb4d12b05ff88045a23e3f9fc1de32086583b330319eccd7b75a", func := "loop.example/g00129/laws.FnBits", spec := "fnBits", apart := false }
def FnBitsSaid : Prop := fnBitsRow.holds Try.pinned (OpenSpec.ofChange fnBitsSpec)

/-- ITS FALSE NEIGHBOUR: 'it returns false'. Refute it at one input. -/
def fnBitsWrong : ChangeSpec := { name := "fnBits", fn := fun _ => fun
  | [d] => { results := [.lit (.bool false)], args := [d] }
  | _ => none }
def FnBitsWrongFalsely : Prop := fnBitsRow.holds Try.pinned (OpenSpec.ofChange fnBitsWrong)

/-- 'laws.FnExactUnpackBits': WHATEVER THE INPUT: true; the input reads as it did. -/
def fnExactUnpackBitsSpec : ChangeSpec := { name := "fnExactUnpackBits", fn := fun _ => fun
  | [d1, d2] => { results := [.lit (.bool true)], args := [d1, d2] }
  | _ => none }
def fnExactUnpackBitsRow : OpenClaim := { program := "ytnikdfcdddlfbaa", sum := "f3471dba1323bb4d12b05ff88045a23e3f9fc1de32086583b330319eccd7b75a", func := "loop.example/g00129/laws.FnExactUnpackBits", spec := "fnExactUnpackBits", apart := false }
def FnExactUnpackBitsSaid : Prop := fnExactUnpackBitsRow.holds Try.pinned (OpenSpec.ofChange fnExactUnpackBitsSpec)

/-- ITS FALSE NEIGHBOUR: 'it returns false'. Refute it at one input. -/
def fnExactUnpackBitsWrong : ChangeSpec := { name := "fnExactUnpackBits", fn := fun _ => fun
  | [d1, d2] => { results := [.lit (.bool false)], args := [d1, d2] }
  | _ => none }
def FnExactUnpackBitsWrongFalsely : Prop := fnExactUnpackBitsRow.holds Try.pinned (OpenSpec.ofChange fnExactUnpackBitsWrong)

/-- 'laws.FnExactRingTake': WHATEVER THE INPUT: true; the input reads as it did. -/
def fnExactRingTakeSpec : ChangeSpec := { name := "fnExactRingTake", fn := fun _ => fun
  | [d1, d2] => { results := [.lit (.bool true)], args := [d1, d2] }
  | _ => none }
def fnExactRingTakeRow : OpenClaim := { program := "ytnikdfcdddlfbaa", sum := "f3471dba1323bb4d12b05ff88045a23e3f9fc1de32086583b330319eccd7b75a", func := "loop.example/g00129/laws.FnExactRingTake", spec := "fnExactRingTake", apart := false }
def FnExactRingTakeSaid : Prop := fnExactRingTakeRow.holds Try.pinned (OpenSpec.ofChange fnExactRingTakeSpec)

/-- ITS FALSE NEIGHBOUR: 'it returns false'. Refute it at one input. -/
def fnExactRingTakeWrong : ChangeSpec := { name := "fnExactRingTake", fn := fun _ => fun
  | [d1, d2] => { results := [.lit (.bool false)], args := [d1, d2] }
  | _ => none }
def FnExactRingTakeWrongFalsely : Prop := fnExactRingTakeRow.holds Try.pinned (OpenSpec.ofChange fnExactRingTakeWrong)

/-- 'laws.FnExactWrites': WHATEVER THE INPUT: true; the input reads as it did. -/
def fnExactWritesSpec : ChangeSpec := { name := "fnExactWrites", fn := fun _ => fun
  | [d] => { results := [.lit (.bool true)], args := [d] }
  | _ => none }
def fnExactWritesRow : OpenClaim := { program := "ytnikdfcdddlfbaa", sum := "f3471dba1323bb4d12b05ff88045a23e3f9fc1de32086583b330319eccd7b75a", func := "loop.example/g00129/laws.FnExactWrites", spec := "fnExactWrites", apart := false }
def FnExactWritesSaid : Prop := fnExactWritesRow.holds Try.pinned (OpenSpec.ofChange fnExactWritesSpec)

/-- ITS FALSE NEIGHBOUR: 'it returns false'. Refute it at one input. -/
def fnExactWritesWrong : ChangeSpec := { name := "fnExactWrites", fn := fun _ => fun
  | [d] => { results := [.lit (.bool false)], args := [d] }
  | _ => none }
def FnExactWritesWrongFalsely : Prop := fnExactWritesRow.holds Try.pinned (OpenSpec.ofChange fnExactWritesWrong)

/-- 'laws.FnExactDeviceNew': WHATEVER THE INPUT: true; the input reads as it did. -/
def fnExactDeviceNewSpec : ChangeSpec := { name := "fnExactDeviceNew", fn := fun _ => fun
  | [d] => { results := [.lit (.bool true)], args := [d] }
  | _ => none }
def fnExactDeviceNewRow : OpenClaim := { program := "ytnikdfcdddlfbaa", sum := "f3471dba1323bb4d12b05ff88045a23e3f9fc1de32086583b330319eccd7b75a", func := "loop.example/g00129/laws.FnExactDeviceNew", spec := "fnExactDeviceNew", apart := false }
def FnExactDeviceNewSaid : Prop := fnExactDeviceNewRow.holds Try.pinned (OpenSpec.ofChange fnExactDeviceNewSpec)

/-- ITS FALSE NEIGHBOUR: 'it returns false'. Refute it at one input. -/
def fnExactDeviceNewWrong : ChangeSpec := { name := "fnExactDeviceNew", fn := fun _ => fun
  | [d] => { results := [.lit (.bool false)], args := [d] }
  | _ => none }
def FnExactDeviceNewWrongFalsely : Prop := fnExactDeviceNewRow.holds Try.pinned (OpenSpec.ofChange fnExactDeviceNewWrong)

/-- 'laws.FnRings': WHATEVER THE INPUT: true; the input reads as it did. -/
def fnRingsSpec : ChangeSpec := { name := "fnRings", fn := fun _ => fun
  | [d] => { results := [.lit (.bool true)], args := [d] }
  | _ => none }
def fnRingsRow : OpenClaim := { program := "ytnikdfcdddlfbaa", sum := "f3471dba1323bb4d12b05ff88045a23e3f9fc1de32086583b330319eccd7b75a", func := "loop.example/g00129/laws.FnRings", spec := "fnRings", apart := false }
def FnRingsSaid : Prop := fnRingsRow.holds Try.pinned (OpenSpec.ofChange fnRingsSpec)

/-- ITS FALSE NEIGHBOUR: 'it returns false'. Refute it at one input. -/
def fnRingsWrong : ChangeSpec := { name := "fnRings", fn := fun _ => fun
  | [d] => { results := [.lit (.bool false)], args := [d] }
  | _ => none }
def FnRingsWrongFalsely : Prop := fnRingsRow.holds Try.pinned (OpenSpec.ofChange fnRingsWrong)

/-- 'laws.FnExactDeviceOk': WHATEVER THE INPUT: true; the input reads as it did. -/
def fnExactDeviceOkSpec : ChangeSpec := { name := "fnExactDeviceOk", fn := fun _ => fun
  | [d] => { results := [.lit (.bool true)], args := [d] }
  | _ => none }
def fnExactDeviceOkRow : OpenClaim := { program := "ytnikdfcdddlfbaa", sum := "f3471dba1323bb4d12b05ff88045a23e3f9fc1de32086583b330319eccd7b75a", func := "loop.example/g00129/laws.FnExactDeviceOk", spec := "fnExactDeviceOk", unfollowed := true, recurses := true, apart := false }
def FnExactDeviceOkSaid : Prop := fnExactDeviceOkRow.holds Try.pinned (OpenSpec.ofChange fnExactDeviceOkSpec)

/-- ITS FALSE NEIGHBOUR: 'it returns false'. Refute it at one input. -/
def fnExactDeviceOkWrong : ChangeSpec := { name := "fnExactDeviceOk", fn := fun _ => fun
  | [d] => { results := [.lit (.bool false)], args := [d] }
  | _ => none }
def FnExactDeviceOkWrongFalsely : Prop := fnExactDeviceOkRow.holds Try.pinned (OpenSpec.ofChange fnExactDeviceOkWrong)

/-- 'laws.FnExactRingPut': WHATEVER THE INPUT: true; the input reads as it did. -/
def fnExactRingPutSpec : ChangeSpec := { name := "fnExactRingPut", fn := fun _ => fun
  | [d1, d2] => { results := [.lit (.bool true)], args := [d1, d2] }
  | _ => none }
def fnExactRingPutRow : OpenClaim := { program := "ytnikdfcdddlfbaa", sum := "f3471dba1323bb4d12b05ff88045a23e3f9fc1de32086583b330319eccd7b75a", func := "loop.example/g00129/laws.FnExactRingPut", spec := "fnExactRingPut", apart := false }
def FnExactRingPutSaid : Prop := fnExactRingPutRow.holds Try.pinned (OpenSpec.ofChange fnExactRingPutSpec)

/-- ITS FALSE NEIGHBOUR: 'it returns false'. Refute it at one input. -/
def fnExactRingPutWrong : ChangeSpec := { name := "fnExactRingPut", fn := fun _ => fun
  | [d1, d2] => { results := [.lit (.bool false)], args := [d1, d2] }
  | _ => none }
def FnExactRingPutWrongFalsely : Prop := fnExactRingPutRow.holds Try.pinned (OpenSpec.ofChange fnExactRingPutWrong)

/-- 'laws.FnExactSameDevice': WHATEVER THE INPUT: true; the input reads as it did. -/
def fnExactSameDeviceSpec : ChangeSpec := { name := "fnExactSameDevice", fn := fun _ => fun
  | [d1, d2] => { results := [.lit (.bool true)], args := [d1, d2] }
  | _ => none }
def fnExactSameDeviceRow : OpenClaim := { program := "ytnikdfcdddlfbaa", sum := "f3471dba1323bb4d12b05ff88045a23e3f9fc1de32086583b330319eccd7b75a", func := "loop.example/g00129/laws.FnExactSameDevice", spec := "fnExactSameDevice", apart := false }
def FnExactSameDeviceSaid : Prop := fnExactSameDeviceRow.holds Try.pinned (OpenSpec.ofChange fnExactSameDeviceSpec)

/-- ITS FALSE NEIGHBOUR: 'it returns false'. Refute it at one input. -/
def fnExactSameDeviceWrong : ChangeSpec := { name := "fnExactSameDevice", fn := fun _ => fun
  | [d1, d2] => { results := [.lit (.bool false)], args := [d1, d2] }
  | _ => none }
def FnExactSameDeviceWrongFalsely : Prop := fnExactSameDeviceRow.holds Try.pinned (OpenSpec.ofChange fnExactSameDeviceWrong)

/- THE SECOND FORM. 'bulk': how many values and letters a reading holds, each counted each time it is reached (what is shared counts as often as it is met; a slice's spare places count too). A statement '..UptoSaid' is the law's where the arguments, and the package variables that the reading takes, are together of bulk at most 1048576: NARROWER than '..Said'. Prove '..Said' where nothing that the law and all that it calls make is longer than what came in: it says more and counts as full. Else prove '..UptoSaid'. A law counts once. -/
mutual
def uptoBulk {H : Type} : DataW H → Nat
  | .lit (.string bytes) => bytes.length + 1
  | .lit _ => 1
  | .nil => 1
  | .ptr d => uptoBulk d + 1
  | .slice elems spare => uptoBulkAll elems + uptoBulkAll spare + 1
  | .agg parts => uptoBulkAll parts + 1
  | .iface _ d => uptoBulk d + 1
  | .map entries => uptoBulkEntries entries + 1
  | .held _ => 1
def uptoBulkAll {H : Type} : List (DataW H) → Nat
  | [] => 0
  | d :: r => uptoBulk d + uptoBulkAll r
def uptoBulkEntries {H : Type} : List (Lit × DataW H) → Nat
  | [] => 0
  | x :: r => uptoBulkEntry x + uptoBulkEntries r
def uptoBulkEntry {H : Type} : Lit × DataW H → Nat
  | (.string bytes, d) => bytes.length + uptoBulk d + 1
  | (_, d) => uptoBulk d + 1
 end
def uptoSmall : (H : Type) → List (DataW H) → Bool := fun _ ds => decide (uptoBulkAll ds ≤ 1048576)
def OpenSpec.upto (s : _root_.Go.ChangeSpec) : _root_.Go.OpenSpec := { _root_.Go.OpenSpec.ofChange s with cond := some uptoSmall }

/-- 'laws.FnExactRingOk', WHERE WHAT IT READS IS OF BULK AT MOST 1048576: true; the input reads as it did. -/
def fnExactRingOkUptoRow : OpenClaim := { program := "ytnikdfcdddlfbaa", sum := "f3471dba1323bb4d12b05ff88045a23e3f9fc1de32086583b330319eccd7b75a", func := "loop.example/g00129/laws.FnExactRingOk", spec := "fnExactRingOk", apart := false, narrowed := true }
def FnExactRingOkUptoSaid : Prop := fnExactRingOkUptoRow.holds Try.pinned (OpenSpec.upto fnExactRingOkSpec)

/-- 'laws.FnSums', WHERE WHAT IT READS IS OF BULK AT MOST 1048576: true; the input reads as it did. -/
def fnSumsUptoRow : OpenClaim := { program := "ytnikdfcdddlfbaa", sum := "f3471dba1323bb4d12b05ff88045a23e3f9fc1de32086583b330319eccd7b75a", func := "loop.example/g00129/laws.FnSums", spec := "fnSums", apart := false, narrowed := true }
def FnSumsUptoSaid : Prop := fnSumsUptoRow.holds Try.pinned (OpenSpec.upto fnSumsSpec)

/-- 'laws.FnExactRtuOk', WHERE WHAT IT READS IS OF BULK AT MOST 1048576: true; the input reads as it did. -/
def fnExactRtuOkUptoRow : OpenClaim := { program := "ytnikdfcdddlfbaa", sum := "f3471dba1323bb4d12b05ff88045a23e3f9fc1de32086583b330319eccd7b75a", func := "loop.example/g00129/laws.FnExactRtuOk", spec := "fnExactRtuOk", apart := false, narrowed := true }
def FnExactRtuOkUptoSaid : Prop := fnExactRtuOkUptoRow.holds Try.pinned (OpenSpec.upto fnExactRtuOkSpec)

/-- 'laws.FnExactPackBits', WHERE WHAT IT READS IS OF BULK AT MOST 1048576: true; the input reads as it did. -/
def fnExactPackBitsUptoRow : OpenClaim := { program := "ytnikdfcdddlfbaa", sum := "f3471dba1323bb4d12b05ff88045a23e3f9fc1de32086583b330319eccd7b75a", func := "loop.example/g00129/laws.FnExactPackBits", spec := "fnExactPackBits", apart := false, narrowed := true }
def FnExactPackBitsUptoSaid : Prop := fnExactPackBitsUptoRow.holds Try.pinned (OpenSpec.upto fnExactPackBitsSpec)

/-- 'laws.FnExactRtuNew', WHERE WHAT IT READS IS OF BULK AT MOST 1048576: true; the input reads as it did. -/
def fnExactRtuNewUptoRow : OpenClaim := { program := "ytnikdfcdddlfbaa", sum := "f3471dba1323bb4d12b05ff88045a23e3f9fc1de32086583b330319eccd7b75a", func := "loop.example/g00129/laws.FnExactRtuNew", spec := "fnExactRtuNew", apart := false, narrowed := true }
def FnExactRtuNewUptoSaid : Prop := fnExactRtuNewUptoRow.holds Try.pinned (OpenSpec.upto fnExactRtuNewSpec)

/-- 'laws.FnBits', WHERE WHAT IT READS IS OF BULK AT MOST 1048576: true; the input reads as it did. -/
def fnBitsUptoRow : OpenClaim := { program := "ytnikdfcdddlfbaa", sum := "f3471dba1323bb4d12b05ff88045a23e3f9fc1de32086583b330319eccd7b75a", func := "loop.example/g00129/laws.FnBits", spec := "fnBits", apart := false, narrowed := true }
def FnBitsUptoSaid : Prop := fnBitsUptoRow.holds Try.pinned (OpenSpec.upto fnBitsSpec)

/-- 'laws.FnExactUnpackBits', WHERE WHAT IT READS IS OF BULK AT MOST 1048576: true; the input reads as it did. -/
def fnExactUnpackBitsUptoRow : OpenClaim := { program := "ytnikdfcdddlfbaa", sum := "f3471dba1323bb4d12b05ff88045a23e3f9fc1de32086583b330319eccd7b75a", func := "loop.example/g00129/laws.FnExactUnpackBits", spec := "fnExactUnpackBits", apart := false, narrowed := true }
def FnExactUnpackBitsUptoSaid : Prop := fnExactUnpackBitsUptoRow.holds Try.pinned (OpenSpec.upto fnExactUnpackBitsSpec)

/-- 'laws.FnExactRingTake', WHERE WHAT IT READS IS OF BULK AT MOST 1048576: true; the input reads as it did. -/
def fnExactRingTakeUptoRow : OpenClaim := { program := "ytnikdfcdddlfbaa", sum := "f3471dba1323bb4d12b05ff88045a23e3f9fc1de32086583b330319eccd7b75a", func := "loop.example/g00129/laws.FnExactRingTake", spec := "fnExactRingTake", apart := false, narrowed := true }
def FnExactRingTakeUptoSaid : Prop := fnExactRingTakeUptoRow.holds Try.pinned (OpenSpec.upto fnExactRingTakeSpec)

/-- 'laws.FnExactWrites', WHERE WHAT IT READS IS OF BULK AT MOST 1048576: true; the input reads as it did. -/
def fnExactWritesUptoRow : OpenClaim := { program := "ytnikdfcdddlfbaa", sum := "f3471dba1323bb4d12b05ff88045a23e3f9fc1de32086583b330319eccd7b75a", func := "loop.example/g00129/laws.FnExactWrites", spec := "fnExactWrites", apart := false, narrowed := true }
def FnExactWritesUptoSaid : Prop := fnExactWritesUptoRow.holds Try.pinned (OpenSpec.upto fnExactWritesSpec)

/-- 'laws.FnExactDeviceNew', WHERE WHAT IT READS IS OF BULK AT MOST 1048576: true; the input reads as it did. -/
def fnExactDeviceNewUptoRow : OpenClaim := { program := "ytnikdfcdddlfbaa", sum := "f3471dba1323bb4d12b05ff88045a23e3f9fc1de32086583b330319eccd7b75a", func := "loop.example/g00129/laws.FnExactDeviceNew", spec := "fnExactDeviceNew", apart := false, narrowed := true }
def FnExactDeviceNewUptoSaid : Prop := fnExactDeviceNewUptoRow.holds Try.pinned (OpenSpec.upto fnExactDeviceNewSpec)

/-- 'laws.FnRings', WHERE WHAT IT READS IS OF BULK AT MOST 1048576: true; the input reads as it did. -/
def fnRingsUptoRow : OpenClaim := { program := "ytnikdfcdddlfbaa", sum := "f3471dba1323bb4d12b05ff88045a23e3f9fc1de32086583b330319eccd7b75a", func := "loop.example/g00129/laws.FnRings", spec := "fnRings", apart := false, narrowed := true }
def FnRingsUptoSaid : Prop := fnRingsUptoRow.holds Try.pinned (OpenSpec.upto fnRingsSpec)

/-- 'laws.FnExactDeviceOk', WHERE WHAT IT READS IS OF BULK AT MOST 1048576: true; the input reads as it did. -/
def fnExactDeviceOkUptoRow : OpenClaim := { program := "ytnikdfcdddlfbaa", sum := "f3471dba1323bb4d12b05ff88045a23e3f9fc1de32086583b330319eccd7b75a", func := "loop.example/g00129/laws.FnExactDeviceOk", spec := "fnExactDeviceOk", unfollowed := true, recurses := true, apart := false, narrowed := true }
def FnExactDeviceOkUptoSaid : Prop := fnExactDeviceOkUptoRow.holds Try.pinned (OpenSpec.upto fnExactDeviceOkSpec)

/-- 'laws.FnExactRingPut', WHERE WHAT IT READS IS OF BULK AT MOST 1048576: true; the input reads as it did. -/
def fnExactRingPutUptoRow : OpenClaim := { program := "ytnikdfcdddlfbaa", sum := "f3471dba1323bb4d12b05ff88045a23e3f9fc1de32086583b330319eccd7b75a", func := "loop.example/g00129/laws.FnExactRingPut", spec := "fnExactRingPut", apart := false, narrowed := true }
def FnExactRingPutUptoSaid : Prop := fnExactRingPutUptoRow.holds Try.pinned (OpenSpec.upto fnExactRingPutSpec)

/-- 'laws.FnExactSameDevice', WHERE WHAT IT READS IS OF BULK AT MOST 1048576: true; the input reads as it did. -/
def fnExactSameDeviceUptoRow : OpenClaim := { program := "ytnikdfcdddlfbaa", sum := "f3471dba1323bb4d12b05ff88045a23e3f9fc1de32086583b330319eccd7b75a", func := "loop.example/g00129/laws.FnExactSameDevice", spec := "fnExactSameDevice", apart := false, narrowed := true }
def FnExactSameDeviceUptoSaid : Prop := fnExactSameDeviceUptoRow.holds Try.pinned (OpenSpec.upto fnExactSameDeviceSpec)

end Rows
end Go.Proofs.Ytnikdfcdddlfbaa
