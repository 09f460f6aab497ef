/-
  No cell of these rows narrows 'for every input' (looked for: loops, veiled, ifaces, maps, wideKeys, modest, calm, conditions, laid).
  DERIVED. THE GIVEN ROWS OF THIS SEAT. 5 by the template 'for every input the law returns true; each argument reads behind the call as it read before'; 0 by the template 'total and deterministic' (their statements: YtbdifcgkokajlaaTotals.lean).
  GIVEN WITH THE SEED: the statements are not yours to turn. If you find one false, say at which input.
  Laid BY PROGRAM, IN A SANDBOX (cutbox-rows.mjs): the forced cells as the released guide's own fill.sh prints them over the translation 596281f40023616a… (all of the seat's roots in one cut). By AI agents, Wed Nov 11 2026. No macro, syntax, notation, axiom, sorry.
-/
import Derived.Test.YtbdifcgkokajlaaChecked
import GoSem.Claim
import GoSem.ClaimJoined
import GoSem.ClaimMapViews
import Derived.JoinedTies
import Derived.KernelRfl
namespace Go.Proofs.Ytbdifcgkokajlaa
/- THE CELL 'sum', in the pinned program and in every row, IS THE sha256 OF THE DUMP (.gsa) THAT YtbdifcgkokajlaaProg.lean LOADS. Nothing in Lean hashes anything: it is a label: what it is worth is what the hold of that sum in a sandbox is worth. -/
noncomputable def Try.pinned : Pinned := { name := "ytbdifcgkokajlaa", sum := "596281f40023616a3669696251ae0e4f1d9c1838c52eadc748fab8348da534a4", checked := Try.checked }
namespace Rows
def none {H : Type} : Left H := { results := [], args := [] }

/-- 'laws.FnExactRespOk': WHATEVER THE INPUT: true; the input reads as it did. -/
def fnExactRespOkSpec : ChangeSpec := { name := "fnExactRespOk", fn := fun _ => fun
  | [d] => { results := [.lit (.bool true)], args := [d] }
  | _ => none }
def fnExactRespOkRow : OpenClaim := { program := "ytbdifcgkokajlaa", sum := "596281f40023616a3669696251ae0e4f1d9c1838c52eadc748fab8348da534a4", func := "loop.example/g00129/laws.FnExactRespOk", spec := "fnExactRespOk", unfollowed := true, recurses := true, apart := false }
def FnExactRespOkSaid : Prop := fnExactRespOkRow.holds Try.pinned (OpenSpec.ofChange fnExactRespOkSpec)

/-- ITS FALSE NEIGHBOUR: 'it returns false'. Refute it at one input. -/
def fnExactRespOkWrong : ChangeSpec := { name := "fnExactRespOk", fn := fun _ => fun
  | [d] => { results := [.lit (.bool false)], args := [d] }
  | _ => none }
def FnExactRespOkWrongFalsely : Prop := fnExactRespOkRow.holds Try.pinned (OpenSpec.ofChange fnExactRespOkWrong)

/-- 'laws.FnExactReqOk': WHATEVER THE INPUT: true; the input reads as it did. -/
def fnExactReqOkSpec : ChangeSpec := { name := "fnExactReqOk", fn := fun _ => fun
  | [d] => { results := [.lit (.bool true)], args := [d] }
  | _ => none }
def fnExactReqOkRow : OpenClaim := { program := "ytbdifcgkokajlaa", sum := "596281f40023616a3669696251ae0e4f1d9c1838c52eadc748fab8348da534a4", func := "loop.example/g00129/laws.FnExactReqOk", spec := "fnExactReqOk", unfollowed := true, recurses := true, apart := false }
def FnExactReqOkSaid : Prop := fnExactReqOkRow.holds Try.pinned (OpenSpec.ofChange fnExactReqOkSpec)

/-- ITS FALSE NEIGHBOUR: 'it returns false'. Refute it at one input. -/
def fnExactReqOkWrong : ChangeSpec := { name := "fnExactReqOk", fn := fun _ => fun
  | [d] => { results := [.lit (.bool false)], args := [d] }
  | _ => none }
def FnExactReqOkWrongFalsely : Prop := fnExactReqOkRow.holds Try.pinned (OpenSpec.ofChange fnExactReqOkWrong)

/-- 'laws.FnExactFaultOf': WHATEVER THE INPUT: true; the input reads as it did. -/
def fnExactFaultOfSpec : ChangeSpec := { name := "fnExactFaultOf", fn := fun _ => fun
  | [d1, d2] => { results := [.lit (.bool true)], args := [d1, d2] }
  | _ => none }
def fnExactFaultOfRow : OpenClaim := { program := "ytbdifcgkokajlaa", sum := "596281f40023616a3669696251ae0e4f1d9c1838c52eadc748fab8348da534a4", func := "loop.example/g00129/laws.FnExactFaultOf", spec := "fnExactFaultOf", unfollowed := true, recurses := true, apart := false }
def FnExactFaultOfSaid : Prop := fnExactFaultOfRow.holds Try.pinned (OpenSpec.ofChange fnExactFaultOfSpec)

/-- ITS FALSE NEIGHBOUR: 'it returns false'. Refute it at one input. -/
def fnExactFaultOfWrong : ChangeSpec := { name := "fnExactFaultOf", fn := fun _ => fun
  | [d1, d2] => { results := [.lit (.bool false)], args := [d1, d2] }
  | _ => none }
def FnExactFaultOfWrongFalsely : Prop := fnExactFaultOfRow.holds Try.pinned (OpenSpec.ofChange fnExactFaultOfWrong)

/-- 'laws.FnExactSuits': WHATEVER THE INPUT: true; the input reads as it did. -/
def fnExactSuitsSpec : ChangeSpec := { name := "fnExactSuits", fn := fun _ => fun
  | [d1, d2] => { results := [.lit (.bool true)], args := [d1, d2] }
  | _ => none }
def fnExactSuitsRow : OpenClaim := { program := "ytbdifcgkokajlaa", sum := "596281f40023616a3669696251ae0e4f1d9c1838c52eadc748fab8348da534a4", func := "loop.example/g00129/laws.FnExactSuits", spec := "fnExactSuits", unfollowed := true, recurses := true, apart := false }
def FnExactSuitsSaid : Prop := fnExactSuitsRow.holds Try.pinned (OpenSpec.ofChange fnExactSuitsSpec)

/-- ITS FALSE NEIGHBOUR: 'it returns false'. Refute it at one input. -/
def fnExactSuitsWrong : ChangeSpec := { name := "fnExactSuits", fn := fun _ => fun
  | [d1, d2] => { results := [.lit (.bool false)], args := [d1, d2] }
  | _ => none }
def FnExactSuitsWrongFalsely : Prop := fnExactSuitsRow.holds Try.pinned (OpenSpec.ofChange fnExactSuitsWrong)

/-- 'laws.FnSuited': WHATEVER THE INPUT: true; the input reads as it did. -/
def fnSuitedSpec : ChangeSpec := { name := "fnSuited", fn := fun _ => fun
  | [d] => { results := [.lit (.bool true)], args := [d] }
  | _ => none }
def fnSuitedRow : OpenClaim := { program := "ytbdifcgkokajlaa", sum := "596281f40023616a3669696251ae0e4f1d9c1838c52eadc748fab8348da534a4", func := "loop.example/g00129/laws.FnSuited", spec := "fnSuited", unfollowed := true, recurses := true, apart := false }
def FnSuitedSaid : Prop := fnSuitedRow.holds Try.pinned (OpenSpec.ofChange fnSuitedSpec)

/-- ITS FALSE NEIGHBOUR: 'it returns false'. Refute it at one input. -/
def fnSuitedWrong : ChangeSpec := { name := "fnSuited", fn := fun _ => fun
  | [d] => { results := [.lit (.bool false)], args := [d] }
  | _ => none }
def FnSuitedWrongFalsely : Prop := fnSuitedRow.holds Try.pinned (OpenSpec.ofChange fnSuitedWrong)

/- THE SECOND FORM. 'bulk': how many values and letters a reading holds, each counted each time it is reached (what is shared counts as often as it is met; a slice's spare places count too). A statement '..UptoSaid' is the law's where the arguments, and the package variables that the reading takes, are together of bulk at most 1048576: NARROWER than '..Said'. Prove '..Said' where nothing that the law and all that it calls make is longer than what came in: it says more and counts as full. Else prove '..UptoSaid'. A law counts once. -/
mutual
def uptoBulk {H : Type} : DataW H → Nat
  | .lit (.string bytes) => bytes.length + 1
  | .lit _ => 1
  | .nil => 1
  | .ptr d => uptoBulk d + 1
  | .slice elems spare => uptoBulkAll elems + uptoBulkAll spare + 1
  | .agg parts => uptoBulkAll parts + 1
  | .iface _ d => uptoBulk d + 1
  | .map entries => uptoBulkEntries entries + 1
  | .held _ => 1
def uptoBulkAll {H : Type} : List (DataW H) → Nat
  | [] => 0
  | d :: r => uptoBulk d + uptoBulkAll r
def uptoBulkEntries {H : Type} : List (Lit × DataW H) → Nat
  | [] => 0
  | x :: r => uptoBulkEntry x + uptoBulkEntries r
def uptoBulkEntry {H : Type} : Lit × DataW H → Nat
  | (.string bytes, d) => bytes.length + uptoBulk d + 1
  | (_, d) => uptoBulk d + 1
 end
def uptoSmall : (H : Type) → List (DataW H) → Bool := fun _ ds => decide (uptoBulkAll ds ≤ 1048576)
def OpenSpec.upto (s : _root_.Go.ChangeSpec) : _root_.Go.OpenSpec := { _root_.Go.OpenSpec.ofChange s with cond := some uptoSmall }

/-- 'laws.FnExactRespOk', WHERE WHAT IT READS IS OF BULK AT MOST 1048576: true; the input reads as it did. -/
def fnExactRespOkUptoRow : OpenClaim := { program := "ytbdifcgkokajlaa", sum := "596281f40023616a3669696251ae0e4f1d9c1838c52eadc748fab8348da534a4", func := "loop.example/g00129/laws.FnExactRespOk", spec := "fnExactRespOk", unfollowed := true, recurses := true, apart := false, narrowed := true }
def FnExactRespOkUptoSaid : Prop := fnExactRespOkUptoRow.holds Try.pinned (OpenSpec.upto fnExactRespOkSpec)

/-- 'laws.FnExactReqOk', WHERE WHAT IT READS IS OF BULK AT MOST 1048576: true; the input reads as it did. -/
def fnExactReqOkUptoRow : OpenClaim := { program := "ytbdifcgkokajlaa", sum := "596281f40023616a3669696251ae0e4f1d9c1838c52eadc748fab8348da534a4", func := "loop.example/g00129/laws.FnExactReqOk", spec := "fnExactReqOk", unfollowed := true, recurses := true, apart := false, narrowed := true }
def FnExactReqOkUptoSaid : Prop := fnExactReqOkUptoRow.holds Try.pinned (OpenSpec.upto fnExactReqOkSpec)

/-- 'laws.FnExactFaultOf', WHERE WHAT IT READS IS OF BULK AT MOST 1048576: true; the input reads as it did. -/
def fnExactFaultOfUptoRow : OpenClaim := { program := "ytbdifcgkokajlaa", sum := "596281f40023616a3669696251ae0e4f1d9c1838c52eadc748fab8348da534a4", func := "loop.example/g00129/laws.FnExactFaultOf", spec := "fnExactFaultOf", unfollowed := true, recurses := true, apart := false, narrowed := true }
def FnExactFaultOfUptoSaid : Prop := fnExactFaultOfUptoRow.holds Try.pinned (OpenSpec.upto fnExactFaultOfSpec)

/-- 'laws.FnExactSuits', WHERE WHAT IT READS IS OF BULK AT MOST 1048576: true; the input reads as it did. -/
def fnExactSuitsUptoRow : OpenClaim := { program := "ytbdifcgkokajlaa", sum := "596281f40023616a3669696251ae0e4f1d9c1838c52eadc748fab8348da534a4", func := "loop.example/g00129/laws.FnExactSuits", spec := "fnExactSuits", unfollowed := true, recurses := true, apart := false, narrowed := true }
def FnExactSuitsUptoSaid : Prop := fnExactSuitsUptoRow.holds Try.pinned (OpenSpec.upto fnExactSuitsSpec)

/-- 'laws.FnSuited', WHERE WHAT IT READS IS OF BULK AT MOST 1048576: true; the input reads as it did. -/
def fnSuitedUptoRow : OpenClaim := { program := "ytbdifcgkokajlaa", sum := "596281f40023616a3669696251ae0e4f1d9c1838c52eadc748fab8348da534a4", func := "loop.example/g00129/laws.FnSuited", spec := "fnSuited", unfollowed := true, recurses := true, apart := false, narrowed := true }
def FnSuitedUptoSaid : Prop := fnSuitedUptoRow.holds Try.pinned (OpenSpec.upto fnSuitedSpec)

end Rows
end Go.Proofs.Ytbdifcgkokajlaa
