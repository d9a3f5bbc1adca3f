/-
  No cell of these rows narrows 'for every input' (looked for: loops, veiled, ifaces, maps, wideKeys, modest, calm, conditions, laid).
  DERIVED. THE GIVEN ROWS OF THIS SEAT. 6 by the template 'for every input the law returns true; each argument reads behind the call as it read before'; 0 by the template 'total and deterministic' (their statements: YtbpamdgpfjaggaaTotals.lean).
  GIVEN WITH THE SEED: the statements are not yours to turn. If you find one false, say at which input.
  Laid BY PROGRAM, IN A SANDBOX (cutbox-rows.mjs): the forced cells as the released guide's own fill.sh prints them over the translation 1f75d1339f539540… (all of the seat's roots in one cut). By AI agents, Wed Nov 11 2026. No macro, syntax, notation, axiom, sorry.
-/
import Derived.Test.YtbpamdgpfjaggaaChecked
import GoSem.Claim
import GoSem.ClaimJoined
import GoSem.ClaimMapViews
import Derived.JoinedTies
import Derived.KernelRfl
namespace Go.Proofs.Ytbpamdgpfjaggaa
/- THE CELL 'sum', in the pinned program and in every row, IS THE sha256 OF THE DUMP (.gsa) THAT YtbpamdgpfjaggaaProg.lean LOADS. Nothing in Lean hashes anything: it is a label: what it is worth is what the hold of that sum in a sandbox is worth. -/
noncomputable def Try.pinned : Pinned := { name := "ytbpamdgpfjaggaa", sum := "1f75d1339f539540ce71a90b9435adc2a8d41ef92bc99113d51f3525f9d7faff", checked := Try.checked }
namespace Rows
def none {H : Type} : Left H := { results := [], args := [] }

/-- 'diapasonlaw26.RegisBest': WHATEVER THE INPUT: true; the input reads as it did. -/
def regisBestSpec : ChangeSpec := { name := "regisBest", fn := fun _ => fun
  | [d] => { results := [.lit (.bool true)], args := [d] }
  | _ => none }
def regisBestRow : OpenClaim := { program := "ytbpamdgpfjaggaa", sum := "1f75d1339f539540ce71a90b9435adc2a8d41ef92bc99113d51f3525f9d7faff", func := "diapason/diapasonlaw26.RegisBest", spec := "regisBest", unfollowed := true, recurses := true, apart := false }
def RegisBestSaid : Prop := regisBestRow.holds Try.pinned (OpenSpec.ofChange regisBestSpec)

/-- ITS FALSE NEIGHBOUR: 'it returns false'. Refute it at one input. -/
def regisBestWrong : ChangeSpec := { name := "regisBest", fn := fun _ => fun
  | [d] => { results := [.lit (.bool false)], args := [d] }
  | _ => none }
def RegisBestWrongFalsely : Prop := regisBestRow.holds Try.pinned (OpenSpec.ofChange regisBestWrong)

/-- 'diapasonlaw26.RegisOrders': WHATEVER THE INPUT: true; the input reads as it did. -/
def regisOrdersSpec : ChangeSpec := { name := "regisOrders", fn := fun _ => fun
  | [d1, d2] => { results := [.lit (.bool true)], args := [d1, d2] }
  | _ => none }
def regisOrdersRow : OpenClaim := { program := "ytbpamdgpfjaggaa", sum := "1f75d1339f539540ce71a90b9435adc2a8d41ef92bc99113d51f3525f9d7faff", func := "diapason/diapasonlaw26.RegisOrders", spec := "regisOrders", unfollowed := true, recurses := true, apart := false }
def RegisOrdersSaid : Prop := regisOrdersRow.holds Try.pinned (OpenSpec.ofChange regisOrdersSpec)

/-- ITS FALSE NEIGHBOUR: 'it returns false'. Refute it at one input. -/
def regisOrdersWrong : ChangeSpec := { name := "regisOrders", fn := fun _ => fun
  | [d1, d2] => { results := [.lit (.bool false)], args := [d1, d2] }
  | _ => none }
def RegisOrdersWrongFalsely : Prop := regisOrdersRow.holds Try.pinned (OpenSpec.ofChange regisOrdersWrong)

/-- 'diapasonlaw26.RegisNone': WHATEVER THE INPUT: true; the input reads as it did. -/
def regisNoneSpec : ChangeSpec := { name := "regisNone", fn := fun _ => fun
  | [d1, d2] => { results := [.lit (.bool true)], args := [d1, d2] }
  | _ => none }
def regisNoneRow : OpenClaim := { program := "ytbpamdgpfjaggaa", sum := "1f75d1339f539540ce71a90b9435adc2a8d41ef92bc99113d51f3525f9d7faff", func := "diapason/diapasonlaw26.RegisNone", spec := "regisNone", unfollowed := true, recurses := true, apart := false }
def RegisNoneSaid : Prop := regisNoneRow.holds Try.pinned (OpenSpec.ofChange regisNoneSpec)

/-- ITS FALSE NEIGHBOUR: 'it returns false'. Refute it at one input. -/
def regisNoneWrong : ChangeSpec := { name := "regisNone", fn := fun _ => fun
  | [d1, d2] => { results := [.lit (.bool false)], args := [d1, d2] }
  | _ => none }
def RegisNoneWrongFalsely : Prop := regisNoneRow.holds Try.pinned (OpenSpec.ofChange regisNoneWrong)

/-- 'diapasonlaw26.RegisTells': WHATEVER THE INPUT: true; the input reads as it did. -/
def regisTellsSpec : ChangeSpec := { name := "regisTells", fn := fun _ => fun
  | [d1, d2, d3] => { results := [.lit (.bool true)], args := [d1, d2, d3] }
  | _ => none }
def regisTellsRow : OpenClaim := { program := "ytbpamdgpfjaggaa", sum := "1f75d1339f539540ce71a90b9435adc2a8d41ef92bc99113d51f3525f9d7faff", func := "diapason/diapasonlaw26.RegisTells", spec := "regisTells", unfollowed := true, recurses := true, apart := false }
def RegisTellsSaid : Prop := regisTellsRow.holds Try.pinned (OpenSpec.ofChange regisTellsSpec)

/-- ITS FALSE NEIGHBOUR: 'it returns false'. Refute it at one input. -/
def regisTellsWrong : ChangeSpec := { name := "regisTells", fn := fun _ => fun
  | [d1, d2, d3] => { results := [.lit (.bool false)], args := [d1, d2, d3] }
  | _ => none }
def RegisTellsWrongFalsely : Prop := regisTellsRow.holds Try.pinned (OpenSpec.ofChange regisTellsWrong)

/-- 'diapasonlaw26.RegisBounds': WHATEVER THE INPUT: true; the input reads as it did. -/
def regisBoundsSpec : ChangeSpec := { name := "regisBounds", fn := fun _ => fun
  | [d1, d2, d3] => { results := [.lit (.bool true)], args := [d1, d2, d3] }
  | _ => none }
def regisBoundsRow : OpenClaim := { program := "ytbpamdgpfjaggaa", sum := "1f75d1339f539540ce71a90b9435adc2a8d41ef92bc99113d51f3525f9d7faff", func := "diapason/diapasonlaw26.RegisBounds", spec := "regisBounds", unfollowed := true, recurses := true, apart := false }
def RegisBoundsSaid : Prop := regisBoundsRow.holds Try.pinned (OpenSpec.ofChange regisBoundsSpec)

/-- ITS FALSE NEIGHBOUR: 'it returns false'. Refute it at one input. -/
def regisBoundsWrong : ChangeSpec := { name := "regisBounds", fn := fun _ => fun
  | [d1, d2, d3] => { results := [.lit (.bool false)], args := [d1, d2, d3] }
  | _ => none }
def RegisBoundsWrongFalsely : Prop := regisBoundsRow.holds Try.pinned (OpenSpec.ofChange regisBoundsWrong)

/-- 'diapasonlaw26.RegisKnown': WHATEVER THE INPUT: true; the input reads as it did. -/
def regisKnownSpec : ChangeSpec := { name := "regisKnown", fn := fun _ => fun
  | [] => { results := [.lit (.bool true)], args := [] }
  | _ => none }
def regisKnownRow : OpenClaim := { program := "ytbpamdgpfjaggaa", sum := "1f75d1339f539540ce71a90b9435adc2a8d41ef92bc99113d51f3525f9d7faff", func := "diapason/diapasonlaw26.RegisKnown", spec := "regisKnown", unfollowed := true, recurses := true, apart := false }
def RegisKnownSaid : Prop := regisKnownRow.holds Try.pinned (OpenSpec.ofChange regisKnownSpec)

/-- ITS FALSE NEIGHBOUR: 'it returns false'. Refute it at one input. -/
def regisKnownWrong : ChangeSpec := { name := "regisKnown", fn := fun _ => fun
  | [] => { results := [.lit (.bool false)], args := [] }
  | _ => none }
def RegisKnownWrongFalsely : Prop := regisKnownRow.holds Try.pinned (OpenSpec.ofChange regisKnownWrong)

/- THE SECOND FORM. 'bulk': how many values and letters a reading holds, each counted each time it is reached (what is shared counts as often as it is met; a slice's spare places count too). A statement '..UptoSaid' is the law's where the arguments, and the package variables that the reading takes, are together of bulk at most 1048576: NARROWER than '..Said'. Prove '..Said' where nothing that the law and all that it calls make is longer than what came in: it says more and counts as full. Else prove '..UptoSaid'. A law counts once. -/
mutual
def uptoBulk {H : Type} : DataW H → Nat
  | .lit (.string bytes) => bytes.length + 1
  | .lit _ => 1
  | .nil => 1
  | .ptr d => uptoBulk d + 1
  | .slice elems spare => uptoBulkAll elems + uptoBulkAll spare + 1
  | .agg parts => uptoBulkAll parts + 1
  | .iface _ d => uptoBulk d + 1
  | .map entries => uptoBulkEntries entries + 1
  | .held _ => 1
def uptoBulkAll {H : Type} : List (DataW H) → Nat
  | [] => 0
  | d :: r => uptoBulk d + uptoBulkAll r
def uptoBulkEntries {H : Type} : List (Lit × DataW H) → Nat
  | [] => 0
  | x :: r => uptoBulkEntry x + uptoBulkEntries r
def uptoBulkEntry {H : Type} : Lit × DataW H → Nat
  | (.string bytes, d) => bytes.length + uptoBulk d + 1
  | (_, d) => uptoBulk d + 1
 end
def uptoSmall : (H : Type) → List (DataW H) → Bool := fun _ ds => decide (uptoBulkAll ds ≤ 1048576)
def OpenSpec.upto (s : _root_.Go.ChangeSpec) : _root_.Go.OpenSpec := { _root_.Go.OpenSpec.ofChange s with cond := some uptoSmall }

/-- 'diapasonlaw26.RegisBest', WHERE WHAT IT READS IS OF BULK AT MOST 1048576: true; the input reads as it did. -/
def regisBestUptoRow : OpenClaim := { program := "ytbpamdgpfjaggaa", sum := "1f75d1339f539540ce71a90b9435adc2a8d41ef92bc99113d51f3525f9d7faff", func := "diapason/diapasonlaw26.RegisBest", spec := "regisBest", unfollowed := true, recurses := true, apart := false, narrowed := true }
def RegisBestUptoSaid : Prop := regisBestUptoRow.holds Try.pinned (OpenSpec.upto regisBestSpec)

/-- 'diapasonlaw26.RegisOrders', WHERE WHAT IT READS IS OF BULK AT MOST 1048576: true; the input reads as it did. -/
def regisOrdersUptoRow : OpenClaim := { program := "ytbpamdgpfjaggaa", sum := "1f75d1339f539540ce71a90b9435adc2a8d41ef92bc99113d51f3525f9d7faff", func := "diapason/diapasonlaw26.RegisOrders", spec := "regisOrders", unfollowed := true, recurses := true, apart := false, narrowed := true }
def RegisOrdersUptoSaid : Prop := regisOrdersUptoRow.holds Try.pinned (OpenSpec.upto regisOrdersSpec)

/-- 'diapasonlaw26.RegisNone', WHERE WHAT IT READS IS OF BULK AT MOST 1048576: true; the input reads as it did. -/
def regisNoneUptoRow : OpenClaim := { program := "ytbpamdgpfjaggaa", sum := "1f75d1339f539540ce71a90b9435adc2a8d41ef92bc99113d51f3525f9d7faff", func := "diapason/diapasonlaw26.RegisNone", spec := "regisNone", unfollowed := true, recurses := true, apart := false, narrowed := true }
def RegisNoneUptoSaid : Prop := regisNoneUptoRow.holds Try.pinned (OpenSpec.upto regisNoneSpec)

/-- 'diapasonlaw26.RegisTells', WHERE WHAT IT READS IS OF BULK AT MOST 1048576: true; the input reads as it did. -/
def regisTellsUptoRow : OpenClaim := { program := "ytbpamdgpfjaggaa", sum := "1f75d1339f539540ce71a90b9435adc2a8d41ef92bc99113d51f3525f9d7faff", func := "diapason/diapasonlaw26.RegisTells", spec := "regisTells", unfollowed := true, recurses := true, apart := false, narrowed := true }
def RegisTellsUptoSaid : Prop := regisTellsUptoRow.holds Try.pinned (OpenSpec.upto regisTellsSpec)

/-- 'diapasonlaw26.RegisBounds', WHERE WHAT IT READS IS OF BULK AT MOST 1048576: true; the input reads as it did. -/
def regisBoundsUptoRow : OpenClaim := { program := "ytbpamdgpfjaggaa", sum := "1f75d1339f539540ce71a90b9435adc2a8d41ef92bc99113d51f3525f9d7faff", func := "diapason/diapasonlaw26.RegisBounds", spec := "regisBounds", unfollowed := true, recurses := true, apart := false, narrowed := true }
def RegisBoundsUptoSaid : Prop := regisBoundsUptoRow.holds Try.pinned (OpenSpec.upto regisBoundsSpec)

/-- 'diapasonlaw26.RegisKnown', WHERE WHAT IT READS IS OF BULK AT MOST 1048576: true; the input reads as it did. -/
def regisKnownUptoRow : OpenClaim := { program := "ytbpamdgpfjaggaa", sum := "1f75d1339f539540ce71a90b9435adc2a8d41ef92bc99113d51f3525f9d7faff", func := "diapason/diapasonlaw26.RegisKnown", spec := "regisKnown", unfollowed := true, recurses := true, apart := false, narrowed := true }
def RegisKnownUptoSaid : Prop := regisKnownUptoRow.holds Try.pinned (OpenSpec.upto regisKnownSpec)

end Rows
end Go.Proofs.Ytbpamdgpfjaggaa
