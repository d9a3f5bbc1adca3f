/-
  No cell of these rows narrows 'for every input' (looked for: loops, veiled, ifaces, maps, wideKeys, modest, calm, conditions, laid).
  DERIVED. THE GIVEN ROWS OF THIS SEAT. 6 by the template 'for every input the law returns true; each argument reads behind the call as it read before'; 0 by the template 'total and deterministic' (their statements: YtgdbdjfmbccfoaaTotals.lean).
  GIVEN WITH THE SEED: the statements are not yours to turn. If you find one false, say at which input.
  Laid BY PROGRAM, IN A SANDBOX (cutbox-rows.mjs): the forced cells as the released guide's own fill.sh prints them over the translation c4ae7d14e9bac851… (all of the seat's roots in one cut). By AI agents, Wed Nov 11 2026. No macro, syntax, notation, axiom, sorry.
-/
import Derived.Test.YtgdbdjfmbccfoaaChecked
import GoSem.Claim
import GoSem.ClaimJoined
import GoSem.ClaimMapViews
import Derived.JoinedTies
import Derived.KernelRfl
namespace Go.Proofs.Ytgdbdjfmbccfoaa
/- THE CELL 'sum', in the pinned program and in every row, IS THE sha256 OF THE DUMP (.gsa) THAT YtgdbdjfmbccfoaaProg.lean LOADS. Nothing in Lean hashes anything: it is a label: what it is worth is what the hold of that sum in a sandbox is worth. -/
noncomputable def Try.pinned : Pinned := { name := "ytgdbdjfmbccfoaa", sum := "c4ae7d14e9bac851f2b04d633bc607bd4de0343290190fa6097de1fd7a89eb14", checked := Try.checked }
namespace Rows
def none {H : Type} : Left H := { results := [], args := [] }

/-- 'diapasonlaw20.RankTells': WHATEVER THE INPUT: true; the input reads as it did. -/
def rankTellsSpec : ChangeSpec := { name := "rankTells", fn := fun _ => fun
  | [d1, d2] => { results := [.lit (.bool true)], args := [d1, d2] }
  | _ => none }
def rankTellsRow : OpenClaim := { program := "ytgdbdjfmbccfoaa", sum := "c4ae7d14e9bac851f2b04d633bc607bd4de0343290190fa6097de1fd7a89eb14", func := "diapason/diapasonlaw20.RankTells", spec := "rankTells", unfollowed := true, recurses := true, apart := false }
def RankTellsSaid : Prop := rankTellsRow.holds Try.pinned (OpenSpec.ofChange rankTellsSpec)

/-- ITS FALSE NEIGHBOUR: 'it returns false'. Refute it at one input. -/
def rankTellsWrong : ChangeSpec := { name := "rankTells", fn := fun _ => fun
  | [d1, d2] => { results := [.lit (.bool false)], args := [d1, d2] }
  | _ => none }
def RankTellsWrongFalsely : Prop := rankTellsRow.holds Try.pinned (OpenSpec.ofChange rankTellsWrong)

/-- 'diapasonlaw20.RankEach': WHATEVER THE INPUT: true; the input reads as it did. -/
def rankEachSpec : ChangeSpec := { name := "rankEach", fn := fun _ => fun
  | [d] => { results := [.lit (.bool true)], args := [d] }
  | _ => none }
def rankEachRow : OpenClaim := { program := "ytgdbdjfmbccfoaa", sum := "c4ae7d14e9bac851f2b04d633bc607bd4de0343290190fa6097de1fd7a89eb14", func := "diapason/diapasonlaw20.RankEach", spec := "rankEach", unfollowed := true, recurses := true, apart := false }
def RankEachSaid : Prop := rankEachRow.holds Try.pinned (OpenSpec.ofChange rankEachSpec)

/-- ITS FALSE NEIGHBOUR: 'it returns false'. Refute it at one input. -/
def rankEachWrong : ChangeSpec := { name := "rankEach", fn := fun _ => fun
  | [d] => { results := [.lit (.bool false)], args := [d] }
  | _ => none }
def RankEachWrongFalsely : Prop := rankEachRow.holds Try.pinned (OpenSpec.ofChange rankEachWrong)

/-- 'diapasonlaw20.RankKnown': WHATEVER THE INPUT: true; the input reads as it did. -/
def rankKnownSpec : ChangeSpec := { name := "rankKnown", fn := fun _ => fun
  | [] => { results := [.lit (.bool true)], args := [] }
  | _ => none }
def rankKnownRow : OpenClaim := { program := "ytgdbdjfmbccfoaa", sum := "c4ae7d14e9bac851f2b04d633bc607bd4de0343290190fa6097de1fd7a89eb14", func := "diapason/diapasonlaw20.RankKnown", spec := "rankKnown", unfollowed := true, recurses := true, apart := false }
def RankKnownSaid : Prop := rankKnownRow.holds Try.pinned (OpenSpec.ofChange rankKnownSpec)

/-- ITS FALSE NEIGHBOUR: 'it returns false'. Refute it at one input. -/
def rankKnownWrong : ChangeSpec := { name := "rankKnown", fn := fun _ => fun
  | [] => { results := [.lit (.bool false)], args := [] }
  | _ => none }
def RankKnownWrongFalsely : Prop := rankKnownRow.holds Try.pinned (OpenSpec.ofChange rankKnownWrong)

/-- 'diapasonlaw24.ToneTurned': WHATEVER THE INPUT: true; the input reads as it did. -/
def toneTurnedSpec : ChangeSpec := { name := "toneTurned", fn := fun _ => fun
  | [d1, d2] => { results := [.lit (.bool true)], args := [d1, d2] }
  | _ => none }
def toneTurnedRow : OpenClaim := { program := "ytgdbdjfmbccfoaa", sum := "c4ae7d14e9bac851f2b04d633bc607bd4de0343290190fa6097de1fd7a89eb14", func := "diapason/diapasonlaw24.ToneTurned", spec := "toneTurned", inPlace := ["math.sqrt"], unfollowed := true, recurses := true, apart := false }
def ToneTurnedSaid : Prop := toneTurnedRow.holds Try.pinned (OpenSpec.ofChange toneTurnedSpec)

/-- ITS FALSE NEIGHBOUR: 'it returns false'. Refute it at one input. -/
def toneTurnedWrong : ChangeSpec := { name := "toneTurned", fn := fun _ => fun
  | [d1, d2] => { results := [.lit (.bool false)], args := [d1, d2] }
  | _ => none }
def ToneTurnedWrongFalsely : Prop := toneTurnedRow.holds Try.pinned (OpenSpec.ofChange toneTurnedWrong)

/-- 'diapasonlaw24.ToneRows': WHATEVER THE INPUT: true; the input reads as it did. -/
def toneRowsSpec : ChangeSpec := { name := "toneRows", fn := fun _ => fun
  | [d1, d2, d3] => { results := [.lit (.bool true)], args := [d1, d2, d3] }
  | _ => none }
def toneRowsRow : OpenClaim := { program := "ytgdbdjfmbccfoaa", sum := "c4ae7d14e9bac851f2b04d633bc607bd4de0343290190fa6097de1fd7a89eb14", func := "diapason/diapasonlaw24.ToneRows", spec := "toneRows", inPlace := ["math.sqrt", "math.Float64bits", "math.Float64frombits"], unfollowed := true, recurses := true, apart := false }
def ToneRowsSaid : Prop := toneRowsRow.holds Try.pinned (OpenSpec.ofChange toneRowsSpec)

/-- ITS FALSE NEIGHBOUR: 'it returns false'. Refute it at one input. -/
def toneRowsWrong : ChangeSpec := { name := "toneRows", fn := fun _ => fun
  | [d1, d2, d3] => { results := [.lit (.bool false)], args := [d1, d2, d3] }
  | _ => none }
def ToneRowsWrongFalsely : Prop := toneRowsRow.holds Try.pinned (OpenSpec.ofChange toneRowsWrong)

/-- 'diapasonlaw24.TonePieces': WHATEVER THE INPUT: true; the input reads as it did. -/
def tonePiecesSpec : ChangeSpec := { name := "tonePieces", fn := fun _ => fun
  | [d1, d2, d3] => { results := [.lit (.bool true)], args := [d1, d2, d3] }
  | _ => none }
def tonePiecesRow : OpenClaim := { program := "ytgdbdjfmbccfoaa", sum := "c4ae7d14e9bac851f2b04d633bc607bd4de0343290190fa6097de1fd7a89eb14", func := "diapason/diapasonlaw24.TonePieces", spec := "tonePieces", inPlace := ["math.sqrt"], unfollowed := true, recurses := true, apart := false }
def TonePiecesSaid : Prop := tonePiecesRow.holds Try.pinned (OpenSpec.ofChange tonePiecesSpec)

/-- ITS FALSE NEIGHBOUR: 'it returns false'. Refute it at one input. -/
def tonePiecesWrong : ChangeSpec := { name := "tonePieces", fn := fun _ => fun
  | [d1, d2, d3] => { results := [.lit (.bool false)], args := [d1, d2, d3] }
  | _ => none }
def TonePiecesWrongFalsely : Prop := tonePiecesRow.holds Try.pinned (OpenSpec.ofChange tonePiecesWrong)

/- THE SECOND FORM. 'bulk': how many values and letters a reading holds, each counted each time it is reached (what is shared counts as often as it is met; a slice's spare places count too). A statement '..UptoSaid' is the law's where the arguments, and the package variables that the reading takes, are together of bulk at most 1048576: NARROWER than '..Said'. Prove '..Said' where nothing that the law and all that it calls make is longer than what came in: it says more and counts as full. Else prove '..UptoSaid'. A law counts once. -/
mutual
def uptoBulk {H : Type} : DataW H → Nat
  | .lit (.string bytes) => bytes.length + 1
  | .lit _ => 1
  | .nil => 1
  | .ptr d => uptoBulk d + 1
  | .slice elems spare => uptoBulkAll elems + uptoBulkAll spare + 1
  | .agg parts => uptoBulkAll parts + 1
  | .iface _ d => uptoBulk d + 1
  | .map entries => uptoBulkEntries entries + 1
  | .held _ => 1
def uptoBulkAll {H : Type} : List (DataW H) → Nat
  | [] => 0
  | d :: r => uptoBulk d + uptoBulkAll r
def uptoBulkEntries {H : Type} : List (Lit × DataW H) → Nat
  | [] => 0
  | x :: r => uptoBulkEntry x + uptoBulkEntries r
def uptoBulkEntry {H : Type} : Lit × DataW H → Nat
  | (.string bytes, d) => bytes.length + uptoBulk d + 1
  | (_, d) => uptoBulk d + 1
 end
def uptoSmall : (H : Type) → List (DataW H) → Bool := fun _ ds => decide (uptoBulkAll ds ≤ 1048576)
def OpenSpec.upto (s : _root_.Go.ChangeSpec) : _root_.Go.OpenSpec := { _root_.Go.OpenSpec.ofChange s with cond := some uptoSmall }

/-- 'diapasonlaw20.RankTells', WHERE WHAT IT READS IS OF BULK AT MOST 1048576: true; the input reads as it did. -/
def rankTellsUptoRow : OpenClaim := { program := "ytgdbdjfmbccfoaa", sum := "c4ae7d14e9bac851f2b04d633bc607bd4de0343290190fa6097de1fd7a89eb14", func := "diapason/diapasonlaw20.RankTells", spec := "rankTells", unfollowed := true, recurses := true, apart := false, narrowed := true }
def RankTellsUptoSaid : Prop := rankTellsUptoRow.holds Try.pinned (OpenSpec.upto rankTellsSpec)

/-- 'diapasonlaw20.RankEach', WHERE WHAT IT READS IS OF BULK AT MOST 1048576: true; the input reads as it did. -/
def rankEachUptoRow : OpenClaim := { program := "ytgdbdjfmbccfoaa", sum := "c4ae7d14e9bac851f2b04d633bc607bd4de0343290190fa6097de1fd7a89eb14", func := "diapason/diapasonlaw20.RankEach", spec := "rankEach", unfollowed := true, recurses := true, apart := false, narrowed := true }
def RankEachUptoSaid : Prop := rankEachUptoRow.holds Try.pinned (OpenSpec.upto rankEachSpec)

/-- 'diapasonlaw20.RankKnown', WHERE WHAT IT READS IS OF BULK AT MOST 1048576: true; the input reads as it did. -/
def rankKnownUptoRow : OpenClaim := { program := "ytgdbdjfmbccfoaa", sum := "c4ae7d14e9bac851f2b04d633bc607bd4de0343290190fa6097de1fd7a89eb14", func := "diapason/diapasonlaw20.RankKnown", spec := "rankKnown", unfollowed := true, recurses := true, apart := false, narrowed := true }
def RankKnownUptoSaid : Prop := rankKnownUptoRow.holds Try.pinned (OpenSpec.upto rankKnownSpec)

/-- 'diapasonlaw24.ToneTurned', WHERE WHAT IT READS IS OF BULK AT MOST 1048576: true; the input reads as it did. -/
def toneTurnedUptoRow : OpenClaim := { program := "ytgdbdjfmbccfoaa", sum := "c4ae7d14e9bac851f2b04d633bc607bd4de0343290190fa6097de1fd7a89eb14", func := "diapason/diapasonlaw24.ToneTurned", spec := "toneTurned", inPlace := ["math.sqrt"], unfollowed := true, recurses := true, apart := false, narrowed := true }
def ToneTurnedUptoSaid : Prop := toneTurnedUptoRow.holds Try.pinned (OpenSpec.upto toneTurnedSpec)

/-- 'diapasonlaw24.ToneRows', WHERE WHAT IT READS IS OF BULK AT MOST 1048576: true; the input reads as it did. -/
def toneRowsUptoRow : OpenClaim := { program := "ytgdbdjfmbccfoaa", sum := "c4ae7d14e9bac851f2b04d633bc607bd4de0343290190fa6097de1fd7a89eb14", func := "diapason/diapasonlaw24.ToneRows", spec := "toneRows", inPlace := ["math.sqrt", "math.Float64bits", "math.Float64frombits"], unfollowed := true, recurses := true, apart := false, narrowed := true }
def ToneRowsUptoSaid : Prop := toneRowsUptoRow.holds Try.pinned (OpenSpec.upto toneRowsSpec)

/-- 'diapasonlaw24.TonePieces', WHERE WHAT IT READS IS OF BULK AT MOST 1048576: true; the input reads as it did. -/
def tonePiecesUptoRow : OpenClaim := { program := "ytgdbdjfmbccfoaa", sum := "c4ae7d14e9bac851f2b04d633bc607bd4de0343290190fa6097de1fd7a89eb14", func := "diapason/diapasonlaw24.TonePieces", spec := "tonePieces", inPlace := ["math.sqrt"], unfollowed := true, recurses := true, apart := false, narrowed := true }
def TonePiecesUptoSaid : Prop := tonePiecesUptoRow.holds Try.pinned (OpenSpec.upto tonePiecesSpec)

end Rows
end Go.Proofs.Ytgdbdjfmbccfoaa
