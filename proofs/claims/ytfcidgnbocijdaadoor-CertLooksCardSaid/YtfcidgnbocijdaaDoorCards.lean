/-
  DERIVED. GIVEN WITH THE SEED: THE CARDS: each row of YtfcidgnbocijdaaDoorRows.lean that lists a variable, with what it lists TIED to the program's text (the seventh form; the later family's looks); each row that meets fmt, with fmt's text TOLD by the authors' own Lean function (tested against real Go, not proved from fmt's source: count such statements apart). THE CARD IS WHAT COUNTS. Prove the row's statement (the work); the ties are given (YtfcidgnbocijdaaDoorTie.lean); close each card by the builder's one call (the guide's Derived/Test/ToyasCard.lean, 'card_holds'). Laid BY PROGRAM, IN A SANDBOX (cutbox-door.mjs). By AI agents, Wed Nov 11 2026. No macro, syntax, notation, axiom, sorry.
-/
import Derived.Test.YtfcidgnbocijdaaDoorRows
import GoSem.ClaimSeven
namespace Go.Proofs.YtfcidgnbocijdaaDoor
namespace Rows

/-- THE TIED CARD OF 'diapasontop.TopBest'. -/
def topBestCard : Claim7 := { stood := { row := topBestRow, standIns := [], harness := (true, "1b9c3dc44d2081750870f91c7c72a9c655935e98aa108ae0d31c582cdc42c158"), looks := true }, kinds := [], alts := [], laidByText := true, laidKinds := [.data, .data, .data, .data, .sentinel, .sentinel, .pinned], laidTests := true, laidLooks := .later }
def TopBestCardSaid : Prop := Claim7.holds Tryd.pinned (.plain (OpenSpec.ofChange topBestSpec)) topBestCard

/-- THE TIED CARD OF 'diapasonlaw27.CertMakes'. -/
def certMakesCard : Claim7 := { stood := { row := certMakesRow, standIns := [], harness := (true, "1b9c3dc44d2081750870f91c7c72a9c655935e98aa108ae0d31c582cdc42c158"), looks := true }, kinds := [], alts := [], laidByText := true, laidKinds := [.data, .data, .data], laidTests := true, laidLooks := .later }
def CertMakesCardSaid : Prop := Claim7.holds Tryd.pinned (.plain (OpenSpec.ofChange certMakesSpec)) certMakesCard

/-- THE TIED CARD OF 'diapasonlaw27.CertLooks'. -/
def certLooksCard : Claim7 := { stood := { row := certLooksRow, standIns := [], harness := (true, "1b9c3dc44d2081750870f91c7c72a9c655935e98aa108ae0d31c582cdc42c158"), looks := true }, kinds := [], alts := [], laidByText := true, laidKinds := [.data, .data, .data, .data, .pinned], laidTests := true, laidLooks := .later }
def CertLooksCardSaid : Prop := Claim7.holds Tryd.pinned (.plain (OpenSpec.ofChange certLooksSpec)) certLooksCard

/-- THE TIED CARD OF 'diapasonlaw27.CertSound'. -/
def certSoundCard : Claim7 := { stood := { row := certSoundRow, standIns := [], harness := (true, "1b9c3dc44d2081750870f91c7c72a9c655935e98aa108ae0d31c582cdc42c158"), looks := true }, kinds := [], alts := [], laidByText := true, laidKinds := [.data, .data, .data, .data, .pinned], laidTests := true, laidLooks := .later }
def CertSoundCardSaid : Prop := Claim7.holds Tryd.pinned (.plain (OpenSpec.ofChange certSoundSpec)) certSoundCard

/-- THE TIED CARD OF 'diapasonlaw27.CertWrites'. -/
def certWritesCard : Claim7 := { stood := { row := certWritesRow, standIns := [], harness := (true, "1b9c3dc44d2081750870f91c7c72a9c655935e98aa108ae0d31c582cdc42c158"), looks := true }, kinds := [], alts := [], laidByText := true, laidKinds := [.data, .data, .data, .sentinel, .sentinel], laidTests := true, laidLooks := .later }
def CertWritesCardSaid : Prop := Claim7.holds Tryd.pinned (.plain (OpenSpec.ofChange certWritesSpec)) certWritesCard

/-- THE TIED CARD OF 'diapasonlaw27.CertBack'. -/
def certBackCard : Claim7 := { stood := { row := certBackRow, standIns := [], harness := (true, "1b9c3dc44d2081750870f91c7c72a9c655935e98aa108ae0d31c582cdc42c158"), looks := true }, kinds := [], alts := [], laidByText := true, laidKinds := [.data, .data, .data, .sentinel, .sentinel], laidTests := true, laidLooks := .later }
def CertBackCardSaid : Prop := Claim7.holds Tryd.pinned (.plain (OpenSpec.ofChange certBackSpec)) certBackCard

/-- THE TIED CARD OF 'diapasonlaw27.CertKnown'. -/
def certKnownCard : Claim7 := { stood := { row := certKnownRow, standIns := [], harness := (true, "1b9c3dc44d2081750870f91c7c72a9c655935e98aa108ae0d31c582cdc42c158"), looks := true }, kinds := [], alts := [], laidByText := true, laidKinds := [.data, .data, .data, .data, .sentinel, .sentinel, .pinned], laidTests := true, laidLooks := .later }
def CertKnownCardSaid : Prop := Claim7.holds Tryd.pinned (.plain (OpenSpec.ofChange certKnownSpec)) certKnownCard

/-- THE SECOND FORM's CARD OF 'diapasontop.TopBest'. -/
def topBestUptoCard : Claim7 := { stood := { row := topBestUptoRow, standIns := [], harness := (true, "1b9c3dc44d2081750870f91c7c72a9c655935e98aa108ae0d31c582cdc42c158"), looks := true }, kinds := [], alts := [], laidByText := true, laidKinds := [.data, .data, .data, .data, .sentinel, .sentinel, .pinned], laidTests := true, laidLooks := .later }
def TopBestUptoCardSaid : Prop := Claim7.holds Tryd.pinned (.plain (OpenSpec.upto topBestSpec)) topBestUptoCard

/-- THE SECOND FORM's CARD OF 'diapasonlaw27.CertMakes'. -/
def certMakesUptoCard : Claim7 := { stood := { row := certMakesUptoRow, standIns := [], harness := (true, "1b9c3dc44d2081750870f91c7c72a9c655935e98aa108ae0d31c582cdc42c158"), looks := true }, kinds := [], alts := [], laidByText := true, laidKinds := [.data, .data, .data], laidTests := true, laidLooks := .later }
def CertMakesUptoCardSaid : Prop := Claim7.holds Tryd.pinned (.plain (OpenSpec.upto certMakesSpec)) certMakesUptoCard

/-- THE SECOND FORM's CARD OF 'diapasonlaw27.CertLooks'. -/
def certLooksUptoCard : Claim7 := { stood := { row := certLooksUptoRow, standIns := [], harness := (true, "1b9c3dc44d2081750870f91c7c72a9c655935e98aa108ae0d31c582cdc42c158"), looks := true }, kinds := [], alts := [], laidByText := true, laidKinds := [.data, .data, .data, .data, .pinned], laidTests := true, laidLooks := .later }
def CertLooksUptoCardSaid : Prop := Claim7.holds Tryd.pinned (.plain (OpenSpec.upto certLooksSpec)) certLooksUptoCard

/-- THE SECOND FORM's CARD OF 'diapasonlaw27.CertSound'. -/
def certSoundUptoCard : Claim7 := { stood := { row := certSoundUptoRow, standIns := [], harness := (true, "1b9c3dc44d2081750870f91c7c72a9c655935e98aa108ae0d31c582cdc42c158"), looks := true }, kinds := [], alts := [], laidByText := true, laidKinds := [.data, .data, .data, .data, .pinned], laidTests := true, laidLooks := .later }
def CertSoundUptoCardSaid : Prop := Claim7.holds Tryd.pinned (.plain (OpenSpec.upto certSoundSpec)) certSoundUptoCard

/-- THE SECOND FORM's CARD OF 'diapasonlaw27.CertWrites'. -/
def certWritesUptoCard : Claim7 := { stood := { row := certWritesUptoRow, standIns := [], harness := (true, "1b9c3dc44d2081750870f91c7c72a9c655935e98aa108ae0d31c582cdc42c158"), looks := true }, kinds := [], alts := [], laidByText := true, laidKinds := [.data, .data, .data, .sentinel, .sentinel], laidTests := true, laidLooks := .later }
def CertWritesUptoCardSaid : Prop := Claim7.holds Tryd.pinned (.plain (OpenSpec.upto certWritesSpec)) certWritesUptoCard

/-- THE SECOND FORM's CARD OF 'diapasonlaw27.CertBack'. -/
def certBackUptoCard : Claim7 := { stood := { row := certBackUptoRow, standIns := [], harness := (true, "1b9c3dc44d2081750870f91c7c72a9c655935e98aa108ae0d31c582cdc42c158"), looks := true }, kinds := [], alts := [], laidByText := true, laidKinds := [.data, .data, .data, .sentinel, .sentinel], laidTests := true, laidLooks := .later }
def CertBackUptoCardSaid : Prop := Claim7.holds Tryd.pinned (.plain (OpenSpec.upto certBackSpec)) certBackUptoCard

/-- THE SECOND FORM's CARD OF 'diapasonlaw27.CertKnown'. -/
def certKnownUptoCard : Claim7 := { stood := { row := certKnownUptoRow, standIns := [], harness := (true, "1b9c3dc44d2081750870f91c7c72a9c655935e98aa108ae0d31c582cdc42c158"), looks := true }, kinds := [], alts := [], laidByText := true, laidKinds := [.data, .data, .data, .data, .sentinel, .sentinel, .pinned], laidTests := true, laidLooks := .later }
def CertKnownUptoCardSaid : Prop := Claim7.holds Tryd.pinned (.plain (OpenSpec.upto certKnownSpec)) certKnownUptoCard
end Rows
end Go.Proofs.YtfcidgnbocijdaaDoor
