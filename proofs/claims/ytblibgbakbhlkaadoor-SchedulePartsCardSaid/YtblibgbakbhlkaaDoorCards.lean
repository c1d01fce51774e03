/-
  DERIVED. GIVEN WITH THE SEED: THE CARDS: each row of YtblibgbakbhlkaaDoorRows.lean that lists a variable, with what it lists TIED to the program's text (the seventh form; the later family's looks); each row that meets fmt, with fmt's text TOLD by the authors' own Lean function (tested against real Go, not proved from fmt's source: count such statements apart). THE CARD IS WHAT COUNTS. Prove the row's statement (the work); the ties are given (YtblibgbakbhlkaaDoorTie.lean); close each card by the builder's one call (the guide's Derived/Test/ToyasCard.lean, 'card_holds'). Laid BY PROGRAM, IN A SANDBOX (cutbox-door.mjs). By AI agents, Wed Nov 11 2026. No macro, syntax, notation, axiom, sorry.
-/
import Derived.Test.YtblibgbakbhlkaaDoorRows
import GoSem.ClaimSeven
namespace Go.Proofs.YtblibgbakbhlkaaDoor
namespace Rows

/-- THE TIED CARD OF 'reparteelaw32.ScheduleTexts'. -/
def scheduleTextsCard : Claim7 := { stood := { row := scheduleTextsRow, standIns := [], harness := (true, "49e2dd7a3e4a7e94bd608a0e43c498b0a8a2872f83c299f0a28e80e9353c7554"), looks := true }, kinds := [], alts := [], laidByText := true, laidKinds := [.data, .data, .data, .sentinel, .sentinel], laidTests := true, laidLooks := .later }
def ScheduleTextsCardSaid : Prop := Claim7.holds Tryd.pinned (.plain (OpenSpec.ofChange scheduleTextsSpec)) scheduleTextsCard

/-- THE TIED CARD OF 'reparteelaw32.ScheduleReadsOnly'. -/
def scheduleReadsOnlyCard : Claim7 := { stood := { row := scheduleReadsOnlyRow, standIns := [], harness := (true, "49e2dd7a3e4a7e94bd608a0e43c498b0a8a2872f83c299f0a28e80e9353c7554"), looks := true }, kinds := [], alts := [], laidByText := true, laidKinds := [.data, .data, .data, .sentinel, .sentinel], laidTests := true, laidLooks := .later }
def ScheduleReadsOnlyCardSaid : Prop := Claim7.holds Tryd.pinned (.plain (OpenSpec.ofChange scheduleReadsOnlySpec)) scheduleReadsOnlyCard

/-- THE TIED CARD OF 'reparteelaw32.ScheduleCuts'. -/
def scheduleCutsCard : Claim7 := { stood := { row := scheduleCutsRow, standIns := [], harness := (true, "49e2dd7a3e4a7e94bd608a0e43c498b0a8a2872f83c299f0a28e80e9353c7554"), looks := true }, kinds := [], alts := [], laidByText := true, laidKinds := [.data, .data, .data, .sentinel, .sentinel], laidTests := true, laidLooks := .later }
def ScheduleCutsCardSaid : Prop := Claim7.holds Tryd.pinned (.plain (OpenSpec.ofChange scheduleCutsSpec)) scheduleCutsCard

/-- THE TIED CARD OF 'reparteelaw32.ScheduleParts'. -/
def schedulePartsCard : Claim7 := { stood := { row := schedulePartsRow, standIns := [], harness := (true, "49e2dd7a3e4a7e94bd608a0e43c498b0a8a2872f83c299f0a28e80e9353c7554"), looks := true }, kinds := [], alts := [], laidByText := true, laidKinds := [.data, .data, .data, .sentinel, .sentinel], laidTests := true, laidLooks := .later }
def SchedulePartsCardSaid : Prop := Claim7.holds Tryd.pinned (.plain (OpenSpec.ofChange schedulePartsSpec)) schedulePartsCard

/-- THE SECOND FORM's CARD OF 'reparteelaw32.ScheduleTexts'. -/
def scheduleTextsUptoCard : Claim7 := { stood := { row := scheduleTextsUptoRow, standIns := [], harness := (true, "49e2dd7a3e4a7e94bd608a0e43c498b0a8a2872f83c299f0a28e80e9353c7554"), looks := true }, kinds := [], alts := [], laidByText := true, laidKinds := [.data, .data, .data, .sentinel, .sentinel], laidTests := true, laidLooks := .later }
def ScheduleTextsUptoCardSaid : Prop := Claim7.holds Tryd.pinned (.plain (OpenSpec.upto scheduleTextsSpec)) scheduleTextsUptoCard

/-- THE SECOND FORM's CARD OF 'reparteelaw32.ScheduleReadsOnly'. -/
def scheduleReadsOnlyUptoCard : Claim7 := { stood := { row := scheduleReadsOnlyUptoRow, standIns := [], harness := (true, "49e2dd7a3e4a7e94bd608a0e43c498b0a8a2872f83c299f0a28e80e9353c7554"), looks := true }, kinds := [], alts := [], laidByText := true, laidKinds := [.data, .data, .data, .sentinel, .sentinel], laidTests := true, laidLooks := .later }
def ScheduleReadsOnlyUptoCardSaid : Prop := Claim7.holds Tryd.pinned (.plain (OpenSpec.upto scheduleReadsOnlySpec)) scheduleReadsOnlyUptoCard

/-- THE SECOND FORM's CARD OF 'reparteelaw32.ScheduleCuts'. -/
def scheduleCutsUptoCard : Claim7 := { stood := { row := scheduleCutsUptoRow, standIns := [], harness := (true, "49e2dd7a3e4a7e94bd608a0e43c498b0a8a2872f83c299f0a28e80e9353c7554"), looks := true }, kinds := [], alts := [], laidByText := true, laidKinds := [.data, .data, .data, .sentinel, .sentinel], laidTests := true, laidLooks := .later }
def ScheduleCutsUptoCardSaid : Prop := Claim7.holds Tryd.pinned (.plain (OpenSpec.upto scheduleCutsSpec)) scheduleCutsUptoCard

/-- THE SECOND FORM's CARD OF 'reparteelaw32.ScheduleParts'. -/
def schedulePartsUptoCard : Claim7 := { stood := { row := schedulePartsUptoRow, standIns := [], harness := (true, "49e2dd7a3e4a7e94bd608a0e43c498b0a8a2872f83c299f0a28e80e9353c7554"), looks := true }, kinds := [], alts := [], laidByText := true, laidKinds := [.data, .data, .data, .sentinel, .sentinel], laidTests := true, laidLooks := .later }
def SchedulePartsUptoCardSaid : Prop := Claim7.holds Tryd.pinned (.plain (OpenSpec.upto schedulePartsSpec)) schedulePartsUptoCard
end Rows
end Go.Proofs.YtblibgbakbhlkaaDoor
