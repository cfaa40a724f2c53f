/-
  No cell of these rows narrows 'for every input' (looked for: loops, veiled, ifaces, maps, wideKeys, modest, calm, conditions, laid).
  DERIVED. THE GIVEN ROWS OF THIS SEAT. 25 by the template 'for every input the law returns true; each argument reads behind the call as it read before'; 0 by the template 'total and deterministic' (their statements: YtgbhpghgohggcaaTotals.lean).
  GIVEN WITH THE SEED: the statements are not yours to turn. If you find one false, say at which input.
  Laid BY PROGRAM, IN A SANDBOX (cutbox-rows.mjs): the forced cells as the released guide's own fill.sh prints them over the translation ce461cdd11dce8ad… (all of the seat's roots in one cut). By AI agents, Wed Nov 11 2026. No macro, syntax, notation, axiom, sorry.
-/
import Derived.Test.YtgbhpghgohggcaaChecked
import GoSem.Claim
import GoSem.ClaimJoined
import GoSem.ClaimMapViews
import Derived.JoinedTies
import Derived.KernelRfl
namespace Go.Proofs.Ytgbhpghgohggcaa
/- THE CELL 'sum', in the pinned program and in every row, IS THE sha256 OF THE DUMP (.gsa) THAT YtgbhpghgohggcaaProg.lean LOADS. Nothing in Lean hashes anything: it is a label: what it is worth is what the hold of that sum in a sandbox is worth. -/
noncomputable def Try.pinned : Pinned := { name := "ytgbhpghgohggcaa", sum := "ce461cdd11dce8add28e7ad58ef704545abfed540e09ffd560914e323b6fb186", checked := Try.checked }
namespace Rows
def none {H : Type} : Left H := { results := [], args := [] }

/-- 'anlaw6.LocksTells': WHATEVER THE INPUT: true; the input reads as it did. -/
def locksTellsSpec : ChangeSpec := { name := "locksTells", fn := fun _ => fun
  | [d1, d2, d3] => { results := [.lit (.bool true)], args := [d1, d2, d3] }
  | _ => none }
def locksTellsRow : OpenClaim := { program := "ytgbhpghgohggcaa", sum := "ce461cdd11dce8add28e7ad58ef704545abfed540e09ffd560914e323b6fb186", func := "allornone/anlaw6.LocksTells", spec := "locksTells", unfollowed := true, recurses := true, plainKeys := false, apart := false }
def LocksTellsSaid : Prop := locksTellsRow.holds Try.pinned (OpenSpec.ofChange locksTellsSpec)

/-- ITS FALSE NEIGHBOUR: 'it returns false'. Refute it at one input. -/
def locksTellsWrong : ChangeSpec := { name := "locksTells", fn := fun _ => fun
  | [d1, d2, d3] => { results := [.lit (.bool false)], args := [d1, d2, d3] }
  | _ => none }
def LocksTellsWrongFalsely : Prop := locksTellsRow.holds Try.pinned (OpenSpec.ofChange locksTellsWrong)

/-- 'anlaw6.LocksOne': WHATEVER THE INPUT: true; the input reads as it did. -/
def locksOneSpec : ChangeSpec := { name := "locksOne", fn := fun _ => fun
  | [d1, d2] => { results := [.lit (.bool true)], args := [d1, d2] }
  | _ => none }
def locksOneRow : OpenClaim := { program := "ytgbhpghgohggcaa", sum := "ce461cdd11dce8add28e7ad58ef704545abfed540e09ffd560914e323b6fb186", func := "allornone/anlaw6.LocksOne", spec := "locksOne", unfollowed := true, recurses := true, plainKeys := false, apart := false }
def LocksOneSaid : Prop := locksOneRow.holds Try.pinned (OpenSpec.ofChange locksOneSpec)

/-- ITS FALSE NEIGHBOUR: 'it returns false'. Refute it at one input. -/
def locksOneWrong : ChangeSpec := { name := "locksOne", fn := fun _ => fun
  | [d1, d2] => { results := [.lit (.bool false)], args := [d1, d2] }
  | _ => none }
def LocksOneWrongFalsely : Prop := locksOneRow.holds Try.pinned (OpenSpec.ofChange locksOneWrong)

/-- 'anlaw6.LocksGo': WHATEVER THE INPUT: true; the input reads as it did. -/
def locksGoSpec : ChangeSpec := { name := "locksGo", fn := fun _ => fun
  | [d1, d2, d3, d4] => { results := [.lit (.bool true)], args := [d1, d2, d3, d4] }
  | _ => none }
def locksGoRow : OpenClaim := { program := "ytgbhpghgohggcaa", sum := "ce461cdd11dce8add28e7ad58ef704545abfed540e09ffd560914e323b6fb186", func := "allornone/anlaw6.LocksGo", spec := "locksGo", unfollowed := true, recurses := true, plainKeys := false, apart := false }
def LocksGoSaid : Prop := locksGoRow.holds Try.pinned (OpenSpec.ofChange locksGoSpec)

/-- ITS FALSE NEIGHBOUR: 'it returns false'. Refute it at one input. -/
def locksGoWrong : ChangeSpec := { name := "locksGo", fn := fun _ => fun
  | [d1, d2, d3, d4] => { results := [.lit (.bool false)], args := [d1, d2, d3, d4] }
  | _ => none }
def LocksGoWrongFalsely : Prop := locksGoRow.holds Try.pinned (OpenSpec.ofChange locksGoWrong)

/-- 'anlaw5.LogTells': WHATEVER THE INPUT: true; the input reads as it did. -/
def logTellsSpec : ChangeSpec := { name := "logTells", fn := fun _ => fun
  | [d1, d2] => { results := [.lit (.bool true)], args := [d1, d2] }
  | _ => none }
def logTellsRow : OpenClaim := { program := "ytgbhpghgohggcaa", sum := "ce461cdd11dce8add28e7ad58ef704545abfed540e09ffd560914e323b6fb186", func := "allornone/anlaw5.LogTells", spec := "logTells", unfollowed := true, recurses := true, plainKeys := false, apart := false }
def LogTellsSaid : Prop := logTellsRow.holds Try.pinned (OpenSpec.ofChange logTellsSpec)

/-- ITS FALSE NEIGHBOUR: 'it returns false'. Refute it at one input. -/
def logTellsWrong : ChangeSpec := { name := "logTells", fn := fun _ => fun
  | [d1, d2] => { results := [.lit (.bool false)], args := [d1, d2] }
  | _ => none }
def LogTellsWrongFalsely : Prop := logTellsRow.holds Try.pinned (OpenSpec.ofChange logTellsWrong)

/-- 'anlaw5.LogStill': WHATEVER THE INPUT: true; the input reads as it did. -/
def logStillSpec : ChangeSpec := { name := "logStill", fn := fun _ => fun
  | [d1, d2] => { results := [.lit (.bool true)], args := [d1, d2] }
  | _ => none }
def logStillRow : OpenClaim := { program := "ytgbhpghgohggcaa", sum := "ce461cdd11dce8add28e7ad58ef704545abfed540e09ffd560914e323b6fb186", func := "allornone/anlaw5.LogStill", spec := "logStill", unfollowed := true, recurses := true, plainKeys := false, apart := false }
def LogStillSaid : Prop := logStillRow.holds Try.pinned (OpenSpec.ofChange logStillSpec)

/-- ITS FALSE NEIGHBOUR: 'it returns false'. Refute it at one input. -/
def logStillWrong : ChangeSpec := { name := "logStill", fn := fun _ => fun
  | [d1, d2] => { results := [.lit (.bool false)], args := [d1, d2] }
  | _ => none }
def LogStillWrongFalsely : Prop := logStillRow.holds Try.pinned (OpenSpec.ofChange logStillWrong)

/-- 'anlaw5.LogDone': WHATEVER THE INPUT: true; the input reads as it did. -/
def logDoneSpec : ChangeSpec := { name := "logDone", fn := fun _ => fun
  | [d1, d2] => { results := [.lit (.bool true)], args := [d1, d2] }
  | _ => none }
def logDoneRow : OpenClaim := { program := "ytgbhpghgohggcaa", sum := "ce461cdd11dce8add28e7ad58ef704545abfed540e09ffd560914e323b6fb186", func := "allornone/anlaw5.LogDone", spec := "logDone", unfollowed := true, recurses := true, plainKeys := false, apart := false }
def LogDoneSaid : Prop := logDoneRow.holds Try.pinned (OpenSpec.ofChange logDoneSpec)

/-- ITS FALSE NEIGHBOUR: 'it returns false'. Refute it at one input. -/
def logDoneWrong : ChangeSpec := { name := "logDone", fn := fun _ => fun
  | [d1, d2] => { results := [.lit (.bool false)], args := [d1, d2] }
  | _ => none }
def LogDoneWrongFalsely : Prop := logDoneRow.holds Try.pinned (OpenSpec.ofChange logDoneWrong)

/-- 'anlaw7.HouseTells': WHATEVER THE INPUT: true; the input reads as it did. -/
def houseTellsSpec : ChangeSpec := { name := "houseTells", fn := fun _ => fun
  | [d1, d2] => { results := [.lit (.bool true)], args := [d1, d2] }
  | _ => none }
def houseTellsRow : OpenClaim := { program := "ytgbhpghgohggcaa", sum := "ce461cdd11dce8add28e7ad58ef704545abfed540e09ffd560914e323b6fb186", func := "allornone/anlaw7.HouseTells", spec := "houseTells", unfollowed := true, recurses := true, plainKeys := false, apart := false }
def HouseTellsSaid : Prop := houseTellsRow.holds Try.pinned (OpenSpec.ofChange houseTellsSpec)

/-- ITS FALSE NEIGHBOUR: 'it returns false'. Refute it at one input. -/
def houseTellsWrong : ChangeSpec := { name := "houseTells", fn := fun _ => fun
  | [d1, d2] => { results := [.lit (.bool false)], args := [d1, d2] }
  | _ => none }
def HouseTellsWrongFalsely : Prop := houseTellsRow.holds Try.pinned (OpenSpec.ofChange houseTellsWrong)

/-- 'anlaw7.HouseTwice': WHATEVER THE INPUT: true; the input reads as it did. -/
def houseTwiceSpec : ChangeSpec := { name := "houseTwice", fn := fun _ => fun
  | [d1, d2] => { results := [.lit (.bool true)], args := [d1, d2] }
  | _ => none }
def houseTwiceRow : OpenClaim := { program := "ytgbhpghgohggcaa", sum := "ce461cdd11dce8add28e7ad58ef704545abfed540e09ffd560914e323b6fb186", func := "allornone/anlaw7.HouseTwice", spec := "houseTwice", unfollowed := true, recurses := true, plainKeys := false, apart := false }
def HouseTwiceSaid : Prop := houseTwiceRow.holds Try.pinned (OpenSpec.ofChange houseTwiceSpec)

/-- ITS FALSE NEIGHBOUR: 'it returns false'. Refute it at one input. -/
def houseTwiceWrong : ChangeSpec := { name := "houseTwice", fn := fun _ => fun
  | [d1, d2] => { results := [.lit (.bool false)], args := [d1, d2] }
  | _ => none }
def HouseTwiceWrongFalsely : Prop := houseTwiceRow.holds Try.pinned (OpenSpec.ofChange houseTwiceWrong)

/-- 'anlaw7.HouseWord': WHATEVER THE INPUT: true; the input reads as it did. -/
def houseWordSpec : ChangeSpec := { name := "houseWord", fn := fun _ => fun
  | [d1, d2, d3] => { results := [.lit (.bool true)], args := [d1, d2, d3] }
  | _ => none }
def houseWordRow : OpenClaim := { program := "ytgbhpghgohggcaa", sum := "ce461cdd11dce8add28e7ad58ef704545abfed540e09ffd560914e323b6fb186", func := "allornone/anlaw7.HouseWord", spec := "houseWord", unfollowed := true, recurses := true, plainKeys := false, apart := false }
def HouseWordSaid : Prop := houseWordRow.holds Try.pinned (OpenSpec.ofChange houseWordSpec)

/-- ITS FALSE NEIGHBOUR: 'it returns false'. Refute it at one input. -/
def houseWordWrong : ChangeSpec := { name := "houseWord", fn := fun _ => fun
  | [d1, d2, d3] => { results := [.lit (.bool false)], args := [d1, d2, d3] }
  | _ => none }
def HouseWordWrongFalsely : Prop := houseWordRow.holds Try.pinned (OpenSpec.ofChange houseWordWrong)

/-- 'anlaw2.WireTurns': WHATEVER THE INPUT: true; the input reads as it did. -/
def wireTurnsSpec : ChangeSpec := { name := "wireTurns", fn := fun _ => fun
  | [d1, d2, d3] => { results := [.lit (.bool true)], args := [d1, d2, d3] }
  | _ => none }
def wireTurnsRow : OpenClaim := { program := "ytgbhpghgohggcaa", sum := "ce461cdd11dce8add28e7ad58ef704545abfed540e09ffd560914e323b6fb186", func := "allornone/anlaw2.WireTurns", spec := "wireTurns", unfollowed := true, recurses := true, plainKeys := false, apart := false }
def WireTurnsSaid : Prop := wireTurnsRow.holds Try.pinned (OpenSpec.ofChange wireTurnsSpec)

/-- ITS FALSE NEIGHBOUR: 'it returns false'. Refute it at one input. -/
def wireTurnsWrong : ChangeSpec := { name := "wireTurns", fn := fun _ => fun
  | [d1, d2, d3] => { results := [.lit (.bool false)], args := [d1, d2, d3] }
  | _ => none }
def WireTurnsWrongFalsely : Prop := wireTurnsRow.holds Try.pinned (OpenSpec.ofChange wireTurnsWrong)

/-- 'anlaw2.WireByte': WHATEVER THE INPUT: true; the input reads as it did. -/
def wireByteSpec : ChangeSpec := { name := "wireByte", fn := fun _ => fun
  | [d1, d2, d3] => { results := [.lit (.bool true)], args := [d1, d2, d3] }
  | _ => none }
def wireByteRow : OpenClaim := { program := "ytgbhpghgohggcaa", sum := "ce461cdd11dce8add28e7ad58ef704545abfed540e09ffd560914e323b6fb186", func := "allornone/anlaw2.WireByte", spec := "wireByte", unfollowed := true, recurses := true, plainKeys := false, apart := false }
def WireByteSaid : Prop := wireByteRow.holds Try.pinned (OpenSpec.ofChange wireByteSpec)

/-- ITS FALSE NEIGHBOUR: 'it returns false'. Refute it at one input. -/
def wireByteWrong : ChangeSpec := { name := "wireByte", fn := fun _ => fun
  | [d1, d2, d3] => { results := [.lit (.bool false)], args := [d1, d2, d3] }
  | _ => none }
def WireByteWrongFalsely : Prop := wireByteRow.holds Try.pinned (OpenSpec.ofChange wireByteWrong)

/-- 'anlaw9.NetTells': WHATEVER THE INPUT: true; the input reads as it did. -/
def netTellsSpec : ChangeSpec := { name := "netTells", fn := fun _ => fun
  | [d1, d2, d3] => { results := [.lit (.bool true)], args := [d1, d2, d3] }
  | _ => none }
def netTellsRow : OpenClaim := { program := "ytgbhpghgohggcaa", sum := "ce461cdd11dce8add28e7ad58ef704545abfed540e09ffd560914e323b6fb186", func := "allornone/anlaw9.NetTells", spec := "netTells", unfollowed := true, recurses := true, plainKeys := false, apart := false }
def NetTellsSaid : Prop := netTellsRow.holds Try.pinned (OpenSpec.ofChange netTellsSpec)

/-- ITS FALSE NEIGHBOUR: 'it returns false'. Refute it at one input. -/
def netTellsWrong : ChangeSpec := { name := "netTells", fn := fun _ => fun
  | [d1, d2, d3] => { results := [.lit (.bool false)], args := [d1, d2, d3] }
  | _ => none }
def NetTellsWrongFalsely : Prop := netTellsRow.holds Try.pinned (OpenSpec.ofChange netTellsWrong)

/-- 'anlaw9.NetTwice': WHATEVER THE INPUT: true; the input reads as it did. -/
def netTwiceSpec : ChangeSpec := { name := "netTwice", fn := fun _ => fun
  | [d1, d2] => { results := [.lit (.bool true)], args := [d1, d2] }
  | _ => none }
def netTwiceRow : OpenClaim := { program := "ytgbhpghgohggcaa", sum := "ce461cdd11dce8add28e7ad58ef704545abfed540e09ffd560914e323b6fb186", func := "allornone/anlaw9.NetTwice", spec := "netTwice", unfollowed := true, recurses := true, plainKeys := false, apart := false }
def NetTwiceSaid : Prop := netTwiceRow.holds Try.pinned (OpenSpec.ofChange netTwiceSpec)

/-- ITS FALSE NEIGHBOUR: 'it returns false'. Refute it at one input. -/
def netTwiceWrong : ChangeSpec := { name := "netTwice", fn := fun _ => fun
  | [d1, d2] => { results := [.lit (.bool false)], args := [d1, d2] }
  | _ => none }
def NetTwiceWrongFalsely : Prop := netTwiceRow.holds Try.pinned (OpenSpec.ofChange netTwiceWrong)

/-- 'anlaw9.NetTake': WHATEVER THE INPUT: true; the input reads as it did. -/
def netTakeSpec : ChangeSpec := { name := "netTake", fn := fun _ => fun
  | [d1, d2] => { results := [.lit (.bool true)], args := [d1, d2] }
  | _ => none }
def netTakeRow : OpenClaim := { program := "ytgbhpghgohggcaa", sum := "ce461cdd11dce8add28e7ad58ef704545abfed540e09ffd560914e323b6fb186", func := "allornone/anlaw9.NetTake", spec := "netTake", unfollowed := true, recurses := true, plainKeys := false, apart := false }
def NetTakeSaid : Prop := netTakeRow.holds Try.pinned (OpenSpec.ofChange netTakeSpec)

/-- ITS FALSE NEIGHBOUR: 'it returns false'. Refute it at one input. -/
def netTakeWrong : ChangeSpec := { name := "netTake", fn := fun _ => fun
  | [d1, d2] => { results := [.lit (.bool false)], args := [d1, d2] }
  | _ => none }
def NetTakeWrongFalsely : Prop := netTakeRow.holds Try.pinned (OpenSpec.ofChange netTakeWrong)

/-- 'anlaw11.LookTells': WHATEVER THE INPUT: true; the input reads as it did. -/
def lookTellsSpec : ChangeSpec := { name := "lookTells", fn := fun _ => fun
  | [d1, d2] => { results := [.lit (.bool true)], args := [d1, d2] }
  | _ => none }
def lookTellsRow : OpenClaim := { program := "ytgbhpghgohggcaa", sum := "ce461cdd11dce8add28e7ad58ef704545abfed540e09ffd560914e323b6fb186", func := "allornone/anlaw11.LookTells", spec := "lookTells", unfollowed := true, recurses := true, plainKeys := false, apart := false }
def LookTellsSaid : Prop := lookTellsRow.holds Try.pinned (OpenSpec.ofChange lookTellsSpec)

/-- ITS FALSE NEIGHBOUR: 'it returns false'. Refute it at one input. -/
def lookTellsWrong : ChangeSpec := { name := "lookTells", fn := fun _ => fun
  | [d1, d2] => { results := [.lit (.bool false)], args := [d1, d2] }
  | _ => none }
def LookTellsWrongFalsely : Prop := lookTellsRow.holds Try.pinned (OpenSpec.ofChange lookTellsWrong)

/-- 'anlaw1.PartTells': WHATEVER THE INPUT: true; the input reads as it did. -/
def partTellsSpec : ChangeSpec := { name := "partTells", fn := fun _ => fun
  | [d1, d2, d3, d4] => { results := [.lit (.bool true)], args := [d1, d2, d3, d4] }
  | _ => none }
def partTellsRow : OpenClaim := { program := "ytgbhpghgohggcaa", sum := "ce461cdd11dce8add28e7ad58ef704545abfed540e09ffd560914e323b6fb186", func := "allornone/anlaw1.PartTells", spec := "partTells", unfollowed := true, recurses := true, plainKeys := false, apart := false }
def PartTellsSaid : Prop := partTellsRow.holds Try.pinned (OpenSpec.ofChange partTellsSpec)

/-- ITS FALSE NEIGHBOUR: 'it returns false'. Refute it at one input. -/
def partTellsWrong : ChangeSpec := { name := "partTells", fn := fun _ => fun
  | [d1, d2, d3, d4] => { results := [.lit (.bool false)], args := [d1, d2, d3, d4] }
  | _ => none }
def PartTellsWrongFalsely : Prop := partTellsRow.holds Try.pinned (OpenSpec.ofChange partTellsWrong)

/-- 'anlaw1.PartBack': WHATEVER THE INPUT: true; the input reads as it did. -/
def partBackSpec : ChangeSpec := { name := "partBack", fn := fun _ => fun
  | [d1, d2] => { results := [.lit (.bool true)], args := [d1, d2] }
  | _ => none }
def partBackRow : OpenClaim := { program := "ytgbhpghgohggcaa", sum := "ce461cdd11dce8add28e7ad58ef704545abfed540e09ffd560914e323b6fb186", func := "allornone/anlaw1.PartBack", spec := "partBack", unfollowed := true, recurses := true, plainKeys := false, apart := false }
def PartBackSaid : Prop := partBackRow.holds Try.pinned (OpenSpec.ofChange partBackSpec)

/-- ITS FALSE NEIGHBOUR: 'it returns false'. Refute it at one input. -/
def partBackWrong : ChangeSpec := { name := "partBack", fn := fun _ => fun
  | [d1, d2] => { results := [.lit (.bool false)], args := [d1, d2] }
  | _ => none }
def PartBackWrongFalsely : Prop := partBackRow.holds Try.pinned (OpenSpec.ofChange partBackWrong)

/-- 'anlaw4.ModelTells': WHATEVER THE INPUT: true; the input reads as it did. -/
def modelTellsSpec : ChangeSpec := { name := "modelTells", fn := fun _ => fun
  | [d1, d2, d3] => { results := [.lit (.bool true)], args := [d1, d2, d3] }
  | _ => none }
def modelTellsRow : OpenClaim := { program := "ytgbhpghgohggcaa", sum := "ce461cdd11dce8add28e7ad58ef704545abfed540e09ffd560914e323b6fb186", func := "allornone/anlaw4.ModelTells", spec := "modelTells", unfollowed := true, recurses := true, plainKeys := false, apart := false }
def ModelTellsSaid : Prop := modelTellsRow.holds Try.pinned (OpenSpec.ofChange modelTellsSpec)

/-- ITS FALSE NEIGHBOUR: 'it returns false'. Refute it at one input. -/
def modelTellsWrong : ChangeSpec := { name := "modelTells", fn := fun _ => fun
  | [d1, d2, d3] => { results := [.lit (.bool false)], args := [d1, d2, d3] }
  | _ => none }
def ModelTellsWrongFalsely : Prop := modelTellsRow.holds Try.pinned (OpenSpec.ofChange modelTellsWrong)

/-- 'anlaw4.ModelApart': WHATEVER THE INPUT: true; the input reads as it did. -/
def modelApartSpec : ChangeSpec := { name := "modelApart", fn := fun _ => fun
  | [d1, d2, d3] => { results := [.lit (.bool true)], args := [d1, d2, d3] }
  | _ => none }
def modelApartRow : OpenClaim := { program := "ytgbhpghgohggcaa", sum := "ce461cdd11dce8add28e7ad58ef704545abfed540e09ffd560914e323b6fb186", func := "allornone/anlaw4.ModelApart", spec := "modelApart", unfollowed := true, recurses := true, plainKeys := false, apart := false }
def ModelApartSaid : Prop := modelApartRow.holds Try.pinned (OpenSpec.ofChange modelApartSpec)

/-- ITS FALSE NEIGHBOUR: 'it returns false'. Refute it at one input. -/
def modelApartWrong : ChangeSpec := { name := "modelApart", fn := fun _ => fun
  | [d1, d2, d3] => { results := [.lit (.bool false)], args := [d1, d2, d3] }
  | _ => none }
def ModelApartWrongFalsely : Prop := modelApartRow.holds Try.pinned (OpenSpec.ofChange modelApartWrong)

/-- 'anlaw4.ModelEven': WHATEVER THE INPUT: true; the input reads as it did. -/
def modelEvenSpec : ChangeSpec := { name := "modelEven", fn := fun _ => fun
  | [d1, d2] => { results := [.lit (.bool true)], args := [d1, d2] }
  | _ => none }
def modelEvenRow : OpenClaim := { program := "ytgbhpghgohggcaa", sum := "ce461cdd11dce8add28e7ad58ef704545abfed540e09ffd560914e323b6fb186", func := "allornone/anlaw4.ModelEven", spec := "modelEven", unfollowed := true, recurses := true, plainKeys := false, apart := false }
def ModelEvenSaid : Prop := modelEvenRow.holds Try.pinned (OpenSpec.ofChange modelEvenSpec)

/-- ITS FALSE NEIGHBOUR: 'it returns false'. Refute it at one input. -/
def modelEvenWrong : ChangeSpec := { name := "modelEven", fn := fun _ => fun
  | [d1, d2] => { results := [.lit (.bool false)], args := [d1, d2] }
  | _ => none }
def ModelEvenWrongFalsely : Prop := modelEvenRow.holds Try.pinned (OpenSpec.ofChange modelEvenWrong)

/-- 'anlaw11.LookWhole': WHATEVER THE INPUT: true; the input reads as it did. -/
def lookWholeSpec : ChangeSpec := { name := "lookWhole", fn := fun _ => fun
  | [d1, d2] => { results := [.lit (.bool true)], args := [d1, d2] }
  | _ => none }
def lookWholeRow : OpenClaim := { program := "ytgbhpghgohggcaa", sum := "ce461cdd11dce8add28e7ad58ef704545abfed540e09ffd560914e323b6fb186", func := "allornone/anlaw11.LookWhole", spec := "lookWhole", unfollowed := true, recurses := true, plainKeys := false, apart := false }
def LookWholeSaid : Prop := lookWholeRow.holds Try.pinned (OpenSpec.ofChange lookWholeSpec)

/-- ITS FALSE NEIGHBOUR: 'it returns false'. Refute it at one input. -/
def lookWholeWrong : ChangeSpec := { name := "lookWhole", fn := fun _ => fun
  | [d1, d2] => { results := [.lit (.bool false)], args := [d1, d2] }
  | _ => none }
def LookWholeWrongFalsely : Prop := lookWholeRow.holds Try.pinned (OpenSpec.ofChange lookWholeWrong)

/-- 'anlaw11.LookSharp': WHATEVER THE INPUT: true; the input reads as it did. -/
def lookSharpSpec : ChangeSpec := { name := "lookSharp", fn := fun _ => fun
  | [d1, d2, d3, d4, d5] => { results := [.lit (.bool true)], args := [d1, d2, d3, d4, d5] }
  | _ => none }
def lookSharpRow : OpenClaim := { program := "ytgbhpghgohggcaa", sum := "ce461cdd11dce8add28e7ad58ef704545abfed540e09ffd560914e323b6fb186", func := "allornone/anlaw11.LookSharp", spec := "lookSharp", unfollowed := true, recurses := true, plainKeys := false, apart := false }
def LookSharpSaid : Prop := lookSharpRow.holds Try.pinned (OpenSpec.ofChange lookSharpSpec)

/-- ITS FALSE NEIGHBOUR: 'it returns false'. Refute it at one input. -/
def lookSharpWrong : ChangeSpec := { name := "lookSharp", fn := fun _ => fun
  | [d1, d2, d3, d4, d5] => { results := [.lit (.bool false)], args := [d1, d2, d3, d4, d5] }
  | _ => none }
def LookSharpWrongFalsely : Prop := lookSharpRow.holds Try.pinned (OpenSpec.ofChange lookSharpWrong)

/-- 'anlaw8.HeadTells': WHATEVER THE INPUT: true; the input reads as it did. -/
def headTellsSpec : ChangeSpec := { name := "headTells", fn := fun _ => fun
  | [d1, d2, d3, d4] => { results := [.lit (.bool true)], args := [d1, d2, d3, d4] }
  | _ => none }
def headTellsRow : OpenClaim := { program := "ytgbhpghgohggcaa", sum := "ce461cdd11dce8add28e7ad58ef704545abfed540e09ffd560914e323b6fb186", func := "allornone/anlaw8.HeadTells", spec := "headTells", unfollowed := true, recurses := true, plainKeys := false, apart := false }
def HeadTellsSaid : Prop := headTellsRow.holds Try.pinned (OpenSpec.ofChange headTellsSpec)

/-- ITS FALSE NEIGHBOUR: 'it returns false'. Refute it at one input. -/
def headTellsWrong : ChangeSpec := { name := "headTells", fn := fun _ => fun
  | [d1, d2, d3, d4] => { results := [.lit (.bool false)], args := [d1, d2, d3, d4] }
  | _ => none }
def HeadTellsWrongFalsely : Prop := headTellsRow.holds Try.pinned (OpenSpec.ofChange headTellsWrong)

/-- 'anlaw8.HeadAll': WHATEVER THE INPUT: true; the input reads as it did. -/
def headAllSpec : ChangeSpec := { name := "headAll", fn := fun _ => fun
  | [d1, d2, d3, d4] => { results := [.lit (.bool true)], args := [d1, d2, d3, d4] }
  | _ => none }
def headAllRow : OpenClaim := { program := "ytgbhpghgohggcaa", sum := "ce461cdd11dce8add28e7ad58ef704545abfed540e09ffd560914e323b6fb186", func := "allornone/anlaw8.HeadAll", spec := "headAll", unfollowed := true, recurses := true, plainKeys := false, apart := false }
def HeadAllSaid : Prop := headAllRow.holds Try.pinned (OpenSpec.ofChange headAllSpec)

/-- ITS FALSE NEIGHBOUR: 'it returns false'. Refute it at one input. -/
def headAllWrong : ChangeSpec := { name := "headAll", fn := fun _ => fun
  | [d1, d2, d3, d4] => { results := [.lit (.bool false)], args := [d1, d2, d3, d4] }
  | _ => none }
def HeadAllWrongFalsely : Prop := headAllRow.holds Try.pinned (OpenSpec.ofChange headAllWrong)

/-- 'anlaw8.HeadFall': WHATEVER THE INPUT: true; the input reads as it did. -/
def headFallSpec : ChangeSpec := { name := "headFall", fn := fun _ => fun
  | [d1, d2, d3] => { results := [.lit (.bool true)], args := [d1, d2, d3] }
  | _ => none }
def headFallRow : OpenClaim := { program := "ytgbhpghgohggcaa", sum := "ce461cdd11dce8add28e7ad58ef704545abfed540e09ffd560914e323b6fb186", func := "allornone/anlaw8.HeadFall", spec := "headFall", unfollowed := true, recurses := true, plainKeys := false, apart := false }
def HeadFallSaid : Prop := headFallRow.holds Try.pinned (OpenSpec.ofChange headFallSpec)

/-- ITS FALSE NEIGHBOUR: 'it returns false'. Refute it at one input. -/
def headFallWrong : ChangeSpec := { name := "headFall", fn := fun _ => fun
  | [d1, d2, d3] => { results := [.lit (.bool false)], args := [d1, d2, d3] }
  | _ => none }
def HeadFallWrongFalsely : Prop := headFallRow.holds Try.pinned (OpenSpec.ofChange headFallWrong)

/- THE SECOND FORM. 'bulk': how many values and letters a reading holds, each counted each time it is reached (what is shared counts as often as it is met; a slice's spare places count too). A statement '..UptoSaid' is the law's where the arguments, and the package variables that the reading takes, are together of bulk at most 1048576: NARROWER than '..Said'. Prove '..Said' where nothing that the law and all that it calls make is longer than what came in: it says more and counts as full. Else prove '..UptoSaid'. A law counts once. -/
mutual
def uptoBulk {H : Type} : DataW H → Nat
  | .lit (.string bytes) => bytes.length + 1
  | .lit _ => 1
  | .nil => 1
  | .ptr d => uptoBulk d + 1
  | .slice elems spare => uptoBulkAll elems + uptoBulkAll spare + 1
  | .agg parts => uptoBulkAll parts + 1
  | .iface _ d => uptoBulk d + 1
  | .map entries => uptoBulkEntries entries + 1
  | .held _ => 1
def uptoBulkAll {H : Type} : List (DataW H) → Nat
  | [] => 0
  | d :: r => uptoBulk d + uptoBulkAll r
def uptoBulkEntries {H : Type} : List (Lit × DataW H) → Nat
  | [] => 0
  | x :: r => uptoBulkEntry x + uptoBulkEntries r
def uptoBulkEntry {H : Type} : Lit × DataW H → Nat
  | (.string bytes, d) => bytes.length + uptoBulk d + 1
  | (_, d) => uptoBulk d + 1
 end
def uptoSmall : (H : Type) → List (DataW H) → Bool := fun _ ds => decide (uptoBulkAll ds ≤ 1048576)
def OpenSpec.upto (s : _root_.Go.ChangeSpec) : _root_.Go.OpenSpec := { _root_.Go.OpenSpec.ofChange s with cond := some uptoSmall }

/-- 'anlaw6.LocksTells', WHERE WHAT IT READS IS OF BULK AT MOST 1048576: true; the input reads as it did. -/
def locksTellsUptoRow : OpenClaim := { program := "ytgbhpghgohggcaa", sum := "ce461cdd11dce8add28e7ad58ef704545abfed540e09ffd560914e323b6fb186", func := "allornone/anlaw6.LocksTells", spec := "locksTells", unfollowed := true, recurses := true, plainKeys := false, apart := false, narrowed := true }
def LocksTellsUptoSaid : Prop := locksTellsUptoRow.holds Try.pinned (OpenSpec.upto locksTellsSpec)

/-- 'anlaw6.LocksOne', WHERE WHAT IT READS IS OF BULK AT MOST 1048576: true; the input reads as it did. -/
def locksOneUptoRow : OpenClaim := { program := "ytgbhpghgohggcaa", sum := "ce461cdd11dce8add28e7ad58ef704545abfed540e09ffd560914e323b6fb186", func := "allornone/anlaw6.LocksOne", spec := "locksOne", unfollowed := true, recurses := true, plainKeys := false, apart := false, narrowed := true }
def LocksOneUptoSaid : Prop := locksOneUptoRow.holds Try.pinned (OpenSpec.upto locksOneSpec)

/-- 'anlaw6.LocksGo', WHERE WHAT IT READS IS OF BULK AT MOST 1048576: true; the input reads as it did. -/
def locksGoUptoRow : OpenClaim := { program := "ytgbhpghgohggcaa", sum := "ce461cdd11dce8add28e7ad58ef704545abfed540e09ffd560914e323b6fb186", func := "allornone/anlaw6.LocksGo", spec := "locksGo", unfollowed := true, recurses := true, plainKeys := false, apart := false, narrowed := true }
def LocksGoUptoSaid : Prop := locksGoUptoRow.holds Try.pinned (OpenSpec.upto locksGoSpec)

/-- 'anlaw5.LogTells', WHERE WHAT IT READS IS OF BULK AT MOST 1048576: true; the input reads as it did. -/
def logTellsUptoRow : OpenClaim := { program := "ytgbhpghgohggcaa", sum := "ce461cdd11dce8add28e7ad58ef704545abfed540e09ffd560914e323b6fb186", func := "allornone/anlaw5.LogTells", spec := "logTells", unfollowed := true, recurses := true, plainKeys := false, apart := false, narrowed := true }
def LogTellsUptoSaid : Prop := logTellsUptoRow.holds Try.pinned (OpenSpec.upto logTellsSpec)

/-- 'anlaw5.LogStill', WHERE WHAT IT READS IS OF BULK AT MOST 1048576: true; the input reads as it did. -/
def logStillUptoRow : OpenClaim := { program := "ytgbhpghgohggcaa", sum := "ce461cdd11dce8add28e7ad58ef704545abfed540e09ffd560914e323b6fb186", func := "allornone/anlaw5.LogStill", spec := "logStill", unfollowed := true, recurses := true, plainKeys := false, apart := false, narrowed := true }
def LogStillUptoSaid : Prop := logStillUptoRow.holds Try.pinned (OpenSpec.upto logStillSpec)

/-- 'anlaw5.LogDone', WHERE WHAT IT READS IS OF BULK AT MOST 1048576: true; the input reads as it did. -/
def logDoneUptoRow : OpenClaim := { program := "ytgbhpghgohggcaa", sum := "ce461cdd11dce8add28e7ad58ef704545abfed540e09ffd560914e323b6fb186", func := "allornone/anlaw5.LogDone", spec := "logDone", unfollowed := true, recurses := true, plainKeys := false, apart := false, narrowed := true }
def LogDoneUptoSaid : Prop := logDoneUptoRow.holds Try.pinned (OpenSpec.upto logDoneSpec)

/-- 'anlaw7.HouseTells', WHERE WHAT IT READS IS OF BULK AT MOST 1048576: true; the input reads as it did. -/
def houseTellsUptoRow : OpenClaim := { program := "ytgbhpghgohggcaa", sum := "ce461cdd11dce8add28e7ad58ef704545abfed540e09ffd560914e323b6fb186", func := "allornone/anlaw7.HouseTells", spec := "houseTells", unfollowed := true, recurses := true, plainKeys := false, apart := false, narrowed := true }
def HouseTellsUptoSaid : Prop := houseTellsUptoRow.holds Try.pinned (OpenSpec.upto houseTellsSpec)

/-- 'anlaw7.HouseTwice', WHERE WHAT IT READS IS OF BULK AT MOST 1048576: true; the input reads as it did. -/
def houseTwiceUptoRow : OpenClaim := { program := "ytgbhpghgohggcaa", sum := "ce461cdd11dce8add28e7ad58ef704545abfed540e09ffd560914e323b6fb186", func := "allornone/anlaw7.HouseTwice", spec := "houseTwice", unfollowed := true, recurses := true, plainKeys := false, apart := false, narrowed := true }
def HouseTwiceUptoSaid : Prop := houseTwiceUptoRow.holds Try.pinned (OpenSpec.upto houseTwiceSpec)

/-- 'anlaw7.HouseWord', WHERE WHAT IT READS IS OF BULK AT MOST 1048576: true; the input reads as it did. -/
def houseWordUptoRow : OpenClaim := { program := "ytgbhpghgohggcaa", sum := "ce461cdd11dce8add28e7ad58ef704545abfed540e09ffd560914e323b6fb186", func := "allornone/anlaw7.HouseWord", spec := "houseWord", unfollowed := true, recurses := true, plainKeys := false, apart := false, narrowed := true }
def HouseWordUptoSaid : Prop := houseWordUptoRow.holds Try.pinned (OpenSpec.upto houseWordSpec)

/-- 'anlaw2.WireTurns', WHERE WHAT IT READS IS OF BULK AT MOST 1048576: true; the input reads as it did. -/
def wireTurnsUptoRow : OpenClaim := { program := "ytgbhpghgohggcaa", sum := "ce461cdd11dce8add28e7ad58ef704545abfed540e09ffd560914e323b6fb186", func := "allornone/anlaw2.WireTurns", spec := "wireTurns", unfollowed := true, recurses := true, plainKeys := false, apart := false, narrowed := true }
def WireTurnsUptoSaid : Prop := wireTurnsUptoRow.holds Try.pinned (OpenSpec.upto wireTurnsSpec)

/-- 'anlaw2.WireByte', WHERE WHAT IT READS IS OF BULK AT MOST 1048576: true; the input reads as it did. -/
def wireByteUptoRow : OpenClaim := { program := "ytgbhpghgohggcaa", sum := "ce461cdd11dce8add28e7ad58ef704545abfed540e09ffd560914e323b6fb186", func := "allornone/anlaw2.WireByte", spec := "wireByte", unfollowed := true, recurses := true, plainKeys := false, apart := false, narrowed := true }
def WireByteUptoSaid : Prop := wireByteUptoRow.holds Try.pinned (OpenSpec.upto wireByteSpec)

/-- 'anlaw9.NetTells', WHERE WHAT IT READS IS OF BULK AT MOST 1048576: true; the input reads as it did. -/
def netTellsUptoRow : OpenClaim := { program := "ytgbhpghgohggcaa", sum := "ce461cdd11dce8add28e7ad58ef704545abfed540e09ffd560914e323b6fb186", func := "allornone/anlaw9.NetTells", spec := "netTells", unfollowed := true, recurses := true, plainKeys := false, apart := false, narrowed := true }
def NetTellsUptoSaid : Prop := netTellsUptoRow.holds Try.pinned (OpenSpec.upto netTellsSpec)

/-- 'anlaw9.NetTwice', WHERE WHAT IT READS IS OF BULK AT MOST 1048576: true; the input reads as it did. -/
def netTwiceUptoRow : OpenClaim := { program := "ytgbhpghgohggcaa", sum := "ce461cdd11dce8add28e7ad58ef704545abfed540e09ffd560914e323b6fb186", func := "allornone/anlaw9.NetTwice", spec := "netTwice", unfollowed := true, recurses := true, plainKeys := false, apart := false, narrowed := true }
def NetTwiceUptoSaid : Prop := netTwiceUptoRow.holds Try.pinned (OpenSpec.upto netTwiceSpec)

/-- 'anlaw9.NetTake', WHERE WHAT IT READS IS OF BULK AT MOST 1048576: true; the input reads as it did. -/
def netTakeUptoRow : OpenClaim := { program := "ytgbhpghgohggcaa", sum := "ce461cdd11dce8add28e7ad58ef704545abfed540e09ffd560914e323b6fb186", func := "allornone/anlaw9.NetTake", spec := "netTake", unfollowed := true, recurses := true, plainKeys := false, apart := false, narrowed := true }
def NetTakeUptoSaid : Prop := netTakeUptoRow.holds Try.pinned (OpenSpec.upto netTakeSpec)

/-- 'anlaw11.LookTells', WHERE WHAT IT READS IS OF BULK AT MOST 1048576: true; the input reads as it did. -/
def lookTellsUptoRow : OpenClaim := { program := "ytgbhpghgohggcaa", sum := "ce461cdd11dce8add28e7ad58ef704545abfed540e09ffd560914e323b6fb186", func := "allornone/anlaw11.LookTells", spec := "lookTells", unfollowed := true, recurses := true, plainKeys := false, apart := false, narrowed := true }
def LookTellsUptoSaid : Prop := lookTellsUptoRow.holds Try.pinned (OpenSpec.upto lookTellsSpec)

/-- 'anlaw1.PartTells', WHERE WHAT IT READS IS OF BULK AT MOST 1048576: true; the input reads as it did. -/
def partTellsUptoRow : OpenClaim := { program := "ytgbhpghgohggcaa", sum := "ce461cdd11dce8add28e7ad58ef704545abfed540e09ffd560914e323b6fb186", func := "allornone/anlaw1.PartTells", spec := "partTells", unfollowed := true, recurses := true, plainKeys := false, apart := false, narrowed := true }
def PartTellsUptoSaid : Prop := partTellsUptoRow.holds Try.pinned (OpenSpec.upto partTellsSpec)

/-- 'anlaw1.PartBack', WHERE WHAT IT READS IS OF BULK AT MOST 1048576: true; the input reads as it did. -/
def partBackUptoRow : OpenClaim := { program := "ytgbhpghgohggcaa", sum := "ce461cdd11dce8add28e7ad58ef704545abfed540e09ffd560914e323b6fb186", func := "allornone/anlaw1.PartBack", spec := "partBack", unfollowed := true, recurses := true, plainKeys := false, apart := false, narrowed := true }
def PartBackUptoSaid : Prop := partBackUptoRow.holds Try.pinned (OpenSpec.upto partBackSpec)

/-- 'anlaw4.ModelTells', WHERE WHAT IT READS IS OF BULK AT MOST 1048576: true; the input reads as it did. -/
def modelTellsUptoRow : OpenClaim := { program := "ytgbhpghgohggcaa", sum := "ce461cdd11dce8add28e7ad58ef704545abfed540e09ffd560914e323b6fb186", func := "allornone/anlaw4.ModelTells", spec := "modelTells", unfollowed := true, recurses := true, plainKeys := false, apart := false, narrowed := true }
def ModelTellsUptoSaid : Prop := modelTellsUptoRow.holds Try.pinned (OpenSpec.upto modelTellsSpec)

/-- 'anlaw4.ModelApart', WHERE WHAT IT READS IS OF BULK AT MOST 1048576: true; the input reads as it did. -/
def modelApartUptoRow : OpenClaim := { program := "ytgbhpghgohggcaa", sum := "ce461cdd11dce8add28e7ad58ef704545abfed540e09ffd560914e323b6fb186", func := "allornone/anlaw4.ModelApart", spec := "modelApart", unfollowed := true, recurses := true, plainKeys := false, apart := false, narrowed := true }
def ModelApartUptoSaid : Prop := modelApartUptoRow.holds Try.pinned (OpenSpec.upto modelApartSpec)

/-- 'anlaw4.ModelEven', WHERE WHAT IT READS IS OF BULK AT MOST 1048576: true; the input reads as it did. -/
def modelEvenUptoRow : OpenClaim := { program := "ytgbhpghgohggcaa", sum := "ce461cdd11dce8add28e7ad58ef704545abfed540e09ffd560914e323b6fb186", func := "allornone/anlaw4.ModelEven", spec := "modelEven", unfollowed := true, recurses := true, plainKeys := false, apart := false, narrowed := true }
def ModelEvenUptoSaid : Prop := modelEvenUptoRow.holds Try.pinned (OpenSpec.upto modelEvenSpec)

/-- 'anlaw11.LookWhole', WHERE WHAT IT READS IS OF BULK AT MOST 1048576: true; the input reads as it did. -/
def lookWholeUptoRow : OpenClaim := { program := "ytgbhpghgohggcaa", sum := "ce461cdd11dce8add28e7ad58ef704545abfed540e09ffd560914e323b6fb186", func := "allornone/anlaw11.LookWhole", spec := "lookWhole", unfollowed := true, recurses := true, plainKeys := false, apart := false, narrowed := true }
def LookWholeUptoSaid : Prop := lookWholeUptoRow.holds Try.pinned (OpenSpec.upto lookWholeSpec)

/-- 'anlaw11.LookSharp', WHERE WHAT IT READS IS OF BULK AT MOST 1048576: true; the input reads as it did. -/
def lookSharpUptoRow : OpenClaim := { program := "ytgbhpghgohggcaa", sum := "ce461cdd11dce8add28e7ad58ef704545abfed540e09ffd560914e323b6fb186", func := "allornone/anlaw11.LookSharp", spec := "lookSharp", unfollowed := true, recurses := true, plainKeys := false, apart := false, narrowed := true }
def LookSharpUptoSaid : Prop := lookSharpUptoRow.holds Try.pinned (OpenSpec.upto lookSharpSpec)

/-- 'anlaw8.HeadTells', WHERE WHAT IT READS IS OF BULK AT MOST 1048576: true; the input reads as it did. -/
def headTellsUptoRow : OpenClaim := { program := "ytgbhpghgohggcaa", sum := "ce461cdd11dce8add28e7ad58ef704545abfed540e09ffd560914e323b6fb186", func := "allornone/anlaw8.HeadTells", spec := "headTells", unfollowed := true, recurses := true, plainKeys := false, apart := false, narrowed := true }
def HeadTellsUptoSaid : Prop := headTellsUptoRow.holds Try.pinned (OpenSpec.upto headTellsSpec)

/-- 'anlaw8.HeadAll', WHERE WHAT IT READS IS OF BULK AT MOST 1048576: true; the input reads as it did. -/
def headAllUptoRow : OpenClaim := { program := "ytgbhpghgohggcaa", sum := "ce461cdd11dce8add28e7ad58ef704545abfed540e09ffd560914e323b6fb186", func := "allornone/anlaw8.HeadAll", spec := "headAll", unfollowed := true, recurses := true, plainKeys := false, apart := false, narrowed := true }
def HeadAllUptoSaid : Prop := headAllUptoRow.holds Try.pinned (OpenSpec.upto headAllSpec)

/-- 'anlaw8.HeadFall', WHERE WHAT IT READS IS OF BULK AT MOST 1048576: true; the input reads as it did. -/
def headFallUptoRow : OpenClaim := { program := "ytgbhpghgohggcaa", sum := "ce461cdd11dce8add28e7ad58ef704545abfed540e09ffd560914e323b6fb186", func := "allornone/anlaw8.HeadFall", spec := "headFall", unfollowed := true, recurses := true, plainKeys := false, apart := false, narrowed := true }
def HeadFallUptoSaid : Prop := headFallUptoRow.holds Try.pinned (OpenSpec.upto headFallSpec)

end Rows
end Go.Proofs.Ytgbhpghgohggcaa
