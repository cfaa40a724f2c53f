/-
  No cell of these rows narrows 'for every input' (looked for: loops, veiled, ifaces, maps, wideKeys, modest, calm, conditions, laid).
  DERIVED. THE GIVEN ROWS OF THIS SEAT. 8 by the template 'for every input the law returns true; each argument reads behind the call as it read before'; 0 by the template 'total and deterministic' (their statements: YtocnmkefmgmkbaaGreatTotals.lean).
  GIVEN WITH THE SEED: the statements are not yours to turn. If you find one false, say at which input.
  Laid BY PROGRAM, IN A SANDBOX (cutbox-rows.mjs): the forced cells as the released guide's own fill.sh prints them over the translation 9818190fc583710d… (all of the seat's roots in one cut). By AI agents, Wed Nov 11 2026. No macro, syntax, notation, axiom, sorry.
-/
import Derived.Test.YtocnmkefmgmkbaaGreatChecked
import GoSem.Claim
import GoSem.ClaimJoined
import GoSem.ClaimMapViews
import Derived.JoinedTies
import Derived.KernelRfl
namespace Go.Proofs.YtocnmkefmgmkbaaGreat
/- THE CELL 'sum', in the pinned program and in every row, IS THE sha256 OF THE DUMP (.gsa) THAT YtocnmkefmgmkbaaGreatProg.lean LOADS. Nothing in Lean hashes anything: it is a label: what it is worth is what the hold of that sum in a sandbox is worth. -/
noncomputable def Tryz.pinned : Pinned := { name := "ytocnmkefmgmkbaagreat", sum := "9818190fc583710d7bc8f60b589adc80aeda6b0d22460e4823d8436679be07d2", checked := Tryz.checked }
namespace Rows
def none {H : Type} : Left H := { results := [], args := [] }

/-- 'anlaw10.WorldTells': WHATEVER THE INPUT: true; the input reads as it did. -/
def worldTellsSpec : ChangeSpec := { name := "worldTells", fn := fun _ => fun
  | [d1, d2, d3] => { results := [.lit (.bool true)], args := [d1, d2, d3] }
  | _ => none }
def worldTellsRow : OpenClaim := { program := "ytocnmkefmgmkbaagreat", sum := "9818190fc583710d7bc8f60b589adc80aeda6b0d22460e4823d8436679be07d2", func := "allornone/anlaw10.WorldTells", spec := "worldTells", unfollowed := true, recurses := true, plainKeys := false, apart := false }
def WorldTellsSaid : Prop := worldTellsRow.holds Tryz.pinned (OpenSpec.ofChange worldTellsSpec)

/-- ITS FALSE NEIGHBOUR: 'it returns false'. Refute it at one input. -/
def worldTellsWrong : ChangeSpec := { name := "worldTells", fn := fun _ => fun
  | [d1, d2, d3] => { results := [.lit (.bool false)], args := [d1, d2, d3] }
  | _ => none }
def WorldTellsWrongFalsely : Prop := worldTellsRow.holds Tryz.pinned (OpenSpec.ofChange worldTellsWrong)

/-- 'anlaw10.WorldWhole': WHATEVER THE INPUT: true; the input reads as it did. -/
def worldWholeSpec : ChangeSpec := { name := "worldWhole", fn := fun _ => fun
  | [d1, d2, d3] => { results := [.lit (.bool true)], args := [d1, d2, d3] }
  | _ => none }
def worldWholeRow : OpenClaim := { program := "ytocnmkefmgmkbaagreat", sum := "9818190fc583710d7bc8f60b589adc80aeda6b0d22460e4823d8436679be07d2", func := "allornone/anlaw10.WorldWhole", spec := "worldWhole", unfollowed := true, recurses := true, plainKeys := false, apart := false }
def WorldWholeSaid : Prop := worldWholeRow.holds Tryz.pinned (OpenSpec.ofChange worldWholeSpec)

/-- ITS FALSE NEIGHBOUR: 'it returns false'. Refute it at one input. -/
def worldWholeWrong : ChangeSpec := { name := "worldWhole", fn := fun _ => fun
  | [d1, d2, d3] => { results := [.lit (.bool false)], args := [d1, d2, d3] }
  | _ => none }
def WorldWholeWrongFalsely : Prop := worldWholeRow.holds Tryz.pinned (OpenSpec.ofChange worldWholeWrong)

/-- 'anlaw10.WorldOnce': WHATEVER THE INPUT: true; the input reads as it did. -/
def worldOnceSpec : ChangeSpec := { name := "worldOnce", fn := fun _ => fun
  | [d1, d2, d3] => { results := [.lit (.bool true)], args := [d1, d2, d3] }
  | _ => none }
def worldOnceRow : OpenClaim := { program := "ytocnmkefmgmkbaagreat", sum := "9818190fc583710d7bc8f60b589adc80aeda6b0d22460e4823d8436679be07d2", func := "allornone/anlaw10.WorldOnce", spec := "worldOnce", unfollowed := true, recurses := true, plainKeys := false, apart := false }
def WorldOnceSaid : Prop := worldOnceRow.holds Tryz.pinned (OpenSpec.ofChange worldOnceSpec)

/-- ITS FALSE NEIGHBOUR: 'it returns false'. Refute it at one input. -/
def worldOnceWrong : ChangeSpec := { name := "worldOnce", fn := fun _ => fun
  | [d1, d2, d3] => { results := [.lit (.bool false)], args := [d1, d2, d3] }
  | _ => none }
def WorldOnceWrongFalsely : Prop := worldOnceRow.holds Tryz.pinned (OpenSpec.ofChange worldOnceWrong)

/-- 'anlaw10.WorldLasts': WHATEVER THE INPUT: true; the input reads as it did. -/
def worldLastsSpec : ChangeSpec := { name := "worldLasts", fn := fun _ => fun
  | [d1, d2, d3] => { results := [.lit (.bool true)], args := [d1, d2, d3] }
  | _ => none }
def worldLastsRow : OpenClaim := { program := "ytocnmkefmgmkbaagreat", sum := "9818190fc583710d7bc8f60b589adc80aeda6b0d22460e4823d8436679be07d2", func := "allornone/anlaw10.WorldLasts", spec := "worldLasts", unfollowed := true, recurses := true, plainKeys := false, apart := false }
def WorldLastsSaid : Prop := worldLastsRow.holds Tryz.pinned (OpenSpec.ofChange worldLastsSpec)

/-- ITS FALSE NEIGHBOUR: 'it returns false'. Refute it at one input. -/
def worldLastsWrong : ChangeSpec := { name := "worldLasts", fn := fun _ => fun
  | [d1, d2, d3] => { results := [.lit (.bool false)], args := [d1, d2, d3] }
  | _ => none }
def WorldLastsWrongFalsely : Prop := worldLastsRow.holds Tryz.pinned (OpenSpec.ofChange worldLastsWrong)

/-- 'anlaw12.FairTells': WHATEVER THE INPUT: true; the input reads as it did. -/
def fairTellsSpec : ChangeSpec := { name := "fairTells", fn := fun _ => fun
  | [d1, d2] => { results := [.lit (.bool true)], args := [d1, d2] }
  | _ => none }
def fairTellsRow : OpenClaim := { program := "ytocnmkefmgmkbaagreat", sum := "9818190fc583710d7bc8f60b589adc80aeda6b0d22460e4823d8436679be07d2", func := "allornone/anlaw12.FairTells", spec := "fairTells", unfollowed := true, recurses := true, plainKeys := false, apart := false }
def FairTellsSaid : Prop := fairTellsRow.holds Tryz.pinned (OpenSpec.ofChange fairTellsSpec)

/-- ITS FALSE NEIGHBOUR: 'it returns false'. Refute it at one input. -/
def fairTellsWrong : ChangeSpec := { name := "fairTells", fn := fun _ => fun
  | [d1, d2] => { results := [.lit (.bool false)], args := [d1, d2] }
  | _ => none }
def FairTellsWrongFalsely : Prop := fairTellsRow.holds Tryz.pinned (OpenSpec.ofChange fairTellsWrong)

/-- 'anlaw12.FairEnds': WHATEVER THE INPUT: true; the input reads as it did. -/
def fairEndsSpec : ChangeSpec := { name := "fairEnds", fn := fun _ => fun
  | [d1, d2] => { results := [.lit (.bool true)], args := [d1, d2] }
  | _ => none }
def fairEndsRow : OpenClaim := { program := "ytocnmkefmgmkbaagreat", sum := "9818190fc583710d7bc8f60b589adc80aeda6b0d22460e4823d8436679be07d2", func := "allornone/anlaw12.FairEnds", spec := "fairEnds", unfollowed := true, recurses := true, plainKeys := false, apart := false }
def FairEndsSaid : Prop := fairEndsRow.holds Tryz.pinned (OpenSpec.ofChange fairEndsSpec)

/-- ITS FALSE NEIGHBOUR: 'it returns false'. Refute it at one input. -/
def fairEndsWrong : ChangeSpec := { name := "fairEnds", fn := fun _ => fun
  | [d1, d2] => { results := [.lit (.bool false)], args := [d1, d2] }
  | _ => none }
def FairEndsWrongFalsely : Prop := fairEndsRow.holds Tryz.pinned (OpenSpec.ofChange fairEndsWrong)

/-- 'anlaw12.FairDone': WHATEVER THE INPUT: true; the input reads as it did. -/
def fairDoneSpec : ChangeSpec := { name := "fairDone", fn := fun _ => fun
  | [d1, d2] => { results := [.lit (.bool true)], args := [d1, d2] }
  | _ => none }
def fairDoneRow : OpenClaim := { program := "ytocnmkefmgmkbaagreat", sum := "9818190fc583710d7bc8f60b589adc80aeda6b0d22460e4823d8436679be07d2", func := "allornone/anlaw12.FairDone", spec := "fairDone", unfollowed := true, recurses := true, plainKeys := false, apart := false }
def FairDoneSaid : Prop := fairDoneRow.holds Tryz.pinned (OpenSpec.ofChange fairDoneSpec)

/-- ITS FALSE NEIGHBOUR: 'it returns false'. Refute it at one input. -/
def fairDoneWrong : ChangeSpec := { name := "fairDone", fn := fun _ => fun
  | [d1, d2] => { results := [.lit (.bool false)], args := [d1, d2] }
  | _ => none }
def FairDoneWrongFalsely : Prop := fairDoneRow.holds Tryz.pinned (OpenSpec.ofChange fairDoneWrong)

/-- 'anlaw12.FairEven': WHATEVER THE INPUT: true; the input reads as it did. -/
def fairEvenSpec : ChangeSpec := { name := "fairEven", fn := fun _ => fun
  | [d1, d2] => { results := [.lit (.bool true)], args := [d1, d2] }
  | _ => none }
def fairEvenRow : OpenClaim := { program := "ytocnmkefmgmkbaagreat", sum := "9818190fc583710d7bc8f60b589adc80aeda6b0d22460e4823d8436679be07d2", func := "allornone/anlaw12.FairEven", spec := "fairEven", unfollowed := true, recurses := true, plainKeys := false, apart := false }
def FairEvenSaid : Prop := fairEvenRow.holds Tryz.pinned (OpenSpec.ofChange fairEvenSpec)

/-- ITS FALSE NEIGHBOUR: 'it returns false'. Refute it at one input. -/
def fairEvenWrong : ChangeSpec := { name := "fairEven", fn := fun _ => fun
  | [d1, d2] => { results := [.lit (.bool false)], args := [d1, d2] }
  | _ => none }
def FairEvenWrongFalsely : Prop := fairEvenRow.holds Tryz.pinned (OpenSpec.ofChange fairEvenWrong)

/- THE SECOND FORM. 'bulk': how many values and letters a reading holds, each counted each time it is reached (what is shared counts as often as it is met; a slice's spare places count too). A statement '..UptoSaid' is the law's where the arguments, and the package variables that the reading takes, are together of bulk at most 1048576: NARROWER than '..Said'. Prove '..Said' where nothing that the law and all that it calls make is longer than what came in: it says more and counts as full. Else prove '..UptoSaid'. A law counts once. -/
mutual
def uptoBulk {H : Type} : DataW H → Nat
  | .lit (.string bytes) => bytes.length + 1
  | .lit _ => 1
  | .nil => 1
  | .ptr d => uptoBulk d + 1
  | .slice elems spare => uptoBulkAll elems + uptoBulkAll spare + 1
  | .agg parts => uptoBulkAll parts + 1
  | .iface _ d => uptoBulk d + 1
  | .map entries => uptoBulkEntries entries + 1
  | .held _ => 1
def uptoBulkAll {H : Type} : List (DataW H) → Nat
  | [] => 0
  | d :: r => uptoBulk d + uptoBulkAll r
def uptoBulkEntries {H : Type} : List (Lit × DataW H) → Nat
  | [] => 0
  | x :: r => uptoBulkEntry x + uptoBulkEntries r
def uptoBulkEntry {H : Type} : Lit × DataW H → Nat
  | (.string bytes, d) => bytes.length + uptoBulk d + 1
  | (_, d) => uptoBulk d + 1
 end
def uptoSmall : (H : Type) → List (DataW H) → Bool := fun _ ds => decide (uptoBulkAll ds ≤ 1048576)
def OpenSpec.upto (s : _root_.Go.ChangeSpec) : _root_.Go.OpenSpec := { _root_.Go.OpenSpec.ofChange s with cond := some uptoSmall }

/-- 'anlaw10.WorldTells', WHERE WHAT IT READS IS OF BULK AT MOST 1048576: true; the input reads as it did. -/
def worldTellsUptoRow : OpenClaim := { program := "ytocnmkefmgmkbaagreat", sum := "9818190fc583710d7bc8f60b589adc80aeda6b0d22460e4823d8436679be07d2", func := "allornone/anlaw10.WorldTells", spec := "worldTells", unfollowed := true, recurses := true, plainKeys := false, apart := false, narrowed := true }
def WorldTellsUptoSaid : Prop := worldTellsUptoRow.holds Tryz.pinned (OpenSpec.upto worldTellsSpec)

/-- 'anlaw10.WorldWhole', WHERE WHAT IT READS IS OF BULK AT MOST 1048576: true; the input reads as it did. -/
def worldWholeUptoRow : OpenClaim := { program := "ytocnmkefmgmkbaagreat", sum := "9818190fc583710d7bc8f60b589adc80aeda6b0d22460e4823d8436679be07d2", func := "allornone/anlaw10.WorldWhole", spec := "worldWhole", unfollowed := true, recurses := true, plainKeys := false, apart := false, narrowed := true }
def WorldWholeUptoSaid : Prop := worldWholeUptoRow.holds Tryz.pinned (OpenSpec.upto worldWholeSpec)

/-- 'anlaw10.WorldOnce', WHERE WHAT IT READS IS OF BULK AT MOST 1048576: true; the input reads as it did. -/
def worldOnceUptoRow : OpenClaim := { program := "ytocnmkefmgmkbaagreat", sum := "9818190fc583710d7bc8f60b589adc80aeda6b0d22460e4823d8436679be07d2", func := "allornone/anlaw10.WorldOnce", spec := "worldOnce", unfollowed := true, recurses := true, plainKeys := false, apart := false, narrowed := true }
def WorldOnceUptoSaid : Prop := worldOnceUptoRow.holds Tryz.pinned (OpenSpec.upto worldOnceSpec)

/-- 'anlaw10.WorldLasts', WHERE WHAT IT READS IS OF BULK AT MOST 1048576: true; the input reads as it did. -/
def worldLastsUptoRow : OpenClaim := { program := "ytocnmkefmgmkbaagreat", sum := "9818190fc583710d7bc8f60b589adc80aeda6b0d22460e4823d8436679be07d2", func := "allornone/anlaw10.WorldLasts", spec := "worldLasts", unfollowed := true, recurses := true, plainKeys := false, apart := false, narrowed := true }
def WorldLastsUptoSaid : Prop := worldLastsUptoRow.holds Tryz.pinned (OpenSpec.upto worldLastsSpec)

/-- 'anlaw12.FairTells', WHERE WHAT IT READS IS OF BULK AT MOST 1048576: true; the input reads as it did. -/
def fairTellsUptoRow : OpenClaim := { program := "ytocnmkefmgmkbaagreat", sum := "9818190fc583710d7bc8f60b589adc80aeda6b0d22460e4823d8436679be07d2", func := "allornone/anlaw12.FairTells", spec := "fairTells", unfollowed := true, recurses := true, plainKeys := false, apart := false, narrowed := true }
def FairTellsUptoSaid : Prop := fairTellsUptoRow.holds Tryz.pinned (OpenSpec.upto fairTellsSpec)

/-- 'anlaw12.FairEnds', WHERE WHAT IT READS IS OF BULK AT MOST 1048576: true; the input reads as it did. -/
def fairEndsUptoRow : OpenClaim := { program := "ytocnmkefmgmkbaagreat", sum := "9818190fc583710d7bc8f60b589adc80aeda6b0d22460e4823d8436679be07d2", func := "allornone/anlaw12.FairEnds", spec := "fairEnds", unfollowed := true, recurses := true, plainKeys := false, apart := false, narrowed := true }
def FairEndsUptoSaid : Prop := fairEndsUptoRow.holds Tryz.pinned (OpenSpec.upto fairEndsSpec)

/-- 'anlaw12.FairDone', WHERE WHAT IT READS IS OF BULK AT MOST 1048576: true; the input reads as it did. -/
def fairDoneUptoRow : OpenClaim := { program := "ytocnmkefmgmkbaagreat", sum := "9818190fc583710d7bc8f60b589adc80aeda6b0d22460e4823d8436679be07d2", func := "allornone/anlaw12.FairDone", spec := "fairDone", unfollowed := true, recurses := true, plainKeys := false, apart := false, narrowed := true }
def FairDoneUptoSaid : Prop := fairDoneUptoRow.holds Tryz.pinned (OpenSpec.upto fairDoneSpec)

/-- 'anlaw12.FairEven', WHERE WHAT IT READS IS OF BULK AT MOST 1048576: true; the input reads as it did. -/
def fairEvenUptoRow : OpenClaim := { program := "ytocnmkefmgmkbaagreat", sum := "9818190fc583710d7bc8f60b589adc80aeda6b0d22460e4823d8436679be07d2", func := "allornone/anlaw12.FairEven", spec := "fairEven", unfollowed := true, recurses := true, plainKeys := false, apart := false, narrowed := true }
def FairEvenUptoSaid : Prop := fairEvenUptoRow.holds Tryz.pinned (OpenSpec.upto fairEvenSpec)

end Rows
end Go.Proofs.YtocnmkefmgmkbaaGreat
