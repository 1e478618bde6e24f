/-
  No cell of these rows narrows 'for every input' (looked for: loops, veiled, ifaces, maps, wideKeys, modest, calm, conditions, laid).
  DERIVED. THE GIVEN ROWS OF THIS SEAT. 12 by the template 'for every input the law returns true; each argument reads behind the call as it read before'; 0 by the template 'total and deterministic' (their statements: YtagihpbpblnnoaaGreatTotals.lean).
  GIVEN WITH THE SEED: the statements are not yours to turn. If you find one false, say at which input.
  Laid BY PROGRAM, IN A SANDBOX (cutbox-rows.mjs): the forced cells as the released guide's own fill.sh prints them over the translation 80d72171b414ea67… (all of the seat's roots in one cut). By AI agents, Wed Nov 11 2026. No macro, syntax, notation, axiom, sorry.
-/
import Derived.Test.YtagihpbpblnnoaaGreatChecked
import GoSem.Claim
import GoSem.ClaimJoined
import GoSem.ClaimMapViews
import Derived.JoinedTies
import Derived.KernelRfl
namespace Go.Proofs.YtagihpbpblnnoaaGreat
/- THE CELL 'sum', in the pinned program and in every row, IS THE sha256 OF THE DUMP (.gsa) THAT YtagihpbpblnnoaaGreatProg.lean LOADS. Nothing in Lean hashes anything: it is a label: what it is worth is what the hold of that sum in a sandbox is worth. -/
noncomputable def Tryz.pinned : Pinned := { name := "ytagihpbpblnnoaagreat", sum := "80d72171b414ea671835244a4e15dc9a756534a4bf6cac9a5f69b8110e5b7f69", checked := Tryz.checked }
namespace Rows
def none {H : Type} : Left H := { results := [], args := [] }

/-- 'laws.FnHostelOne': WHATEVER THE INPUT: true; the input reads as it did. -/
def fnHostelOneSpec : ChangeSpec := { name := "fnHostelOne", fn := fun _ => fun
  | [d1, d2] => { results := [.lit (.bool true)], args := [d1, d2] }
  | _ => none }
def fnHostelOneRow : OpenClaim := { program := "ytagihpbpblnnoaagreat", sum := "80d72171b414ea671835244a4e15dc9a756534a4bf6cac9a5f69b8110e5b7f69", func := "loop.example/hostel/laws.FnHostelOne", spec := "fnHostelOne", inPlace := ["slices.overlaps[int]"], unfollowed := true, recurses := true, apart := false }
def FnHostelOneSaid : Prop := fnHostelOneRow.holds Tryz.pinned (OpenSpec.ofChange fnHostelOneSpec)

/-- ITS FALSE NEIGHBOUR: 'it returns false'. Refute it at one input. -/
def fnHostelOneWrong : ChangeSpec := { name := "fnHostelOne", fn := fun _ => fun
  | [d1, d2] => { results := [.lit (.bool false)], args := [d1, d2] }
  | _ => none }
def FnHostelOneWrongFalsely : Prop := fnHostelOneRow.holds Tryz.pinned (OpenSpec.ofChange fnHostelOneWrong)

/-- 'laws.FnTermFence': WHATEVER THE INPUT: true; the input reads as it did. -/
def fnTermFenceSpec : ChangeSpec := { name := "fnTermFence", fn := fun _ => fun
  | [d] => { results := [.lit (.bool true)], args := [d] }
  | _ => none }
def fnTermFenceRow : OpenClaim := { program := "ytagihpbpblnnoaagreat", sum := "80d72171b414ea671835244a4e15dc9a756534a4bf6cac9a5f69b8110e5b7f69", func := "loop.example/hostel/laws.FnTermFence", spec := "fnTermFence", inPlace := ["slices.overlaps[int]"], unfollowed := true, recurses := true, apart := false }
def FnTermFenceSaid : Prop := fnTermFenceRow.holds Tryz.pinned (OpenSpec.ofChange fnTermFenceSpec)

/-- ITS FALSE NEIGHBOUR: 'it returns false'. Refute it at one input. -/
def fnTermFenceWrong : ChangeSpec := { name := "fnTermFence", fn := fun _ => fun
  | [d] => { results := [.lit (.bool false)], args := [d] }
  | _ => none }
def FnTermFenceWrongFalsely : Prop := fnTermFenceRow.holds Tryz.pinned (OpenSpec.ofChange fnTermFenceWrong)

/-- 'laws.FnForkNext': WHATEVER THE INPUT: true; the input reads as it did. -/
def fnForkNextSpec : ChangeSpec := { name := "fnForkNext", fn := fun _ => fun
  | [d] => { results := [.lit (.bool true)], args := [d] }
  | _ => none }
def fnForkNextRow : OpenClaim := { program := "ytagihpbpblnnoaagreat", sum := "80d72171b414ea671835244a4e15dc9a756534a4bf6cac9a5f69b8110e5b7f69", func := "loop.example/hostel/laws.FnForkNext", spec := "fnForkNext", inPlace := ["slices.overlaps[int]"], unfollowed := true, recurses := true, apart := false }
def FnForkNextSaid : Prop := fnForkNextRow.holds Tryz.pinned (OpenSpec.ofChange fnForkNextSpec)

/-- ITS FALSE NEIGHBOUR: 'it returns false'. Refute it at one input. -/
def fnForkNextWrong : ChangeSpec := { name := "fnForkNext", fn := fun _ => fun
  | [d] => { results := [.lit (.bool false)], args := [d] }
  | _ => none }
def FnForkNextWrongFalsely : Prop := fnForkNextRow.holds Tryz.pinned (OpenSpec.ofChange fnForkNextWrong)

/-- 'laws.FnRoundNone': WHATEVER THE INPUT: true; the input reads as it did. -/
def fnRoundNoneSpec : ChangeSpec := { name := "fnRoundNone", fn := fun _ => fun
  | [d1, d2] => { results := [.lit (.bool true)], args := [d1, d2] }
  | _ => none }
def fnRoundNoneRow : OpenClaim := { program := "ytagihpbpblnnoaagreat", sum := "80d72171b414ea671835244a4e15dc9a756534a4bf6cac9a5f69b8110e5b7f69", func := "loop.example/hostel/laws.FnRoundNone", spec := "fnRoundNone", inPlace := ["slices.overlaps[int]"], unfollowed := true, recurses := true, apart := false }
def FnRoundNoneSaid : Prop := fnRoundNoneRow.holds Tryz.pinned (OpenSpec.ofChange fnRoundNoneSpec)

/-- ITS FALSE NEIGHBOUR: 'it returns false'. Refute it at one input. -/
def fnRoundNoneWrong : ChangeSpec := { name := "fnRoundNone", fn := fun _ => fun
  | [d1, d2] => { results := [.lit (.bool false)], args := [d1, d2] }
  | _ => none }
def FnRoundNoneWrongFalsely : Prop := fnRoundNoneRow.holds Tryz.pinned (OpenSpec.ofChange fnRoundNoneWrong)

/-- 'laws.FnHostelStamps': WHATEVER THE INPUT: true; the input reads as it did. -/
def fnHostelStampsSpec : ChangeSpec := { name := "fnHostelStamps", fn := fun _ => fun
  | [d] => { results := [.lit (.bool true)], args := [d] }
  | _ => none }
def fnHostelStampsRow : OpenClaim := { program := "ytagihpbpblnnoaagreat", sum := "80d72171b414ea671835244a4e15dc9a756534a4bf6cac9a5f69b8110e5b7f69", func := "loop.example/hostel/laws.FnHostelStamps", spec := "fnHostelStamps", inPlace := ["slices.overlaps[int]"], unfollowed := true, recurses := true, apart := false }
def FnHostelStampsSaid : Prop := fnHostelStampsRow.holds Tryz.pinned (OpenSpec.ofChange fnHostelStampsSpec)

/-- ITS FALSE NEIGHBOUR: 'it returns false'. Refute it at one input. -/
def fnHostelStampsWrong : ChangeSpec := { name := "fnHostelStamps", fn := fun _ => fun
  | [d] => { results := [.lit (.bool false)], args := [d] }
  | _ => none }
def FnHostelStampsWrongFalsely : Prop := fnHostelStampsRow.holds Tryz.pinned (OpenSpec.ofChange fnHostelStampsWrong)

/-- 'laws.FnHostelSolo': WHATEVER THE INPUT: true; the input reads as it did. -/
def fnHostelSoloSpec : ChangeSpec := { name := "fnHostelSolo", fn := fun _ => fun
  | [d] => { results := [.lit (.bool true)], args := [d] }
  | _ => none }
def fnHostelSoloRow : OpenClaim := { program := "ytagihpbpblnnoaagreat", sum := "80d72171b414ea671835244a4e15dc9a756534a4bf6cac9a5f69b8110e5b7f69", func := "loop.example/hostel/laws.FnHostelSolo", spec := "fnHostelSolo", inPlace := ["slices.overlaps[int]"], unfollowed := true, recurses := true, apart := false }
def FnHostelSoloSaid : Prop := fnHostelSoloRow.holds Tryz.pinned (OpenSpec.ofChange fnHostelSoloSpec)

/-- ITS FALSE NEIGHBOUR: 'it returns false'. Refute it at one input. -/
def fnHostelSoloWrong : ChangeSpec := { name := "fnHostelSolo", fn := fun _ => fun
  | [d] => { results := [.lit (.bool false)], args := [d] }
  | _ => none }
def FnHostelSoloWrongFalsely : Prop := fnHostelSoloRow.holds Tryz.pinned (OpenSpec.ofChange fnHostelSoloWrong)

/-- 'laws.FnSoloOthers': WHATEVER THE INPUT: true; the input reads as it did. -/
def fnSoloOthersSpec : ChangeSpec := { name := "fnSoloOthers", fn := fun _ => fun
  | [d] => { results := [.lit (.bool true)], args := [d] }
  | _ => none }
def fnSoloOthersRow : OpenClaim := { program := "ytagihpbpblnnoaagreat", sum := "80d72171b414ea671835244a4e15dc9a756534a4bf6cac9a5f69b8110e5b7f69", func := "loop.example/hostel/laws.FnSoloOthers", spec := "fnSoloOthers", inPlace := ["slices.overlaps[int]"], unfollowed := true, recurses := true, apart := false }
def FnSoloOthersSaid : Prop := fnSoloOthersRow.holds Tryz.pinned (OpenSpec.ofChange fnSoloOthersSpec)

/-- ITS FALSE NEIGHBOUR: 'it returns false'. Refute it at one input. -/
def fnSoloOthersWrong : ChangeSpec := { name := "fnSoloOthers", fn := fun _ => fun
  | [d] => { results := [.lit (.bool false)], args := [d] }
  | _ => none }
def FnSoloOthersWrongFalsely : Prop := fnSoloOthersRow.holds Tryz.pinned (OpenSpec.ofChange fnSoloOthersWrong)

/-- 'laws.FnGuestOk': WHATEVER THE INPUT: true; the input reads as it did. -/
def fnGuestOkSpec : ChangeSpec := { name := "fnGuestOk", fn := fun _ => fun
  | [d] => { results := [.lit (.bool true)], args := [d] }
  | _ => none }
def fnGuestOkRow : OpenClaim := { program := "ytagihpbpblnnoaagreat", sum := "80d72171b414ea671835244a4e15dc9a756534a4bf6cac9a5f69b8110e5b7f69", func := "loop.example/hostel/laws.FnGuestOk", spec := "fnGuestOk", inPlace := ["slices.overlaps[int]"], unfollowed := true, recurses := true, apart := false }
def FnGuestOkSaid : Prop := fnGuestOkRow.holds Tryz.pinned (OpenSpec.ofChange fnGuestOkSpec)

/-- ITS FALSE NEIGHBOUR: 'it returns false'. Refute it at one input. -/
def fnGuestOkWrong : ChangeSpec := { name := "fnGuestOk", fn := fun _ => fun
  | [d] => { results := [.lit (.bool false)], args := [d] }
  | _ => none }
def FnGuestOkWrongFalsely : Prop := fnGuestOkRow.holds Tryz.pinned (OpenSpec.ofChange fnGuestOkWrong)

/-- 'laws.FnGuestWhere': WHATEVER THE INPUT: true; the input reads as it did. -/
def fnGuestWhereSpec : ChangeSpec := { name := "fnGuestWhere", fn := fun _ => fun
  | [d] => { results := [.lit (.bool true)], args := [d] }
  | _ => none }
def fnGuestWhereRow : OpenClaim := { program := "ytagihpbpblnnoaagreat", sum := "80d72171b414ea671835244a4e15dc9a756534a4bf6cac9a5f69b8110e5b7f69", func := "loop.example/hostel/laws.FnGuestWhere", spec := "fnGuestWhere", inPlace := ["slices.overlaps[int]"], unfollowed := true, recurses := true, apart := false }
def FnGuestWhereSaid : Prop := fnGuestWhereRow.holds Tryz.pinned (OpenSpec.ofChange fnGuestWhereSpec)

/-- ITS FALSE NEIGHBOUR: 'it returns false'. Refute it at one input. -/
def fnGuestWhereWrong : ChangeSpec := { name := "fnGuestWhere", fn := fun _ => fun
  | [d] => { results := [.lit (.bool false)], args := [d] }
  | _ => none }
def FnGuestWhereWrongFalsely : Prop := fnGuestWhereRow.holds Tryz.pinned (OpenSpec.ofChange fnGuestWhereWrong)

/-- 'laws.FnWorldDead': WHATEVER THE INPUT: true; the input reads as it did. -/
def fnWorldDeadSpec : ChangeSpec := { name := "fnWorldDead", fn := fun _ => fun
  | [d1, d2] => { results := [.lit (.bool true)], args := [d1, d2] }
  | _ => none }
def fnWorldDeadRow : OpenClaim := { program := "ytagihpbpblnnoaagreat", sum := "80d72171b414ea671835244a4e15dc9a756534a4bf6cac9a5f69b8110e5b7f69", func := "loop.example/hostel/laws.FnWorldDead", spec := "fnWorldDead", inPlace := ["slices.overlaps[int]"], unfollowed := true, recurses := true, apart := false }
def FnWorldDeadSaid : Prop := fnWorldDeadRow.holds Tryz.pinned (OpenSpec.ofChange fnWorldDeadSpec)

/-- ITS FALSE NEIGHBOUR: 'it returns false'. Refute it at one input. -/
def fnWorldDeadWrong : ChangeSpec := { name := "fnWorldDead", fn := fun _ => fun
  | [d1, d2] => { results := [.lit (.bool false)], args := [d1, d2] }
  | _ => none }
def FnWorldDeadWrongFalsely : Prop := fnWorldDeadRow.holds Tryz.pinned (OpenSpec.ofChange fnWorldDeadWrong)

/-- 'laws.FnWorldBorn': WHATEVER THE INPUT: true; the input reads as it did. -/
def fnWorldBornSpec : ChangeSpec := { name := "fnWorldBorn", fn := fun _ => fun
  | [d1, d2] => { results := [.lit (.bool true)], args := [d1, d2] }
  | _ => none }
def fnWorldBornRow : OpenClaim := { program := "ytagihpbpblnnoaagreat", sum := "80d72171b414ea671835244a4e15dc9a756534a4bf6cac9a5f69b8110e5b7f69", func := "loop.example/hostel/laws.FnWorldBorn", spec := "fnWorldBorn", inPlace := ["slices.overlaps[int]"], unfollowed := true, recurses := true, apart := false }
def FnWorldBornSaid : Prop := fnWorldBornRow.holds Tryz.pinned (OpenSpec.ofChange fnWorldBornSpec)

/-- ITS FALSE NEIGHBOUR: 'it returns false'. Refute it at one input. -/
def fnWorldBornWrong : ChangeSpec := { name := "fnWorldBorn", fn := fun _ => fun
  | [d1, d2] => { results := [.lit (.bool false)], args := [d1, d2] }
  | _ => none }
def FnWorldBornWrongFalsely : Prop := fnWorldBornRow.holds Tryz.pinned (OpenSpec.ofChange fnWorldBornWrong)

/-- 'laws.FnCostMost': WHATEVER THE INPUT: true; the input reads as it did. -/
def fnCostMostSpec : ChangeSpec := { name := "fnCostMost", fn := fun _ => fun
  | [d] => { results := [.lit (.bool true)], args := [d] }
  | _ => none }
def fnCostMostRow : OpenClaim := { program := "ytagihpbpblnnoaagreat", sum := "80d72171b414ea671835244a4e15dc9a756534a4bf6cac9a5f69b8110e5b7f69", func := "loop.example/hostel/laws.FnCostMost", spec := "fnCostMost", inPlace := ["slices.overlaps[int]"], unfollowed := true, recurses := true, apart := false }
def FnCostMostSaid : Prop := fnCostMostRow.holds Tryz.pinned (OpenSpec.ofChange fnCostMostSpec)

/-- ITS FALSE NEIGHBOUR: 'it returns false'. Refute it at one input. -/
def fnCostMostWrong : ChangeSpec := { name := "fnCostMost", fn := fun _ => fun
  | [d] => { results := [.lit (.bool false)], args := [d] }
  | _ => none }
def FnCostMostWrongFalsely : Prop := fnCostMostRow.holds Tryz.pinned (OpenSpec.ofChange fnCostMostWrong)

/- THE SECOND FORM. 'bulk': how many values and letters a reading holds, each counted each time it is reached (what is shared counts as often as it is met; a slice's spare places count too). A statement '..UptoSaid' is the law's where the arguments, and the package variables that the reading takes, are together of bulk at most 1048576: NARROWER than '..Said'. Prove '..Said' where nothing that the law and all that it calls make is longer than what came in: it says more and counts as full. Else prove '..UptoSaid'. A law counts once. -/
mutual
def uptoBulk {H : Type} : DataW H → Nat
  | .lit (.string bytes) => bytes.length + 1
  | .lit _ => 1
  | .nil => 1
  | .ptr d => uptoBulk d + 1
  | .slice elems spare => uptoBulkAll elems + uptoBulkAll spare + 1
  | .agg parts => uptoBulkAll parts + 1
  | .iface _ d => uptoBulk d + 1
  | .map entries => uptoBulkEntries entries + 1
  | .held _ => 1
def uptoBulkAll {H : Type} : List (DataW H) → Nat
  | [] => 0
  | d :: r => uptoBulk d + uptoBulkAll r
def uptoBulkEntries {H : Type} : List (Lit × DataW H) → Nat
  | [] => 0
  | x :: r => uptoBulkEntry x + uptoBulkEntries r
def uptoBulkEntry {H : Type} : Lit × DataW H → Nat
  | (.string bytes, d) => bytes.length + uptoBulk d + 1
  | (_, d) => uptoBulk d + 1
 end
def uptoSmall : (H : Type) → List (DataW H) → Bool := fun _ ds => decide (uptoBulkAll ds ≤ 1048576)
def OpenSpec.upto (s : _root_.Go.ChangeSpec) : _root_.Go.OpenSpec := { _root_.Go.OpenSpec.ofChange s with cond := some uptoSmall }

/-- 'laws.FnHostelOne', WHERE WHAT IT READS IS OF BULK AT MOST 1048576: true; the input reads as it did. -/
def fnHostelOneUptoRow : OpenClaim := { program := "ytagihpbpblnnoaagreat", sum := "80d72171b414ea671835244a4e15dc9a756534a4bf6cac9a5f69b8110e5b7f69", func := "loop.example/hostel/laws.FnHostelOne", spec := "fnHostelOne", inPlace := ["slices.overlaps[int]"], unfollowed := true, recurses := true, apart := false, narrowed := true }
def FnHostelOneUptoSaid : Prop := fnHostelOneUptoRow.holds Tryz.pinned (OpenSpec.upto fnHostelOneSpec)

/-- 'laws.FnTermFence', WHERE WHAT IT READS IS OF BULK AT MOST 1048576: true; the input reads as it did. -/
def fnTermFenceUptoRow : OpenClaim := { program := "ytagihpbpblnnoaagreat", sum := "80d72171b414ea671835244a4e15dc9a756534a4bf6cac9a5f69b8110e5b7f69", func := "loop.example/hostel/laws.FnTermFence", spec := "fnTermFence", inPlace := ["slices.overlaps[int]"], unfollowed := true, recurses := true, apart := false, narrowed := true }
def FnTermFenceUptoSaid : Prop := fnTermFenceUptoRow.holds Tryz.pinned (OpenSpec.upto fnTermFenceSpec)

/-- 'laws.FnForkNext', WHERE WHAT IT READS IS OF BULK AT MOST 1048576: true; the input reads as it did. -/
def fnForkNextUptoRow : OpenClaim := { program := "ytagihpbpblnnoaagreat", sum := "80d72171b414ea671835244a4e15dc9a756534a4bf6cac9a5f69b8110e5b7f69", func := "loop.example/hostel/laws.FnForkNext", spec := "fnForkNext", inPlace := ["slices.overlaps[int]"], unfollowed := true, recurses := true, apart := false, narrowed := true }
def FnForkNextUptoSaid : Prop := fnForkNextUptoRow.holds Tryz.pinned (OpenSpec.upto fnForkNextSpec)

/-- 'laws.FnRoundNone', WHERE WHAT IT READS IS OF BULK AT MOST 1048576: true; the input reads as it did. -/
def fnRoundNoneUptoRow : OpenClaim := { program := "ytagihpbpblnnoaagreat", sum := "80d72171b414ea671835244a4e15dc9a756534a4bf6cac9a5f69b8110e5b7f69", func := "loop.example/hostel/laws.FnRoundNone", spec := "fnRoundNone", inPlace := ["slices.overlaps[int]"], unfollowed := true, recurses := true, apart := false, narrowed := true }
def FnRoundNoneUptoSaid : Prop := fnRoundNoneUptoRow.holds Tryz.pinned (OpenSpec.upto fnRoundNoneSpec)

/-- 'laws.FnHostelStamps', WHERE WHAT IT READS IS OF BULK AT MOST 1048576: true; the input reads as it did. -/
def fnHostelStampsUptoRow : OpenClaim := { program := "ytagihpbpblnnoaagreat", sum := "80d72171b414ea671835244a4e15dc9a756534a4bf6cac9a5f69b8110e5b7f69", func := "loop.example/hostel/laws.FnHostelStamps", spec := "fnHostelStamps", inPlace := ["slices.overlaps[int]"], unfollowed := true, recurses := true, apart := false, narrowed := true }
def FnHostelStampsUptoSaid : Prop := fnHostelStampsUptoRow.holds Tryz.pinned (OpenSpec.upto fnHostelStampsSpec)

/-- 'laws.FnHostelSolo', WHERE WHAT IT READS IS OF BULK AT MOST 1048576: true; the input reads as it did. -/
def fnHostelSoloUptoRow : OpenClaim := { program := "ytagihpbpblnnoaagreat", sum := "80d72171b414ea671835244a4e15dc9a756534a4bf6cac9a5f69b8110e5b7f69", func := "loop.example/hostel/laws.FnHostelSolo", spec := "fnHostelSolo", inPlace := ["slices.overlaps[int]"], unfollowed := true, recurses := true, apart := false, narrowed := true }
def FnHostelSoloUptoSaid : Prop := fnHostelSoloUptoRow.holds Tryz.pinned (OpenSpec.upto fnHostelSoloSpec)

/-- 'laws.FnSoloOthers', WHERE WHAT IT READS IS OF BULK AT MOST 1048576: true; the input reads as it did. -/
def fnSoloOthersUptoRow : OpenClaim := { program := "ytagihpbpblnnoaagreat", sum := "80d72171b414ea671835244a4e15dc9a756534a4bf6cac9a5f69b8110e5b7f69", func := "loop.example/hostel/laws.FnSoloOthers", spec := "fnSoloOthers", inPlace := ["slices.overlaps[int]"], unfollowed := true, recurses := true, apart := false, narrowed := true }
def FnSoloOthersUptoSaid : Prop := fnSoloOthersUptoRow.holds Tryz.pinned (OpenSpec.upto fnSoloOthersSpec)

/-- 'laws.FnGuestOk', WHERE WHAT IT READS IS OF BULK AT MOST 1048576: true; the input reads as it did. -/
def fnGuestOkUptoRow : OpenClaim := { program := "ytagihpbpblnnoaagreat", sum := "80d72171b414ea671835244a4e15dc9a756534a4bf6cac9a5f69b8110e5b7f69", func := "loop.example/hostel/laws.FnGuestOk", spec := "fnGuestOk", inPlace := ["slices.overlaps[int]"], unfollowed := true, recurses := true, apart := false, narrowed := true }
def FnGuestOkUptoSaid : Prop := fnGuestOkUptoRow.holds Tryz.pinned (OpenSpec.upto fnGuestOkSpec)

/-- 'laws.FnGuestWhere', WHERE WHAT IT READS IS OF BULK AT MOST 1048576: true; the input reads as it did. -/
def fnGuestWhereUptoRow : OpenClaim := { program := "ytagihpbpblnnoaagreat", sum := "80d72171b414ea671835244a4e15dc9a756534a4bf6cac9a5f69b8110e5b7f69", func := "loop.example/hostel/laws.FnGuestWhere", spec := "fnGuestWhere", inPlace := ["slices.overlaps[int]"], unfollowed := true, recurses := true, apart := false, narrowed := true }
def FnGuestWhereUptoSaid : Prop := fnGuestWhereUptoRow.holds Tryz.pinned (OpenSpec.upto fnGuestWhereSpec)

/-- 'laws.FnWorldDead', WHERE WHAT IT READS IS OF BULK AT MOST 1048576: true; the input reads as it did. -/
def fnWorldDeadUptoRow : OpenClaim := { program := "ytagihpbpblnnoaagreat", sum := "80d72171b414ea671835244a4e15dc9a756534a4bf6cac9a5f69b8110e5b7f69", func := "loop.example/hostel/laws.FnWorldDead", spec := "fnWorldDead", inPlace := ["slices.overlaps[int]"], unfollowed := true, recurses := true, apart := false, narrowed := true }
def FnWorldDeadUptoSaid : Prop := fnWorldDeadUptoRow.holds Tryz.pinned (OpenSpec.upto fnWorldDeadSpec)

/-- 'laws.FnWorldBorn', WHERE WHAT IT READS IS OF BULK AT MOST 1048576: true; the input reads as it did. -/
def fnWorldBornUptoRow : OpenClaim := { program := "ytagihpbpblnnoaagreat", sum := "80d72171b414ea671835244a4e15dc9a756534a4bf6cac9a5f69b8110e5b7f69", func := "loop.example/hostel/laws.FnWorldBorn", spec := "fnWorldBorn", inPlace := ["slices.overlaps[int]"], unfollowed := true, recurses := true, apart := false, narrowed := true }
def FnWorldBornUptoSaid : Prop := fnWorldBornUptoRow.holds Tryz.pinned (OpenSpec.upto fnWorldBornSpec)

/-- 'laws.FnCostMost', WHERE WHAT IT READS IS OF BULK AT MOST 1048576: true; the input reads as it did. -/
def fnCostMostUptoRow : OpenClaim := { program := "ytagihpbpblnnoaagreat", sum := "80d72171b414ea671835244a4e15dc9a756534a4bf6cac9a5f69b8110e5b7f69", func := "loop.example/hostel/laws.FnCostMost", spec := "fnCostMost", inPlace := ["slices.overlaps[int]"], unfollowed := true, recurses := true, apart := false, narrowed := true }
def FnCostMostUptoSaid : Prop := fnCostMostUptoRow.holds Tryz.pinned (OpenSpec.upto fnCostMostSpec)

end Rows
end Go.Proofs.YtagihpbpblnnoaaGreat
