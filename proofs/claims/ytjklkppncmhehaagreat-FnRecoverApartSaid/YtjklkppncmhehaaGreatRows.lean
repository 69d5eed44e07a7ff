/-
  No cell of these rows narrows 'for every input' (looked for: loops, veiled, ifaces, maps, wideKeys, modest, calm, conditions, laid).
  DERIVED. THE GIVEN ROWS OF THIS SEAT. 10 by the template 'for every input the law returns true; each argument reads behind the call as it read before'; 0 by the template 'total and deterministic' (their statements: YtjklkppncmhehaaGreatTotals.lean).
  GIVEN WITH THE SEED: the statements are not yours to turn. If you find one false, say at which input.
  Laid BY PROGRAM, IN A SANDBOX (cutbox-rows.mjs): the forced cells as the released guide's own fill.sh prints them over the translation 62ccff44c94d7506… (all of the seat's roots in one cut). By AI agents, Wed Nov 11 2026. No macro, syntax, notation, axiom, sorry.
-/
import Derived.Test.YtjklkppncmhehaaGreatChecked
import GoSem.Claim
import GoSem.ClaimJoined
import GoSem.ClaimMapViews
import Derived.JoinedTies
import Derived.KernelRfl
namespace Go.Proofs.YtjklkppncmhehaaGreat
/- THE CELL 'sum', in the pinned program and in every row, IS THE sha256 OF THE DUMP (.gsa) THAT YtjklkppncmhehaaGreatProg.lean LOADS. Nothing in Lean hashes anything: it is a label: what it is worth is what the hold of that sum in a sandbox is worth. -/
noncomputable def Tryz.pinned : Pinned := { name := "ytjklkppncmhehaagreat", sum := "62ccff44c94d7506f1077d173f88e27164fffb16b825472defe8bb15b68c0298", checked := Tryz.checked }
namespace Rows
def none {H : Type} : Left H := { results := [], args := [] }

/-- 'laws.FnRecoverStamp': WHATEVER THE INPUT: true; the input reads as it did. -/
def fnRecoverStampSpec : ChangeSpec := { name := "fnRecoverStamp", fn := fun _ => fun
  | [d] => { results := [.lit (.bool true)], args := [d] }
  | _ => none }
def fnRecoverStampRow : OpenClaim := { program := "ytjklkppncmhehaagreat", sum := "62ccff44c94d7506f1077d173f88e27164fffb16b825472defe8bb15b68c0298", func := "loop.example/groupmulticast/laws.FnRecoverStamp", spec := "fnRecoverStamp", inPlace := ["(*sync.WaitGroup).Add", "internal/race.ReleaseMerge", "internal/race.Disable", "internal/race.Enable", "internal/synctest.IsInBubble", "internal/synctest.Associate[sync.WaitGroup]", "sync.fatal", "sync/atomic.OrUint64", "sync/atomic.AddUint64", "internal/race.Read", "sync/atomic.LoadUint64", "sync/atomic.StoreUint64", "internal/synctest.Disassociate[sync.WaitGroup]", "sync.runtime_Semrelease", "(*sync.WaitGroup).Done", "(*sync.WaitGroup).Wait", "internal/race.Acquire", "internal/synctest.IsAssociated[sync.WaitGroup]", "sync/atomic.CompareAndSwapUint64", "internal/race.Write", "sync.runtime_SemacquireWaitGroup"], unfollowed := true, recurses := true, leaving := true, apart := false }
def FnRecoverStampSaid : Prop := fnRecoverStampRow.holds Tryz.pinned (OpenSpec.ofChange fnRecoverStampSpec)

/-- ITS FALSE NEIGHBOUR: 'it returns false'. Refute it at one input. -/
def fnRecoverStampWrong : ChangeSpec := { name := "fnRecoverStamp", fn := fun _ => fun
  | [d] => { results := [.lit (.bool false)], args := [d] }
  | _ => none }
def FnRecoverStampWrongFalsely : Prop := fnRecoverStampRow.holds Tryz.pinned (OpenSpec.ofChange fnRecoverStampWrong)

/-- 'laws.FnRecoverStampSame': WHATEVER THE INPUT: true; the input reads as it did. -/
def fnRecoverStampSameSpec : ChangeSpec := { name := "fnRecoverStampSame", fn := fun _ => fun
  | [d] => { results := [.lit (.bool true)], args := [d] }
  | _ => none }
def fnRecoverStampSameRow : OpenClaim := { program := "ytjklkppncmhehaagreat", sum := "62ccff44c94d7506f1077d173f88e27164fffb16b825472defe8bb15b68c0298", func := "loop.example/groupmulticast/laws.FnRecoverStampSame", spec := "fnRecoverStampSame", inPlace := ["(*sync.WaitGroup).Add", "internal/race.ReleaseMerge", "internal/race.Disable", "internal/race.Enable", "internal/synctest.IsInBubble", "internal/synctest.Associate[sync.WaitGroup]", "sync.fatal", "sync/atomic.OrUint64", "sync/atomic.AddUint64", "internal/race.Read", "sync/atomic.LoadUint64", "sync/atomic.StoreUint64", "internal/synctest.Disassociate[sync.WaitGroup]", "sync.runtime_Semrelease", "(*sync.WaitGroup).Done", "(*sync.WaitGroup).Wait", "internal/race.Acquire", "internal/synctest.IsAssociated[sync.WaitGroup]", "sync/atomic.CompareAndSwapUint64", "internal/race.Write", "sync.runtime_SemacquireWaitGroup"], unfollowed := true, recurses := true, leaving := true, apart := false }
def FnRecoverStampSameSaid : Prop := fnRecoverStampSameRow.holds Tryz.pinned (OpenSpec.ofChange fnRecoverStampSameSpec)

/-- ITS FALSE NEIGHBOUR: 'it returns false'. Refute it at one input. -/
def fnRecoverStampSameWrong : ChangeSpec := { name := "fnRecoverStampSame", fn := fun _ => fun
  | [d] => { results := [.lit (.bool false)], args := [d] }
  | _ => none }
def FnRecoverStampSameWrongFalsely : Prop := fnRecoverStampSameRow.holds Tryz.pinned (OpenSpec.ofChange fnRecoverStampSameWrong)

/-- 'laws.FnRecoverAll': WHATEVER THE INPUT: true; the input reads as it did. -/
def fnRecoverAllSpec : ChangeSpec := { name := "fnRecoverAll", fn := fun _ => fun
  | [d] => { results := [.lit (.bool true)], args := [d] }
  | _ => none }
def fnRecoverAllRow : OpenClaim := { program := "ytjklkppncmhehaagreat", sum := "62ccff44c94d7506f1077d173f88e27164fffb16b825472defe8bb15b68c0298", func := "loop.example/groupmulticast/laws.FnRecoverAll", spec := "fnRecoverAll", inPlace := ["(*sync.WaitGroup).Add", "internal/race.ReleaseMerge", "internal/race.Disable", "internal/race.Enable", "internal/synctest.IsInBubble", "internal/synctest.Associate[sync.WaitGroup]", "sync.fatal", "sync/atomic.OrUint64", "sync/atomic.AddUint64", "internal/race.Read", "sync/atomic.LoadUint64", "sync/atomic.StoreUint64", "internal/synctest.Disassociate[sync.WaitGroup]", "sync.runtime_Semrelease", "(*sync.WaitGroup).Done", "(*sync.WaitGroup).Wait", "internal/race.Acquire", "internal/synctest.IsAssociated[sync.WaitGroup]", "sync/atomic.CompareAndSwapUint64", "internal/race.Write", "sync.runtime_SemacquireWaitGroup"], unfollowed := true, recurses := true, leaving := true, apart := false }
def FnRecoverAllSaid : Prop := fnRecoverAllRow.holds Tryz.pinned (OpenSpec.ofChange fnRecoverAllSpec)

/-- ITS FALSE NEIGHBOUR: 'it returns false'. Refute it at one input. -/
def fnRecoverAllWrong : ChangeSpec := { name := "fnRecoverAll", fn := fun _ => fun
  | [d] => { results := [.lit (.bool false)], args := [d] }
  | _ => none }
def FnRecoverAllWrongFalsely : Prop := fnRecoverAllRow.holds Tryz.pinned (OpenSpec.ofChange fnRecoverAllWrong)

/-- 'laws.FnRecoverFail': WHATEVER THE INPUT: true; the input reads as it did. -/
def fnRecoverFailSpec : ChangeSpec := { name := "fnRecoverFail", fn := fun _ => fun
  | [d] => { results := [.lit (.bool true)], args := [d] }
  | _ => none }
def fnRecoverFailRow : OpenClaim := { program := "ytjklkppncmhehaagreat", sum := "62ccff44c94d7506f1077d173f88e27164fffb16b825472defe8bb15b68c0298", func := "loop.example/groupmulticast/laws.FnRecoverFail", spec := "fnRecoverFail", inPlace := ["(*sync.WaitGroup).Add", "internal/race.ReleaseMerge", "internal/race.Disable", "internal/race.Enable", "internal/synctest.IsInBubble", "internal/synctest.Associate[sync.WaitGroup]", "sync.fatal", "sync/atomic.OrUint64", "sync/atomic.AddUint64", "internal/race.Read", "sync/atomic.LoadUint64", "sync/atomic.StoreUint64", "internal/synctest.Disassociate[sync.WaitGroup]", "sync.runtime_Semrelease", "(*sync.WaitGroup).Done", "(*sync.WaitGroup).Wait", "internal/race.Acquire", "internal/synctest.IsAssociated[sync.WaitGroup]", "sync/atomic.CompareAndSwapUint64", "internal/race.Write", "sync.runtime_SemacquireWaitGroup"], unfollowed := true, recurses := true, leaving := true, apart := false }
def FnRecoverFailSaid : Prop := fnRecoverFailRow.holds Tryz.pinned (OpenSpec.ofChange fnRecoverFailSpec)

/-- ITS FALSE NEIGHBOUR: 'it returns false'. Refute it at one input. -/
def fnRecoverFailWrong : ChangeSpec := { name := "fnRecoverFail", fn := fun _ => fun
  | [d] => { results := [.lit (.bool false)], args := [d] }
  | _ => none }
def FnRecoverFailWrongFalsely : Prop := fnRecoverFailRow.holds Tryz.pinned (OpenSpec.ofChange fnRecoverFailWrong)

/-- 'laws.FnRecoverTwice': WHATEVER THE INPUT: true; the input reads as it did. -/
def fnRecoverTwiceSpec : ChangeSpec := { name := "fnRecoverTwice", fn := fun _ => fun
  | [d] => { results := [.lit (.bool true)], args := [d] }
  | _ => none }
def fnRecoverTwiceRow : OpenClaim := { program := "ytjklkppncmhehaagreat", sum := "62ccff44c94d7506f1077d173f88e27164fffb16b825472defe8bb15b68c0298", func := "loop.example/groupmulticast/laws.FnRecoverTwice", spec := "fnRecoverTwice", inPlace := ["(*sync.WaitGroup).Add", "internal/race.ReleaseMerge", "internal/race.Disable", "internal/race.Enable", "internal/synctest.IsInBubble", "internal/synctest.Associate[sync.WaitGroup]", "sync.fatal", "sync/atomic.OrUint64", "sync/atomic.AddUint64", "internal/race.Read", "sync/atomic.LoadUint64", "sync/atomic.StoreUint64", "internal/synctest.Disassociate[sync.WaitGroup]", "sync.runtime_Semrelease", "(*sync.WaitGroup).Done", "(*sync.WaitGroup).Wait", "internal/race.Acquire", "internal/synctest.IsAssociated[sync.WaitGroup]", "sync/atomic.CompareAndSwapUint64", "internal/race.Write", "sync.runtime_SemacquireWaitGroup"], unfollowed := true, recurses := true, leaving := true, apart := false }
def FnRecoverTwiceSaid : Prop := fnRecoverTwiceRow.holds Tryz.pinned (OpenSpec.ofChange fnRecoverTwiceSpec)

/-- ITS FALSE NEIGHBOUR: 'it returns false'. Refute it at one input. -/
def fnRecoverTwiceWrong : ChangeSpec := { name := "fnRecoverTwice", fn := fun _ => fun
  | [d] => { results := [.lit (.bool false)], args := [d] }
  | _ => none }
def FnRecoverTwiceWrongFalsely : Prop := fnRecoverTwiceRow.holds Tryz.pinned (OpenSpec.ofChange fnRecoverTwiceWrong)

/-- 'laws.FnRecoverKeeps': WHATEVER THE INPUT: true; the input reads as it did. -/
def fnRecoverKeepsSpec : ChangeSpec := { name := "fnRecoverKeeps", fn := fun _ => fun
  | [d] => { results := [.lit (.bool true)], args := [d] }
  | _ => none }
def fnRecoverKeepsRow : OpenClaim := { program := "ytjklkppncmhehaagreat", sum := "62ccff44c94d7506f1077d173f88e27164fffb16b825472defe8bb15b68c0298", func := "loop.example/groupmulticast/laws.FnRecoverKeeps", spec := "fnRecoverKeeps", inPlace := ["(*sync.WaitGroup).Add", "internal/race.ReleaseMerge", "internal/race.Disable", "internal/race.Enable", "internal/synctest.IsInBubble", "internal/synctest.Associate[sync.WaitGroup]", "sync.fatal", "sync/atomic.OrUint64", "sync/atomic.AddUint64", "internal/race.Read", "sync/atomic.LoadUint64", "sync/atomic.StoreUint64", "internal/synctest.Disassociate[sync.WaitGroup]", "sync.runtime_Semrelease", "(*sync.WaitGroup).Done", "(*sync.WaitGroup).Wait", "internal/race.Acquire", "internal/synctest.IsAssociated[sync.WaitGroup]", "sync/atomic.CompareAndSwapUint64", "internal/race.Write", "sync.runtime_SemacquireWaitGroup"], unfollowed := true, recurses := true, leaving := true, apart := false }
def FnRecoverKeepsSaid : Prop := fnRecoverKeepsRow.holds Tryz.pinned (OpenSpec.ofChange fnRecoverKeepsSpec)

/-- ITS FALSE NEIGHBOUR: 'it returns false'. Refute it at one input. -/
def fnRecoverKeepsWrong : ChangeSpec := { name := "fnRecoverKeeps", fn := fun _ => fun
  | [d] => { results := [.lit (.bool false)], args := [d] }
  | _ => none }
def FnRecoverKeepsWrongFalsely : Prop := fnRecoverKeepsRow.holds Tryz.pinned (OpenSpec.ofChange fnRecoverKeepsWrong)

/-- 'laws.FnRecoverApart': WHATEVER THE INPUT: true; the input reads as it did. -/
def fnRecoverApartSpec : ChangeSpec := { name := "fnRecoverApart", fn := fun _ => fun
  | [d1, d2] => { results := [.lit (.bool true)], args := [d1, d2] }
  | _ => none }
def fnRecoverApartRow : OpenClaim := { program := "ytjklkppncmhehaagreat", sum := "62ccff44c94d7506f1077d173f88e27164fffb16b825472defe8bb15b68c0298", func := "loop.example/groupmulticast/laws.FnRecoverApart", spec := "fnRecoverApart", inPlace := ["(*sync.WaitGroup).Add", "internal/race.ReleaseMerge", "internal/race.Disable", "internal/race.Enable", "internal/synctest.IsInBubble", "internal/synctest.Associate[sync.WaitGroup]", "sync.fatal", "sync/atomic.OrUint64", "sync/atomic.AddUint64", "internal/race.Read", "sync/atomic.LoadUint64", "sync/atomic.StoreUint64", "internal/synctest.Disassociate[sync.WaitGroup]", "sync.runtime_Semrelease", "(*sync.WaitGroup).Done", "(*sync.WaitGroup).Wait", "internal/race.Acquire", "internal/synctest.IsAssociated[sync.WaitGroup]", "sync/atomic.CompareAndSwapUint64", "internal/race.Write", "sync.runtime_SemacquireWaitGroup"], unfollowed := true, recurses := true, leaving := true, apart := false }
def FnRecoverApartSaid : Prop := fnRecoverApartRow.holds Tryz.pinned (OpenSpec.ofChange fnRecoverApartSpec)

/-- ITS FALSE NEIGHBOUR: 'it returns false'. Refute it at one input. -/
def fnRecoverApartWrong : ChangeSpec := { name := "fnRecoverApart", fn := fun _ => fun
  | [d1, d2] => { results := [.lit (.bool false)], args := [d1, d2] }
  | _ => none }
def FnRecoverApartWrongFalsely : Prop := fnRecoverApartRow.holds Tryz.pinned (OpenSpec.ofChange fnRecoverApartWrong)

/-- 'laws.FnRecoverOthers': WHATEVER THE INPUT: true; the input reads as it did. -/
def fnRecoverOthersSpec : ChangeSpec := { name := "fnRecoverOthers", fn := fun _ => fun
  | [d] => { results := [.lit (.bool true)], args := [d] }
  | _ => none }
def fnRecoverOthersRow : OpenClaim := { program := "ytjklkppncmhehaagreat", sum := "62ccff44c94d7506f1077d173f88e27164fffb16b825472defe8bb15b68c0298", func := "loop.example/groupmulticast/laws.FnRecoverOthers", spec := "fnRecoverOthers", inPlace := ["(*sync.WaitGroup).Add", "internal/race.ReleaseMerge", "internal/race.Disable", "internal/race.Enable", "internal/synctest.IsInBubble", "internal/synctest.Associate[sync.WaitGroup]", "sync.fatal", "sync/atomic.OrUint64", "sync/atomic.AddUint64", "internal/race.Read", "sync/atomic.LoadUint64", "sync/atomic.StoreUint64", "internal/synctest.Disassociate[sync.WaitGroup]", "sync.runtime_Semrelease", "(*sync.WaitGroup).Done", "(*sync.WaitGroup).Wait", "internal/race.Acquire", "internal/synctest.IsAssociated[sync.WaitGroup]", "sync/atomic.CompareAndSwapUint64", "internal/race.Write", "sync.runtime_SemacquireWaitGroup"], unfollowed := true, recurses := true, leaving := true, apart := false }
def FnRecoverOthersSaid : Prop := fnRecoverOthersRow.holds Tryz.pinned (OpenSpec.ofChange fnRecoverOthersSpec)

/-- ITS FALSE NEIGHBOUR: 'it returns false'. Refute it at one input. -/
def fnRecoverOthersWrong : ChangeSpec := { name := "fnRecoverOthers", fn := fun _ => fun
  | [d] => { results := [.lit (.bool false)], args := [d] }
  | _ => none }
def FnRecoverOthersWrongFalsely : Prop := fnRecoverOthersRow.holds Tryz.pinned (OpenSpec.ofChange fnRecoverOthersWrong)

/-- 'laws.FnExactWorldValid': WHATEVER THE INPUT: true; the input reads as it did. -/
def fnExactWorldValidSpec : ChangeSpec := { name := "fnExactWorldValid", fn := fun _ => fun
  | [d] => { results := [.lit (.bool true)], args := [d] }
  | _ => none }
def fnExactWorldValidRow : OpenClaim := { program := "ytjklkppncmhehaagreat", sum := "62ccff44c94d7506f1077d173f88e27164fffb16b825472defe8bb15b68c0298", func := "loop.example/groupmulticast/laws.FnExactWorldValid", spec := "fnExactWorldValid", inPlace := ["(*sync.WaitGroup).Add", "internal/race.ReleaseMerge", "internal/race.Disable", "internal/race.Enable", "internal/synctest.IsInBubble", "internal/synctest.Associate[sync.WaitGroup]", "sync.fatal", "sync/atomic.OrUint64", "sync/atomic.AddUint64", "internal/race.Read", "sync/atomic.LoadUint64", "sync/atomic.StoreUint64", "internal/synctest.Disassociate[sync.WaitGroup]", "sync.runtime_Semrelease", "(*sync.WaitGroup).Done", "(*sync.WaitGroup).Wait", "internal/race.Acquire", "internal/synctest.IsAssociated[sync.WaitGroup]", "sync/atomic.CompareAndSwapUint64", "internal/race.Write", "sync.runtime_SemacquireWaitGroup"], unfollowed := true, recurses := true, leaving := true, apart := false }
def FnExactWorldValidSaid : Prop := fnExactWorldValidRow.holds Tryz.pinned (OpenSpec.ofChange fnExactWorldValidSpec)

/-- ITS FALSE NEIGHBOUR: 'it returns false'. Refute it at one input. -/
def fnExactWorldValidWrong : ChangeSpec := { name := "fnExactWorldValid", fn := fun _ => fun
  | [d] => { results := [.lit (.bool false)], args := [d] }
  | _ => none }
def FnExactWorldValidWrongFalsely : Prop := fnExactWorldValidRow.holds Tryz.pinned (OpenSpec.ofChange fnExactWorldValidWrong)

/-- 'laws.FnExactWorldTraces': WHATEVER THE INPUT: true; the input reads as it did. -/
def fnExactWorldTracesSpec : ChangeSpec := { name := "fnExactWorldTraces", fn := fun _ => fun
  | [d] => { results := [.lit (.bool true)], args := [d] }
  | _ => none }
def fnExactWorldTracesRow : OpenClaim := { program := "ytjklkppncmhehaagreat", sum := "62ccff44c94d7506f1077d173f88e27164fffb16b825472defe8bb15b68c0298", func := "loop.example/groupmulticast/laws.FnExactWorldTraces", spec := "fnExactWorldTraces", inPlace := ["(*sync.WaitGroup).Add", "internal/race.ReleaseMerge", "internal/race.Disable", "internal/race.Enable", "internal/synctest.IsInBubble", "internal/synctest.Associate[sync.WaitGroup]", "sync.fatal", "sync/atomic.OrUint64", "sync/atomic.AddUint64", "internal/race.Read", "sync/atomic.LoadUint64", "sync/atomic.StoreUint64", "internal/synctest.Disassociate[sync.WaitGroup]", "sync.runtime_Semrelease", "(*sync.WaitGroup).Done", "(*sync.WaitGroup).Wait", "internal/race.Acquire", "internal/synctest.IsAssociated[sync.WaitGroup]", "sync/atomic.CompareAndSwapUint64", "internal/race.Write", "sync.runtime_SemacquireWaitGroup"], unfollowed := true, recurses := true, leaving := true, apart := false }
def FnExactWorldTracesSaid : Prop := fnExactWorldTracesRow.holds Tryz.pinned (OpenSpec.ofChange fnExactWorldTracesSpec)

/-- ITS FALSE NEIGHBOUR: 'it returns false'. Refute it at one input. -/
def fnExactWorldTracesWrong : ChangeSpec := { name := "fnExactWorldTraces", fn := fun _ => fun
  | [d] => { results := [.lit (.bool false)], args := [d] }
  | _ => none }
def FnExactWorldTracesWrongFalsely : Prop := fnExactWorldTracesRow.holds Tryz.pinned (OpenSpec.ofChange fnExactWorldTracesWrong)

/- THE SECOND FORM. 'bulk': how many values and letters a reading holds, each counted each time it is reached (what is shared counts as often as it is met; a slice's spare places count too). A statement '..UptoSaid' is the law's where the arguments, and the package variables that the reading takes, are together of bulk at most 1048576: NARROWER than '..Said'. Prove '..Said' where nothing that the law and all that it calls make is longer than what came in: it says more and counts as full. Else prove '..UptoSaid'. A law counts once. -/
mutual
def uptoBulk {H : Type} : DataW H → Nat
  | .lit (.string bytes) => bytes.length + 1
  | .lit _ => 1
  | .nil => 1
  | .ptr d => uptoBulk d + 1
  | .slice elems spare => uptoBulkAll elems + uptoBulkAll spare + 1
  | .agg parts => uptoBulkAll parts + 1
  | .iface _ d => uptoBulk d + 1
  | .map entries => uptoBulkEntries entries + 1
  | .held _ => 1
def uptoBulkAll {H : Type} : List (DataW H) → Nat
  | [] => 0
  | d :: r => uptoBulk d + uptoBulkAll r
def uptoBulkEntries {H : Type} : List (Lit × DataW H) → Nat
  | [] => 0
  | x :: r => uptoBulkEntry x + uptoBulkEntries r
def uptoBulkEntry {H : Type} : Lit × DataW H → Nat
  | (.string bytes, d) => bytes.length + uptoBulk d + 1
  | (_, d) => uptoBulk d + 1
 end
def uptoSmall : (H : Type) → List (DataW H) → Bool := fun _ ds => decide (uptoBulkAll ds ≤ 1048576)
def OpenSpec.upto (s : _root_.Go.ChangeSpec) : _root_.Go.OpenSpec := { _root_.Go.OpenSpec.ofChange s with cond := some uptoSmall }

/-- 'laws.FnRecoverStamp', WHERE WHAT IT READS IS OF BULK AT MOST 1048576: true; the input reads as it did. -/
def fnRecoverStampUptoRow : OpenClaim := { program := "ytjklkppncmhehaagreat", sum := "62ccff44c94d7506f1077d173f88e27164fffb16b825472defe8bb15b68c0298", func := "loop.example/groupmulticast/laws.FnRecoverStamp", spec := "fnRecoverStamp", inPlace := ["(*sync.WaitGroup).Add", "internal/race.ReleaseMerge", "internal/race.Disable", "internal/race.Enable", "internal/synctest.IsInBubble", "internal/synctest.Associate[sync.WaitGroup]", "sync.fatal", "sync/atomic.OrUint64", "sync/atomic.AddUint64", "internal/race.Read", "sync/atomic.LoadUint64", "sync/atomic.StoreUint64", "internal/synctest.Disassociate[sync.WaitGroup]", "sync.runtime_Semrelease", "(*sync.WaitGroup).Done", "(*sync.WaitGroup).Wait", "internal/race.Acquire", "internal/synctest.IsAssociated[sync.WaitGroup]", "sync/atomic.CompareAndSwapUint64", "internal/race.Write", "sync.runtime_SemacquireWaitGroup"], unfollowed := true, recurses := true, leaving := true, apart := false, narrowed := true }
def FnRecoverStampUptoSaid : Prop := fnRecoverStampUptoRow.holds Tryz.pinned (OpenSpec.upto fnRecoverStampSpec)

/-- 'laws.FnRecoverStampSame', WHERE WHAT IT READS IS OF BULK AT MOST 1048576: true; the input reads as it did. -/
def fnRecoverStampSameUptoRow : OpenClaim := { program := "ytjklkppncmhehaagreat", sum := "62ccff44c94d7506f1077d173f88e27164fffb16b825472defe8bb15b68c0298", func := "loop.example/groupmulticast/laws.FnRecoverStampSame", spec := "fnRecoverStampSame", inPlace := ["(*sync.WaitGroup).Add", "internal/race.ReleaseMerge", "internal/race.Disable", "internal/race.Enable", "internal/synctest.IsInBubble", "internal/synctest.Associate[sync.WaitGroup]", "sync.fatal", "sync/atomic.OrUint64", "sync/atomic.AddUint64", "internal/race.Read", "sync/atomic.LoadUint64", "sync/atomic.StoreUint64", "internal/synctest.Disassociate[sync.WaitGroup]", "sync.runtime_Semrelease", "(*sync.WaitGroup).Done", "(*sync.WaitGroup).Wait", "internal/race.Acquire", "internal/synctest.IsAssociated[sync.WaitGroup]", "sync/atomic.CompareAndSwapUint64", "internal/race.Write", "sync.runtime_SemacquireWaitGroup"], unfollowed := true, recurses := true, leaving := true, apart := false, narrowed := true }
def FnRecoverStampSameUptoSaid : Prop := fnRecoverStampSameUptoRow.holds Tryz.pinned (OpenSpec.upto fnRecoverStampSameSpec)

/-- 'laws.FnRecoverAll', WHERE WHAT IT READS IS OF BULK AT MOST 1048576: true; the input reads as it did. -/
def fnRecoverAllUptoRow : OpenClaim := { program := "ytjklkppncmhehaagreat", sum := "62ccff44c94d7506f1077d173f88e27164fffb16b825472defe8bb15b68c0298", func := "loop.example/groupmulticast/laws.FnRecoverAll", spec := "fnRecoverAll", inPlace := ["(*sync.WaitGroup).Add", "internal/race.ReleaseMerge", "internal/race.Disable", "internal/race.Enable", "internal/synctest.IsInBubble", "internal/synctest.Associate[sync.WaitGroup]", "sync.fatal", "sync/atomic.OrUint64", "sync/atomic.AddUint64", "internal/race.Read", "sync/atomic.LoadUint64", "sync/atomic.StoreUint64", "internal/synctest.Disassociate[sync.WaitGroup]", "sync.runtime_Semrelease", "(*sync.WaitGroup).Done", "(*sync.WaitGroup).Wait", "internal/race.Acquire", "internal/synctest.IsAssociated[sync.WaitGroup]", "sync/atomic.CompareAndSwapUint64", "internal/race.Write", "sync.runtime_SemacquireWaitGroup"], unfollowed := true, recurses := true, leaving := true, apart := false, narrowed := true }
def FnRecoverAllUptoSaid : Prop := fnRecoverAllUptoRow.holds Tryz.pinned (OpenSpec.upto fnRecoverAllSpec)

/-- 'laws.FnRecoverFail', WHERE WHAT IT READS IS OF BULK AT MOST 1048576: true; the input reads as it did. -/
def fnRecoverFailUptoRow : OpenClaim := { program := "ytjklkppncmhehaagreat", sum := "62ccff44c94d7506f1077d173f88e27164fffb16b825472defe8bb15b68c0298", func := "loop.example/groupmulticast/laws.FnRecoverFail", spec := "fnRecoverFail", inPlace := ["(*sync.WaitGroup).Add", "internal/race.ReleaseMerge", "internal/race.Disable", "internal/race.Enable", "internal/synctest.IsInBubble", "internal/synctest.Associate[sync.WaitGroup]", "sync.fatal", "sync/atomic.OrUint64", "sync/atomic.AddUint64", "internal/race.Read", "sync/atomic.LoadUint64", "sync/atomic.StoreUint64", "internal/synctest.Disassociate[sync.WaitGroup]", "sync.runtime_Semrelease", "(*sync.WaitGroup).Done", "(*sync.WaitGroup).Wait", "internal/race.Acquire", "internal/synctest.IsAssociated[sync.WaitGroup]", "sync/atomic.CompareAndSwapUint64", "internal/race.Write", "sync.runtime_SemacquireWaitGroup"], unfollowed := true, recurses := true, leaving := true, apart := false, narrowed := true }
def FnRecoverFailUptoSaid : Prop := fnRecoverFailUptoRow.holds Tryz.pinned (OpenSpec.upto fnRecoverFailSpec)

/-- 'laws.FnRecoverTwice', WHERE WHAT IT READS IS OF BULK AT MOST 1048576: true; the input reads as it did. -/
def fnRecoverTwiceUptoRow : OpenClaim := { program := "ytjklkppncmhehaagreat", sum := "62ccff44c94d7506f1077d173f88e27164fffb16b825472defe8bb15b68c0298", func := "loop.example/groupmulticast/laws.FnRecoverTwice", spec := "fnRecoverTwice", inPlace := ["(*sync.WaitGroup).Add", "internal/race.ReleaseMerge", "internal/race.Disable", "internal/race.Enable", "internal/synctest.IsInBubble", "internal/synctest.Associate[sync.WaitGroup]", "sync.fatal", "sync/atomic.OrUint64", "sync/atomic.AddUint64", "internal/race.Read", "sync/atomic.LoadUint64", "sync/atomic.StoreUint64", "internal/synctest.Disassociate[sync.WaitGroup]", "sync.runtime_Semrelease", "(*sync.WaitGroup).Done", "(*sync.WaitGroup).Wait", "internal/race.Acquire", "internal/synctest.IsAssociated[sync.WaitGroup]", "sync/atomic.CompareAndSwapUint64", "internal/race.Write", "sync.runtime_SemacquireWaitGroup"], unfollowed := true, recurses := true, leaving := true, apart := false, narrowed := true }
def FnRecoverTwiceUptoSaid : Prop := fnRecoverTwiceUptoRow.holds Tryz.pinned (OpenSpec.upto fnRecoverTwiceSpec)

/-- 'laws.FnRecoverKeeps', WHERE WHAT IT READS IS OF BULK AT MOST 1048576: true; the input reads as it did. -/
def fnRecoverKeepsUptoRow : OpenClaim := { program := "ytjklkppncmhehaagreat", sum := "62ccff44c94d7506f1077d173f88e27164fffb16b825472defe8bb15b68c0298", func := "loop.example/groupmulticast/laws.FnRecoverKeeps", spec := "fnRecoverKeeps", inPlace := ["(*sync.WaitGroup).Add", "internal/race.ReleaseMerge", "internal/race.Disable", "internal/race.Enable", "internal/synctest.IsInBubble", "internal/synctest.Associate[sync.WaitGroup]", "sync.fatal", "sync/atomic.OrUint64", "sync/atomic.AddUint64", "internal/race.Read", "sync/atomic.LoadUint64", "sync/atomic.StoreUint64", "internal/synctest.Disassociate[sync.WaitGroup]", "sync.runtime_Semrelease", "(*sync.WaitGroup).Done", "(*sync.WaitGroup).Wait", "internal/race.Acquire", "internal/synctest.IsAssociated[sync.WaitGroup]", "sync/atomic.CompareAndSwapUint64", "internal/race.Write", "sync.runtime_SemacquireWaitGroup"], unfollowed := true, recurses := true, leaving := true, apart := false, narrowed := true }
def FnRecoverKeepsUptoSaid : Prop := fnRecoverKeepsUptoRow.holds Tryz.pinned (OpenSpec.upto fnRecoverKeepsSpec)

/-- 'laws.FnRecoverApart', WHERE WHAT IT READS IS OF BULK AT MOST 1048576: true; the input reads as it did. -/
def fnRecoverApartUptoRow : OpenClaim := { program := "ytjklkppncmhehaagreat", sum := "62ccff44c94d7506f1077d173f88e27164fffb16b825472defe8bb15b68c0298", func := "loop.example/groupmulticast/laws.FnRecoverApart", spec := "fnRecoverApart", inPlace := ["(*sync.WaitGroup).Add", "internal/race.ReleaseMerge", "internal/race.Disable", "internal/race.Enable", "internal/synctest.IsInBubble", "internal/synctest.Associate[sync.WaitGroup]", "sync.fatal", "sync/atomic.OrUint64", "sync/atomic.AddUint64", "internal/race.Read", "sync/atomic.LoadUint64", "sync/atomic.StoreUint64", "internal/synctest.Disassociate[sync.WaitGroup]", "sync.runtime_Semrelease", "(*sync.WaitGroup).Done", "(*sync.WaitGroup).Wait", "internal/race.Acquire", "internal/synctest.IsAssociated[sync.WaitGroup]", "sync/atomic.CompareAndSwapUint64", "internal/race.Write", "sync.runtime_SemacquireWaitGroup"], unfollowed := true, recurses := true, leaving := true, apart := false, narrowed := true }
def FnRecoverApartUptoSaid : Prop := fnRecoverApartUptoRow.holds Tryz.pinned (OpenSpec.upto fnRecoverApartSpec)

/-- 'laws.FnRecoverOthers', WHERE WHAT IT READS IS OF BULK AT MOST 1048576: true; the input reads as it did. -/
def fnRecoverOthersUptoRow : OpenClaim := { program := "ytjklkppncmhehaagreat", sum := "62ccff44c94d7506f1077d173f88e27164fffb16b825472defe8bb15b68c0298", func := "loop.example/groupmulticast/laws.FnRecoverOthers", spec := "fnRecoverOthers", inPlace := ["(*sync.WaitGroup).Add", "internal/race.ReleaseMerge", "internal/race.Disable", "internal/race.Enable", "internal/synctest.IsInBubble", "internal/synctest.Associate[sync.WaitGroup]", "sync.fatal", "sync/atomic.OrUint64", "sync/atomic.AddUint64", "internal/race.Read", "sync/atomic.LoadUint64", "sync/atomic.StoreUint64", "internal/synctest.Disassociate[sync.WaitGroup]", "sync.runtime_Semrelease", "(*sync.WaitGroup).Done", "(*sync.WaitGroup).Wait", "internal/race.Acquire", "internal/synctest.IsAssociated[sync.WaitGroup]", "sync/atomic.CompareAndSwapUint64", "internal/race.Write", "sync.runtime_SemacquireWaitGroup"], unfollowed := true, recurses := true, leaving := true, apart := false, narrowed := true }
def FnRecoverOthersUptoSaid : Prop := fnRecoverOthersUptoRow.holds Tryz.pinned (OpenSpec.upto fnRecoverOthersSpec)

/-- 'laws.FnExactWorldValid', WHERE WHAT IT READS IS OF BULK AT MOST 1048576: true; the input reads as it did. -/
def fnExactWorldValidUptoRow : OpenClaim := { program := "ytjklkppncmhehaagreat", sum := "62ccff44c94d7506f1077d173f88e27164fffb16b825472defe8bb15b68c0298", func := "loop.example/groupmulticast/laws.FnExactWorldValid", spec := "fnExactWorldValid", inPlace := ["(*sync.WaitGroup).Add", "internal/race.ReleaseMerge", "internal/race.Disable", "internal/race.Enable", "internal/synctest.IsInBubble", "internal/synctest.Associate[sync.WaitGroup]", "sync.fatal", "sync/atomic.OrUint64", "sync/atomic.AddUint64", "internal/race.Read", "sync/atomic.LoadUint64", "sync/atomic.StoreUint64", "internal/synctest.Disassociate[sync.WaitGroup]", "sync.runtime_Semrelease", "(*sync.WaitGroup).Done", "(*sync.WaitGroup).Wait", "internal/race.Acquire", "internal/synctest.IsAssociated[sync.WaitGroup]", "sync/atomic.CompareAndSwapUint64", "internal/race.Write", "sync.runtime_SemacquireWaitGroup"], unfollowed := true, recurses := true, leaving := true, apart := false, narrowed := true }
def FnExactWorldValidUptoSaid : Prop := fnExactWorldValidUptoRow.holds Tryz.pinned (OpenSpec.upto fnExactWorldValidSpec)

/-- 'laws.FnExactWorldTraces', WHERE WHAT IT READS IS OF BULK AT MOST 1048576: true; the input reads as it did. -/
def fnExactWorldTracesUptoRow : OpenClaim := { program := "ytjklkppncmhehaagreat", sum := "62ccff44c94d7506f1077d173f88e27164fffb16b825472defe8bb15b68c0298", func := "loop.example/groupmulticast/laws.FnExactWorldTraces", spec := "fnExactWorldTraces", inPlace := ["(*sync.WaitGroup).Add", "internal/race.ReleaseMerge", "internal/race.Disable", "internal/race.Enable", "internal/synctest.IsInBubble", "internal/synctest.Associate[sync.WaitGroup]", "sync.fatal", "sync/atomic.OrUint64", "sync/atomic.AddUint64", "internal/race.Read", "sync/atomic.LoadUint64", "sync/atomic.StoreUint64", "internal/synctest.Disassociate[sync.WaitGroup]", "sync.runtime_Semrelease", "(*sync.WaitGroup).Done", "(*sync.WaitGroup).Wait", "internal/race.Acquire", "internal/synctest.IsAssociated[sync.WaitGroup]", "sync/atomic.CompareAndSwapUint64", "internal/race.Write", "sync.runtime_SemacquireWaitGroup"], unfollowed := true, recurses := true, leaving := true, apart := false, narrowed := true }
def FnExactWorldTracesUptoSaid : Prop := fnExactWorldTracesUptoRow.holds Tryz.pinned (OpenSpec.upto fnExactWorldTracesSpec)

end Rows
end Go.Proofs.YtjklkppncmhehaaGreat
