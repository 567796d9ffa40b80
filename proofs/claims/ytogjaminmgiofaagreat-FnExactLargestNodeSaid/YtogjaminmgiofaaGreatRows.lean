/-
  No cell of these rows narrows 'for every input' (looked for: loops, veiled, ifaces, maps, wideKeys, modest, calm, conditions, laid).
  DERIVED. THE GIVEN ROWS OF THIS SEAT. 9 by the template 'for every input the law returns true; each argument reads behind the call as it read before'; 0 by the template 'total and deterministic' (their statements: YtogjaminmgiofaaGreatTotals.lean).
  GIVEN WITH THE SEED: the statements are not yours to turn. If you find one false, say at which input.
  Laid BY PROGRAM, IN A SANDBOX (cutbox-rows.mjs): the forced cells as the released guide's own fill.sh prints them over the translation 28f940e8b30141ec… (all of the seat's roots in one cut). By AI agents, Wed Nov 11 2026. No macro, syntax, notation, axiom, sorry.
-/
import Derived.Test.YtogjaminmgiofaaGreatChecked
import GoSem.Claim
import GoSem.ClaimJoined
import GoSem.ClaimMapViews
import Derived.JoinedTies
import Derived.KernelRfl
namespace Go.Proofs.YtogjaminmgiofaaGreat
/- THE CELL 'sum', in the pinned program and in every row, IS THE sha256 OF THE DUMP (.gsa) THAT YtogjaminmgiofaaGreatProg.lean LOADS. Nothing in Lean hashes anything: it is a label: what it is worth is what the hold of that sum in a sandbox is worth. -/
noncomputable def Tryz.pinned : Pinned := { name := "ytogjaminmgiofaagreat", sum := "28f940e8b30141ec12c512b9bc1a04bd42b84bf8f59f970904ffed77fd37aee9", checked := Tryz.checked }
namespace Rows
def none {H : Type} : Left H := { results := [], args := [] }

/-- 'laws.FnExactIsQuiescent': WHATEVER THE INPUT: true; the input reads as it did. -/
def fnExactIsQuiescentSpec : ChangeSpec := { name := "fnExactIsQuiescent", fn := fun _ => fun
  | [d] => { results := [.lit (.bool true)], args := [d] }
  | _ => none }
def fnExactIsQuiescentRow : OpenClaim := { program := "ytogjaminmgiofaagreat", sum := "28f940e8b30141ec12c512b9bc1a04bd42b84bf8f59f970904ffed77fd37aee9", func := "loop.example/g00507/laws.FnExactIsQuiescent", spec := "fnExactIsQuiescent", apart := false }
def FnExactIsQuiescentSaid : Prop := fnExactIsQuiescentRow.holds Tryz.pinned (OpenSpec.ofChange fnExactIsQuiescentSpec)

/-- ITS FALSE NEIGHBOUR: 'it returns false'. Refute it at one input. -/
def fnExactIsQuiescentWrong : ChangeSpec := { name := "fnExactIsQuiescent", fn := fun _ => fun
  | [d] => { results := [.lit (.bool false)], args := [d] }
  | _ => none }
def FnExactIsQuiescentWrongFalsely : Prop := fnExactIsQuiescentRow.holds Tryz.pinned (OpenSpec.ofChange fnExactIsQuiescentWrong)

/-- 'laws.FnExactIsSatisfied': WHATEVER THE INPUT: true; the input reads as it did. -/
def fnExactIsSatisfiedSpec : ChangeSpec := { name := "fnExactIsSatisfied", fn := fun _ => fun
  | [d1, d2] => { results := [.lit (.bool true)], args := [d1, d2] }
  | _ => none }
def fnExactIsSatisfiedRow : OpenClaim := { program := "ytogjaminmgiofaagreat", sum := "28f940e8b30141ec12c512b9bc1a04bd42b84bf8f59f970904ffed77fd37aee9", func := "loop.example/g00507/laws.FnExactIsSatisfied", spec := "fnExactIsSatisfied", apart := false }
def FnExactIsSatisfiedSaid : Prop := fnExactIsSatisfiedRow.holds Tryz.pinned (OpenSpec.ofChange fnExactIsSatisfiedSpec)

/-- ITS FALSE NEIGHBOUR: 'it returns false'. Refute it at one input. -/
def fnExactIsSatisfiedWrong : ChangeSpec := { name := "fnExactIsSatisfied", fn := fun _ => fun
  | [d1, d2] => { results := [.lit (.bool false)], args := [d1, d2] }
  | _ => none }
def FnExactIsSatisfiedWrongFalsely : Prop := fnExactIsSatisfiedRow.holds Tryz.pinned (OpenSpec.ofChange fnExactIsSatisfiedWrong)

/-- 'laws.FnExactCountPending': WHATEVER THE INPUT: true; the input reads as it did. -/
def fnExactCountPendingSpec : ChangeSpec := { name := "fnExactCountPending", fn := fun _ => fun
  | [d] => { results := [.lit (.bool true)], args := [d] }
  | _ => none }
def fnExactCountPendingRow : OpenClaim := { program := "ytogjaminmgiofaagreat", sum := "28f940e8b30141ec12c512b9bc1a04bd42b84bf8f59f970904ffed77fd37aee9", func := "loop.example/g00507/laws.FnExactCountPending", spec := "fnExactCountPending", apart := false }
def FnExactCountPendingSaid : Prop := fnExactCountPendingRow.holds Tryz.pinned (OpenSpec.ofChange fnExactCountPendingSpec)

/-- ITS FALSE NEIGHBOUR: 'it returns false'. Refute it at one input. -/
def fnExactCountPendingWrong : ChangeSpec := { name := "fnExactCountPending", fn := fun _ => fun
  | [d] => { results := [.lit (.bool false)], args := [d] }
  | _ => none }
def FnExactCountPendingWrongFalsely : Prop := fnExactCountPendingRow.holds Tryz.pinned (OpenSpec.ofChange fnExactCountPendingWrong)

/-- 'laws.FnExactMaxHopsLeft': WHATEVER THE INPUT: true; the input reads as it did. -/
def fnExactMaxHopsLeftSpec : ChangeSpec := { name := "fnExactMaxHopsLeft", fn := fun _ => fun
  | [d] => { results := [.lit (.bool true)], args := [d] }
  | _ => none }
def fnExactMaxHopsLeftRow : OpenClaim := { program := "ytogjaminmgiofaagreat", sum := "28f940e8b30141ec12c512b9bc1a04bd42b84bf8f59f970904ffed77fd37aee9", func := "loop.example/g00507/laws.FnExactMaxHopsLeft", spec := "fnExactMaxHopsLeft", apart := false }
def FnExactMaxHopsLeftSaid : Prop := fnExactMaxHopsLeftRow.holds Tryz.pinned (OpenSpec.ofChange fnExactMaxHopsLeftSpec)

/-- ITS FALSE NEIGHBOUR: 'it returns false'. Refute it at one input. -/
def fnExactMaxHopsLeftWrong : ChangeSpec := { name := "fnExactMaxHopsLeft", fn := fun _ => fun
  | [d] => { results := [.lit (.bool false)], args := [d] }
  | _ => none }
def FnExactMaxHopsLeftWrongFalsely : Prop := fnExactMaxHopsLeftRow.holds Tryz.pinned (OpenSpec.ofChange fnExactMaxHopsLeftWrong)

/-- 'laws.FnExactLargestNode': WHATEVER THE INPUT: true; the input reads as it did. -/
def fnExactLargestNodeSpec : ChangeSpec := { name := "fnExactLargestNode", fn := fun _ => fun
  | [d] => { results := [.lit (.bool true)], args := [d] }
  | _ => none }
def fnExactLargestNodeRow : OpenClaim := { program := "ytogjaminmgiofaagreat", sum := "28f940e8b30141ec12c512b9bc1a04bd42b84bf8f59f970904ffed77fd37aee9", func := "loop.example/g00507/laws.FnExactLargestNode", spec := "fnExactLargestNode", apart := false }
def FnExactLargestNodeSaid : Prop := fnExactLargestNodeRow.holds Tryz.pinned (OpenSpec.ofChange fnExactLargestNodeSpec)

/-- ITS FALSE NEIGHBOUR: 'it returns false'. Refute it at one input. -/
def fnExactLargestNodeWrong : ChangeSpec := { name := "fnExactLargestNode", fn := fun _ => fun
  | [d] => { results := [.lit (.bool false)], args := [d] }
  | _ => none }
def FnExactLargestNodeWrongFalsely : Prop := fnExactLargestNodeRow.holds Tryz.pinned (OpenSpec.ofChange fnExactLargestNodeWrong)

/-- 'laws.FnExactProducerOf': WHATEVER THE INPUT: true; the input reads as it did. -/
def fnExactProducerOfSpec : ChangeSpec := { name := "fnExactProducerOf", fn := fun _ => fun
  | [d1, d2] => { results := [.lit (.bool true)], args := [d1, d2] }
  | _ => none }
def fnExactProducerOfRow : OpenClaim := { program := "ytogjaminmgiofaagreat", sum := "28f940e8b30141ec12c512b9bc1a04bd42b84bf8f59f970904ffed77fd37aee9", func := "loop.example/g00507/laws.FnExactProducerOf", spec := "fnExactProducerOf", apart := false }
def FnExactProducerOfSaid : Prop := fnExactProducerOfRow.holds Tryz.pinned (OpenSpec.ofChange fnExactProducerOfSpec)

/-- ITS FALSE NEIGHBOUR: 'it returns false'. Refute it at one input. -/
def fnExactProducerOfWrong : ChangeSpec := { name := "fnExactProducerOf", fn := fun _ => fun
  | [d1, d2] => { results := [.lit (.bool false)], args := [d1, d2] }
  | _ => none }
def FnExactProducerOfWrongFalsely : Prop := fnExactProducerOfRow.holds Tryz.pinned (OpenSpec.ofChange fnExactProducerOfWrong)

/-- 'laws.FnExactUnsatisfiedConsumers': WHATEVER THE INPUT: true; the input reads as it did. -/
def fnExactUnsatisfiedConsumersSpec : ChangeSpec := { name := "fnExactUnsatisfiedConsumers", fn := fun _ => fun
  | [d] => { results := [.lit (.bool true)], args := [d] }
  | _ => none }
def fnExactUnsatisfiedConsumersRow : OpenClaim := { program := "ytogjaminmgiofaagreat", sum := "28f940e8b30141ec12c512b9bc1a04bd42b84bf8f59f970904ffed77fd37aee9", func := "loop.example/g00507/laws.FnExactUnsatisfiedConsumers", spec := "fnExactUnsatisfiedConsumers", apart := false }
def FnExactUnsatisfiedConsumersSaid : Prop := fnExactUnsatisfiedConsumersRow.holds Tryz.pinned (OpenSpec.ofChange fnExactUnsatisfiedConsumersSpec)

/-- ITS FALSE NEIGHBOUR: 'it returns false'. Refute it at one input. -/
def fnExactUnsatisfiedConsumersWrong : ChangeSpec := { name := "fnExactUnsatisfiedConsumers", fn := fun _ => fun
  | [d] => { results := [.lit (.bool false)], args := [d] }
  | _ => none }
def FnExactUnsatisfiedConsumersWrongFalsely : Prop := fnExactUnsatisfiedConsumersRow.holds Tryz.pinned (OpenSpec.ofChange fnExactUnsatisfiedConsumersWrong)

/-- 'laws.FnExactReceivedData': WHATEVER THE INPUT: true; the input reads as it did. -/
def fnExactReceivedDataSpec : ChangeSpec := { name := "fnExactReceivedData", fn := fun _ => fun
  | [d] => { results := [.lit (.bool true)], args := [d] }
  | _ => none }
def fnExactReceivedDataRow : OpenClaim := { program := "ytogjaminmgiofaagreat", sum := "28f940e8b30141ec12c512b9bc1a04bd42b84bf8f59f970904ffed77fd37aee9", func := "loop.example/g00507/laws.FnExactReceivedData", spec := "fnExactReceivedData", apart := false }
def FnExactReceivedDataSaid : Prop := fnExactReceivedDataRow.holds Tryz.pinned (OpenSpec.ofChange fnExactReceivedDataSpec)

/-- ITS FALSE NEIGHBOUR: 'it returns false'. Refute it at one input. -/
def fnExactReceivedDataWrong : ChangeSpec := { name := "fnExactReceivedData", fn := fun _ => fun
  | [d] => { results := [.lit (.bool false)], args := [d] }
  | _ => none }
def FnExactReceivedDataWrongFalsely : Prop := fnExactReceivedDataRow.holds Tryz.pinned (OpenSpec.ofChange fnExactReceivedDataWrong)

/-- 'laws.FnExactAllAuthentic': WHATEVER THE INPUT: true; the input reads as it did. -/
def fnExactAllAuthenticSpec : ChangeSpec := { name := "fnExactAllAuthentic", fn := fun _ => fun
  | [d] => { results := [.lit (.bool true)], args := [d] }
  | _ => none }
def fnExactAllAuthenticRow : OpenClaim := { program := "ytogjaminmgiofaagreat", sum := "28f940e8b30141ec12c512b9bc1a04bd42b84bf8f59f970904ffed77fd37aee9", func := "loop.example/g00507/laws.FnExactAllAuthentic", spec := "fnExactAllAuthentic", unfollowed := true, recurses := true, apart := false }
def FnExactAllAuthenticSaid : Prop := fnExactAllAuthenticRow.holds Tryz.pinned (OpenSpec.ofChange fnExactAllAuthenticSpec)

/-- ITS FALSE NEIGHBOUR: 'it returns false'. Refute it at one input. -/
def fnExactAllAuthenticWrong : ChangeSpec := { name := "fnExactAllAuthentic", fn := fun _ => fun
  | [d] => { results := [.lit (.bool false)], args := [d] }
  | _ => none }
def FnExactAllAuthenticWrongFalsely : Prop := fnExactAllAuthenticRow.holds Tryz.pinned (OpenSpec.ofChange fnExactAllAuthenticWrong)

/- THE SECOND FORM. 'bulk': how many values and letters a reading holds, each counted each time it is reached (what is shared counts as often as it is met; a slice's spare places count too). A statement '..UptoSaid' is the law's where the arguments, and the package variables that the reading takes, are together of bulk at most 1048576: NARROWER than '..Said'. Prove '..Said' where nothing that the law and all that it calls make is longer than what came in: it says more and counts as full. Else prove '..UptoSaid'. A law counts once. -/
mutual
def uptoBulk {H : Type} : DataW H → Nat
  | .lit (.string bytes) => bytes.length + 1
  | .lit _ => 1
  | .nil => 1
  | .ptr d => uptoBulk d + 1
  | .slice elems spare => uptoBulkAll elems + uptoBulkAll spare + 1
  | .agg parts => uptoBulkAll parts + 1
  | .iface _ d => uptoBulk d + 1
  | .map entries => uptoBulkEntries entries + 1
  | .held _ => 1
def uptoBulkAll {H : Type} : List (DataW H) → Nat
  | [] => 0
  | d :: r => uptoBulk d + uptoBulkAll r
def uptoBulkEntries {H : Type} : List (Lit × DataW H) → Nat
  | [] => 0
  | x :: r => uptoBulkEntry x + uptoBulkEntries r
def uptoBulkEntry {H : Type} : Lit × DataW H → Nat
  | (.string bytes, d) => bytes.length + uptoBulk d + 1
  | (_, d) => uptoBulk d + 1
 end
def uptoSmall : (H : Type) → List (DataW H) → Bool := fun _ ds => decide (uptoBulkAll ds ≤ 1048576)
def OpenSpec.upto (s : _root_.Go.ChangeSpec) : _root_.Go.OpenSpec := { _root_.Go.OpenSpec.ofChange s with cond := some uptoSmall }

/-- 'laws.FnExactIsQuiescent', WHERE WHAT IT READS IS OF BULK AT MOST 1048576: true; the input reads as it did. -/
def fnExactIsQuiescentUptoRow : OpenClaim := { program := "ytogjaminmgiofaagreat", sum := "28f940e8b30141ec12c512b9bc1a04bd42b84bf8f59f970904ffed77fd37aee9", func := "loop.example/g00507/laws.FnExactIsQuiescent", spec := "fnExactIsQuiescent", apart := false, narrowed := true }
def FnExactIsQuiescentUptoSaid : Prop := fnExactIsQuiescentUptoRow.holds Tryz.pinned (OpenSpec.upto fnExactIsQuiescentSpec)

/-- 'laws.FnExactIsSatisfied', WHERE WHAT IT READS IS OF BULK AT MOST 1048576: true; the input reads as it did. -/
def fnExactIsSatisfiedUptoRow : OpenClaim := { program := "ytogjaminmgiofaagreat", sum := "28f940e8b30141ec12c512b9bc1a04bd42b84bf8f59f970904ffed77fd37aee9", func := "loop.example/g00507/laws.FnExactIsSatisfied", spec := "fnExactIsSatisfied", apart := false, narrowed := true }
def FnExactIsSatisfiedUptoSaid : Prop := fnExactIsSatisfiedUptoRow.holds Tryz.pinned (OpenSpec.upto fnExactIsSatisfiedSpec)

/-- 'laws.FnExactCountPending', WHERE WHAT IT READS IS OF BULK AT MOST 1048576: true; the input reads as it did. -/
def fnExactCountPendingUptoRow : OpenClaim := { program := "ytogjaminmgiofaagreat", sum := "28f940e8b30141ec12c512b9bc1a04bd42b84bf8f59f970904ffed77fd37aee9", func := "loop.example/g00507/laws.FnExactCountPending", spec := "fnExactCountPending", apart := false, narrowed := true }
def FnExactCountPendingUptoSaid : Prop := fnExactCountPendingUptoRow.holds Tryz.pinned (OpenSpec.upto fnExactCountPendingSpec)

/-- 'laws.FnExactMaxHopsLeft', WHERE WHAT IT READS IS OF BULK AT MOST 1048576: true; the input reads as it did. -/
def fnExactMaxHopsLeftUptoRow : OpenClaim := { program := "ytogjaminmgiofaagreat", sum := "28f940e8b30141ec12c512b9bc1a04bd42b84bf8f59f970904ffed77fd37aee9", func := "loop.example/g00507/laws.FnExactMaxHopsLeft", spec := "fnExactMaxHopsLeft", apart := false, narrowed := true }
def FnExactMaxHopsLeftUptoSaid : Prop := fnExactMaxHopsLeftUptoRow.holds Tryz.pinned (OpenSpec.upto fnExactMaxHopsLeftSpec)

/-- 'laws.FnExactLargestNode', WHERE WHAT IT READS IS OF BULK AT MOST 1048576: true; the input reads as it did. -/
def fnExactLargestNodeUptoRow : OpenClaim := { program := "ytogjaminmgiofaagreat", sum := "28f940e8b30141ec12c512b9bc1a04bd42b84bf8f59f970904ffed77fd37aee9", func := "loop.example/g00507/laws.FnExactLargestNode", spec := "fnExactLargestNode", apart := false, narrowed := true }
def FnExactLargestNodeUptoSaid : Prop := fnExactLargestNodeUptoRow.holds Tryz.pinned (OpenSpec.upto fnExactLargestNodeSpec)

/-- 'laws.FnExactProducerOf', WHERE WHAT IT READS IS OF BULK AT MOST 1048576: true; the input reads as it did. -/
def fnExactProducerOfUptoRow : OpenClaim := { program := "ytogjaminmgiofaagreat", sum := "28f940e8b30141ec12c512b9bc1a04bd42b84bf8f59f970904ffed77fd37aee9", func := "loop.example/g00507/laws.FnExactProducerOf", spec := "fnExactProducerOf", apart := false, narrowed := true }
def FnExactProducerOfUptoSaid : Prop := fnExactProducerOfUptoRow.holds Tryz.pinned (OpenSpec.upto fnExactProducerOfSpec)

/-- 'laws.FnExactUnsatisfiedConsumers', WHERE WHAT IT READS IS OF BULK AT MOST 1048576: true; the input reads as it did. -/
def fnExactUnsatisfiedConsumersUptoRow : OpenClaim := { program := "ytogjaminmgiofaagreat", sum := "28f940e8b30141ec12c512b9bc1a04bd42b84bf8f59f970904ffed77fd37aee9", func := "loop.example/g00507/laws.FnExactUnsatisfiedConsumers", spec := "fnExactUnsatisfiedConsumers", apart := false, narrowed := true }
def FnExactUnsatisfiedConsumersUptoSaid : Prop := fnExactUnsatisfiedConsumersUptoRow.holds Tryz.pinned (OpenSpec.upto fnExactUnsatisfiedConsumersSpec)

/-- 'laws.FnExactReceivedData', WHERE WHAT IT READS IS OF BULK AT MOST 1048576: true; the input reads as it did. -/
def fnExactReceivedDataUptoRow : OpenClaim := { program := "ytogjaminmgiofaagreat", sum := "28f940e8b30141ec12c512b9bc1a04bd42b84bf8f59f970904ffed77fd37aee9", func := "loop.example/g00507/laws.FnExactReceivedData", spec := "fnExactReceivedData", apart := false, narrowed := true }
def FnExactReceivedDataUptoSaid : Prop := fnExactReceivedDataUptoRow.holds Tryz.pinned (OpenSpec.upto fnExactReceivedDataSpec)

/-- 'laws.FnExactAllAuthentic', WHERE WHAT IT READS IS OF BULK AT MOST 1048576: true; the input reads as it did. -/
def fnExactAllAuthenticUptoRow : OpenClaim := { program := "ytogjaminmgiofaagreat", sum := "28f940e8b30141ec12c512b9bc1a04bd42b84bf8f59f970904ffed77fd37aee9", func := "loop.example/g00507/laws.FnExactAllAuthentic", spec := "fnExactAllAuthentic", unfollowed := true, recurses := true, apart := false, narrowed := true }
def FnExactAllAuthenticUptoSaid : Prop := fnExactAllAuthenticUptoRow.holds Tryz.pinned (OpenSpec.upto fnExactAllAuthenticSpec)

end Rows
end Go.Proofs.YtogjaminmgiofaaGreat
