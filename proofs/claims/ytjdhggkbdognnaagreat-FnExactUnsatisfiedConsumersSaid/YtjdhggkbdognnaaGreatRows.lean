/-
  No cell of these rows narrows 'for every input' (looked for: loops, veiled, ifaces, maps, wideKeys, modest, calm, conditions, laid).
  DERIVED. THE GIVEN ROWS OF THIS SEAT. 4 by the template 'for every input the law returns true; each argument reads behind the call as it read before'; 0 by the template 'total and deterministic' (their statements: YtjdhggkbdognnaaGreatTotals.lean).
  GIVEN WITH THE SEED: the statements are not yours to turn. If you find one false, say at which input.
  Laid BY PROGRAM, IN A SANDBOX (cutbox-rows.mjs): the forced cells as the released guide's own fill.sh prints them over the translation e08f0fd97fc7bbf4… (all of the seat's roots in one cut). By AI agents, Wed Nov 11 2026. No macro, syntax, notation, axiom, sorry.
-/
import Derived.Test.YtjdhggkbdognnaaGreatChecked
import GoSem.Claim
import GoSem.ClaimJoined
import GoSem.ClaimMapViews
import Derived.JoinedTies
import Derived.KernelRfl
namespace Go.Proofs.YtjdhggkbdognnaaGreat
/- THE CELL 'sum', in the pinned program and in every row, IS THE sha256 OF THE DUMP (.gsa) THAT YtjdhggkbdognnaaGreatProg.lean LOADS. Nothing in Lean hashes anything: it is a label: what it is worth is what the hold of that sum in a sandbox is worth. -/
noncomputable def Tryz.pinned : Pinned := { name := "ytjdhggkbdognnaagreat", sum := "e08f0fd97fc7bbf4267c90d818f255fa497bf1c23ec427dfa2e889c87d07c264", checked := Tryz.checked }
namespace Rows
def none {H : Type} : Left H := { results := [], args := [] }

/-- 'laws.FnExactProducerOf': WHATEVER THE INPUT: true; the input reads as it did. -/
def fnExactProducerOfSpec : ChangeSpec := { name := "fnExactProducerOf", fn := fun _ => fun
  | [d1, d2] => { results := [.lit (.bool true)], args := [d1, d2] }
  | _ => none }
def fnExactProducerOfRow : OpenClaim := { program := "ytjdhggkbdognnaagreat", sum := "e08f0fd97fc7bbf4267c90d818f255fa497bf1c23ec427dfa2e889c87d07c264", func := "loop.example/g00507/laws.FnExactProducerOf", spec := "fnExactProducerOf", apart := false }
def FnExactProducerOfSaid : Prop := fnExactProducerOfRow.holds Tryz.pinned (OpenSpec.ofChange fnExactProducerOfSpec)

/-- ITS FALSE NEIGHBOUR: 'it returns false'. Refute it at one input. -/
def fnExactProducerOfWrong : ChangeSpec := { name := "fnExactProducerOf", fn := fun _ => fun
  | [d1, d2] => { results := [.lit (.bool false)], args := [d1, d2] }
  | _ => none }
def FnExactProducerOfWrongFalsely : Prop := fnExactProducerOfRow.holds Tryz.pinned (OpenSpec.ofChange fnExactProducerOfWrong)

/-- 'laws.FnExactAllAuthentic': WHATEVER THE INPUT: true; the input reads as it did. -/
def fnExactAllAuthenticSpec : ChangeSpec := { name := "fnExactAllAuthentic", fn := fun _ => fun
  | [d] => { results := [.lit (.bool true)], args := [d] }
  | _ => none }
def fnExactAllAuthenticRow : OpenClaim := { program := "ytjdhggkbdognnaagreat", sum := "e08f0fd97fc7bbf4267c90d818f255fa497bf1c23ec427dfa2e889c87d07c264", func := "loop.example/g00507/laws.FnExactAllAuthentic", spec := "fnExactAllAuthentic", unfollowed := true, recurses := true, apart := false }
def FnExactAllAuthenticSaid : Prop := fnExactAllAuthenticRow.holds Tryz.pinned (OpenSpec.ofChange fnExactAllAuthenticSpec)

/-- ITS FALSE NEIGHBOUR: 'it returns false'. Refute it at one input. -/
def fnExactAllAuthenticWrong : ChangeSpec := { name := "fnExactAllAuthentic", fn := fun _ => fun
  | [d] => { results := [.lit (.bool false)], args := [d] }
  | _ => none }
def FnExactAllAuthenticWrongFalsely : Prop := fnExactAllAuthenticRow.holds Tryz.pinned (OpenSpec.ofChange fnExactAllAuthenticWrong)

/-- 'laws.FnExactUnsatisfiedConsumers': WHATEVER THE INPUT: true; the input reads as it did. -/
def fnExactUnsatisfiedConsumersSpec : ChangeSpec := { name := "fnExactUnsatisfiedConsumers", fn := fun _ => fun
  | [d] => { results := [.lit (.bool true)], args := [d] }
  | _ => none }
def fnExactUnsatisfiedConsumersRow : OpenClaim := { program := "ytjdhggkbdognnaagreat", sum := "e08f0fd97fc7bbf4267c90d818f255fa497bf1c23ec427dfa2e889c87d07c264", func := "loop.example/g00507/laws.FnExactUnsatisfiedConsumers", spec := "fnExactUnsatisfiedConsumers", apart := false }
def FnExactUnsatisfiedConsumersSaid : Prop := fnExactUnsatisfiedConsumersRow.holds Tryz.pinned (OpenSpec.ofChange fnExactUnsatisfiedConsumersSpec)

/-- ITS FALSE NEIGHBOUR: 'it returns false'. Refute it at one input. -/
def fnExactUnsatisfiedConsumersWrong : ChangeSpec := { name := "fnExactUnsatisfiedConsumers", fn := fun _ => fun
  | [d] => { results := [.lit (.bool false)], args := [d] }
  | _ => none }
def FnExactUnsatisfiedConsumersWrongFalsely : Prop := fnExactUnsatisfiedConsumersRow.holds Tryz.pinned (OpenSpec.ofChange fnExactUnsatisfiedConsumersWrong)

/-- 'laws.FnExactReceivedData': WHATEVER THE INPUT: true; the input reads as it did. -/
def fnExactReceivedDataSpec : ChangeSpec := { name := "fnExactReceivedData", fn := fun _ => fun
  | [d] => { results := [.lit (.bool true)], args := [d] }
  | _ => none }
def fnExactReceivedDataRow : OpenClaim := { program := "ytjdhggkbdognnaagreat", sum := "e08f0fd97fc7bbf4267c90d818f255fa497bf1c23ec427dfa2e889c87d07c264", func := "loop.example/g00507/laws.FnExactReceivedData", spec := "fnExactReceivedData", apart := false }
def FnExactReceivedDataSaid : Prop := fnExactReceivedDataRow.holds Tryz.pinned (OpenSpec.ofChange fnExactReceivedDataSpec)

/-- ITS FALSE NEIGHBOUR: 'it returns false'. Refute it at one input. -/
def fnExactReceivedDataWrong : ChangeSpec := { name := "fnExactReceivedData", fn := fun _ => fun
  | [d] => { results := [.lit (.bool false)], args := [d] }
  | _ => none }
def FnExactReceivedDataWrongFalsely : Prop := fnExactReceivedDataRow.holds Tryz.pinned (OpenSpec.ofChange fnExactReceivedDataWrong)

/- THE SECOND FORM. 'bulk': how many values and letters a reading holds, each counted each time it is reached (what is shared counts as often as it is met; a slice's spare places count too). A statement '..UptoSaid' is the law's where the arguments, and the package variables that the reading takes, are together of bulk at most 1048576: NARROWER than '..Said'. Prove '..Said' where nothing that the law and all that it calls make is longer than what came in: it says more and counts as full. Else prove '..UptoSaid'. A law counts once. -/
mutual
def uptoBulk {H : Type} : DataW H → Nat
  | .lit (.string bytes) => bytes.length + 1
  | .lit _ => 1
  | .nil => 1
  | .ptr d => uptoBulk d + 1
  | .slice elems spare => uptoBulkAll elems + uptoBulkAll spare + 1
  | .agg parts => uptoBulkAll parts + 1
  | .iface _ d => uptoBulk d + 1
  | .map entries => uptoBulkEntries entries + 1
  | .held _ => 1
def uptoBulkAll {H : Type} : List (DataW H) → Nat
  | [] => 0
  | d :: r => uptoBulk d + uptoBulkAll r
def uptoBulkEntries {H : Type} : List (Lit × DataW H) → Nat
  | [] => 0
  | x :: r => uptoBulkEntry x + uptoBulkEntries r
def uptoBulkEntry {H : Type} : Lit × DataW H → Nat
  | (.string bytes, d) => bytes.length + uptoBulk d + 1
  | (_, d) => uptoBulk d + 1
 end
def uptoSmall : (H : Type) → List (DataW H) → Bool := fun _ ds => decide (uptoBulkAll ds ≤ 1048576)
def OpenSpec.upto (s : _root_.Go.ChangeSpec) : _root_.Go.OpenSpec := { _root_.Go.OpenSpec.ofChange s with cond := some uptoSmall }

/-- 'laws.FnExactProducerOf', WHERE WHAT IT READS IS OF BULK AT MOST 1048576: true; the input reads as it did. -/
def fnExactProducerOfUptoRow : OpenClaim := { program := "ytjdhggkbdognnaagreat", sum := "e08f0fd97fc7bbf4267c90d818f255fa497bf1c23ec427dfa2e889c87d07c264", func := "loop.example/g00507/laws.FnExactProducerOf", spec := "fnExactProducerOf", apart := false, narrowed := true }
def FnExactProducerOfUptoSaid : Prop := fnExactProducerOfUptoRow.holds Tryz.pinned (OpenSpec.upto fnExactProducerOfSpec)

/-- 'laws.FnExactAllAuthentic', WHERE WHAT IT READS IS OF BULK AT MOST 1048576: true; the input reads as it did. -/
def fnExactAllAuthenticUptoRow : OpenClaim := { program := "ytjdhggkbdognnaagreat", sum := "e08f0fd97fc7bbf4267c90d818f255fa497bf1c23ec427dfa2e889c87d07c264", func := "loop.example/g00507/laws.FnExactAllAuthentic", spec := "fnExactAllAuthentic", unfollowed := true, recurses := true, apart := false, narrowed := true }
def FnExactAllAuthenticUptoSaid : Prop := fnExactAllAuthenticUptoRow.holds Tryz.pinned (OpenSpec.upto fnExactAllAuthenticSpec)

/-- 'laws.FnExactUnsatisfiedConsumers', WHERE WHAT IT READS IS OF BULK AT MOST 1048576: true; the input reads as it did. -/
def fnExactUnsatisfiedConsumersUptoRow : OpenClaim := { program := "ytjdhggkbdognnaagreat", sum := "e08f0fd97fc7bbf4267c90d818f255fa497bf1c23ec427dfa2e889c87d07c264", func := "loop.example/g00507/laws.FnExactUnsatisfiedConsumers", spec := "fnExactUnsatisfiedConsumers", apart := false, narrowed := true }
def FnExactUnsatisfiedConsumersUptoSaid : Prop := fnExactUnsatisfiedConsumersUptoRow.holds Tryz.pinned (OpenSpec.upto fnExactUnsatisfiedConsumersSpec)

/-- 'laws.FnExactReceivedData', WHERE WHAT IT READS IS OF BULK AT MOST 1048576: true; the input reads as it did. -/
def fnExactReceivedDataUptoRow : OpenClaim := { program := "ytjdhggkbdognnaagreat", sum := "e08f0fd97fc7bbf4267c90d818f255fa497bf1c23ec427dfa2e889c87d07c264", func := "loop.example/g00507/laws.FnExactReceivedData", spec := "fnExactReceivedData", apart := false, narrowed := true }
def FnExactReceivedDataUptoSaid : Prop := fnExactReceivedDataUptoRow.holds Tryz.pinned (OpenSpec.upto fnExactReceivedDataSpec)

end Rows
end Go.Proofs.YtjdhggkbdognnaaGreat
