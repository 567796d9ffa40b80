import Derived.Test.YtifkepnfaggkiaaGreatDoorK1
import Derived.Test.YtifkepnfaggkiaaGreatDoorK2
import Derived.Test.YtifkepnfaggkiaaGreatDoorK3
import Derived.Test.YtifkepnfaggkiaaGreatDoorK4
import Derived.Test.YtifkepnfaggkiaaGreatDoorK5
import Derived.Test.YtifkepnfaggkiaaGreatDoorK6
import Derived.Test.YtifkepnfaggkiaaGreatDoorK7
import Derived.Test.YtifkepnfaggkiaaGreatDoorK8
import Derived.Test.YtifkepnfaggkiaaGreatDoorK9
import Derived.Test.YtifkepnfaggkiaaGreatDoorK10
import Derived.Test.YtifkepnfaggkiaaGreatDoorExC
namespace Go.Proofs.YtifkepnfaggkiaaGreatDoor
open Go.RowKit
set_option linter.unusedVariables false
set_option linter.unusedSimpArgs false
set_option maxRecDepth 100000
noncomputable section
def Gk (x : Nat × FE) : Prop := x.1 < 2 ^ 40 ∧ zan Tryz.prog x.1 ∧ Tryz.prog.funcs[x.1]? = some x.2.fn ∧ x.2.fn.body = some x.2.body ∧ zaA zmf x.2.body = true
theorem zye : ∀ x ∈ GL, Gk x :=
 List.forall_mem_cons.2 ⟨⟨by decide, fun _ _ => by kernel_rfl, Tryz.func5, rfl, by kernel_rfl⟩,
 List.forall_mem_cons.2 ⟨⟨by decide, fun _ _ => by kernel_rfl, Tryz.func54, rfl, by kernel_rfl⟩,
 List.forall_mem_cons.2 ⟨⟨by decide, fun _ _ => by kernel_rfl, Tryz.func243, rfl, by kernel_rfl⟩,
 List.forall_mem_cons.2 ⟨⟨by decide, fun _ _ => by kernel_rfl, Tryz.func100, rfl, by kernel_rfl⟩,
 List.forall_mem_cons.2 ⟨⟨by decide, fun _ _ => by kernel_rfl, Tryz.func257, rfl, by kernel_rfl⟩,
 List.forall_mem_cons.2 ⟨⟨by decide, fun _ _ => by kernel_rfl, Tryz.func192, rfl, by kernel_rfl⟩,
 List.forall_mem_cons.2 ⟨⟨by decide, fun _ _ => by kernel_rfl, Tryz.func151, rfl, by kernel_rfl⟩,
 List.forall_mem_cons.2 ⟨⟨by decide, fun _ _ => by kernel_rfl, Tryz.func62, rfl, by kernel_rfl⟩,
 List.forall_mem_cons.2 ⟨⟨by decide, fun _ _ => by kernel_rfl, Tryz.func147, rfl, by kernel_rfl⟩,
 List.forall_mem_cons.2 ⟨⟨by decide, fun _ _ => by kernel_rfl, Tryz.func59, rfl, by kernel_rfl⟩,
 List.forall_mem_cons.2 ⟨⟨by decide, fun _ _ => by kernel_rfl, Tryz.func63, rfl, by kernel_rfl⟩,
 List.forall_mem_cons.2 ⟨⟨by decide, fun _ _ => by kernel_rfl, Tryz.func58, rfl, by kernel_rfl⟩,
 List.forall_mem_cons.2 ⟨⟨by decide, fun _ _ => by kernel_rfl, Tryz.func90, rfl, by kernel_rfl⟩,
 List.forall_mem_cons.2 ⟨⟨by decide, fun _ _ => by kernel_rfl, Tryz.func99, rfl, by kernel_rfl⟩,
 List.forall_mem_cons.2 ⟨⟨by decide, fun _ _ => by kernel_rfl, Tryz.func286, rfl, by kernel_rfl⟩,
 List.forall_mem_cons.2 ⟨⟨by decide, fun _ _ => by kernel_rfl, Tryz.func230, rfl, by kernel_rfl⟩,
 List.forall_mem_cons.2 ⟨⟨by decide, fun _ _ => by kernel_rfl, Tryz.func138, rfl, by kernel_rfl⟩,
 List.forall_mem_cons.2 ⟨⟨by decide, fun _ _ => by kernel_rfl, Tryz.func193, rfl, by kernel_rfl⟩,
 List.forall_mem_cons.2 ⟨⟨by decide, fun _ _ => by kernel_rfl, Tryz.func98, rfl, by kernel_rfl⟩,
 List.forall_mem_cons.2 ⟨⟨by decide, fun _ _ => by kernel_rfl, Tryz.func240, rfl, by kernel_rfl⟩,
 List.forall_mem_cons.2 ⟨⟨by decide, fun _ _ => by kernel_rfl, Tryz.func144, rfl, by kernel_rfl⟩,
 List.forall_mem_cons.2 ⟨⟨by decide, fun _ _ => by kernel_rfl, Tryz.func146, rfl, by kernel_rfl⟩,
 List.forall_mem_cons.2 ⟨⟨by decide, fun _ _ => by kernel_rfl, Tryz.func56, rfl, by kernel_rfl⟩,
 List.forall_mem_cons.2 ⟨⟨by decide, fun _ _ => by kernel_rfl, Tryz.func242, rfl, by kernel_rfl⟩,
 List.forall_mem_cons.2 ⟨⟨by decide, fun _ _ => by kernel_rfl, Tryz.func194, rfl, by kernel_rfl⟩,
 List.forall_mem_cons.2 ⟨⟨by decide, fun _ _ => by kernel_rfl, Tryz.func101, rfl, by kernel_rfl⟩,
 List.forall_mem_cons.2 ⟨⟨by decide, fun _ _ => by kernel_rfl, Tryz.func241, rfl, by kernel_rfl⟩,
 List.forall_mem_cons.2 ⟨⟨by decide, fun _ _ => by kernel_rfl, Tryz.func145, rfl, by kernel_rfl⟩,
 List.forall_mem_cons.2 ⟨⟨by decide, fun _ _ => by kernel_rfl, Tryz.func55, rfl, by kernel_rfl⟩,
 List.forall_mem_cons.2 ⟨⟨by decide, fun _ _ => by kernel_rfl, Tryz.func57, rfl, by kernel_rfl⟩,
 List.forall_mem_cons.2 ⟨⟨by decide, fun _ _ => by kernel_rfl, Tryz.func60, rfl, by kernel_rfl⟩,
 List.forall_mem_cons.2 ⟨⟨by decide, fun _ _ => by kernel_rfl, Tryz.func6, rfl, by kernel_rfl⟩,
 List.forall_mem_cons.2 ⟨⟨by decide, fun _ _ => by kernel_rfl, Tryz.func64, rfl, by kernel_rfl⟩,
 List.forall_mem_cons.2 ⟨⟨by decide, fun _ _ => by kernel_rfl, Tryz.func65, rfl, by kernel_rfl⟩,
 List.forall_mem_cons.2 ⟨⟨by decide, fun _ _ => by kernel_rfl, Tryz.func149, rfl, by kernel_rfl⟩,
 List.forall_mem_cons.2 ⟨⟨by decide, fun _ _ => by kernel_rfl, Tryz.func148, rfl, by kernel_rfl⟩,
 List.forall_mem_cons.2 ⟨⟨by decide, fun _ _ => by kernel_rfl, Tryz.func150, rfl, by kernel_rfl⟩,
 List.forall_mem_cons.2 ⟨⟨by decide, fun _ _ => by kernel_rfl, Tryz.func61, rfl, by kernel_rfl⟩,
 List.forall_mem_cons.2 ⟨⟨by decide, fun _ _ => by kernel_rfl, Tryz.func7, rfl, by kernel_rfl⟩,
 List.forall_mem_cons.2 ⟨⟨by decide, fun _ _ => by kernel_rfl, Tryz.func75, rfl, by kernel_rfl⟩,
 List.forall_mem_cons.2 ⟨⟨by decide, fun _ _ => by kernel_rfl, Tryz.func172, rfl, by kernel_rfl⟩,
 List.forall_mem_cons.2 ⟨⟨by decide, fun _ _ => by kernel_rfl, Tryz.func97, rfl, by kernel_rfl⟩,
 List.forall_mem_cons.2 ⟨⟨by decide, fun _ _ => by kernel_rfl, Tryz.func233, rfl, by kernel_rfl⟩,
 List.forall_mem_cons.2 ⟨⟨by decide, fun _ _ => by kernel_rfl, Tryz.func232, rfl, by kernel_rfl⟩,
 List.forall_mem_cons.2 ⟨⟨by decide, fun _ _ => by kernel_rfl, Tryz.func287, rfl, by kernel_rfl⟩,
 List.forall_mem_cons.2 ⟨⟨by decide, fun _ _ => by kernel_rfl, Tryz.func231, rfl, by kernel_rfl⟩,
 List.forall_mem_cons.2 ⟨⟨by decide, fun _ _ => by kernel_rfl, Tryz.func139, rfl, by kernel_rfl⟩,
 List.forall_mem_cons.2 ⟨⟨by decide, fun _ _ => by kernel_rfl, Tryz.func187, rfl, by kernel_rfl⟩,
 List.forall_mem_cons.2 ⟨⟨by decide, fun _ _ => by kernel_rfl, Tryz.func152, rfl, by kernel_rfl⟩,
 List.forall_mem_cons.2 ⟨⟨by decide, fun _ _ => by kernel_rfl, Tryz.func66, rfl, by kernel_rfl⟩,
 List.forall_mem_cons.2 ⟨⟨by decide, fun _ _ => by kernel_rfl, Tryz.func95, rfl, by kernel_rfl⟩,
 List.forall_mem_cons.2 ⟨⟨by decide, fun _ _ => by kernel_rfl, Tryz.func196, rfl, by kernel_rfl⟩,
 List.forall_mem_cons.2 ⟨⟨by decide, fun _ _ => by kernel_rfl, Tryz.func136, rfl, by kernel_rfl⟩,
 List.forall_mem_cons.2 ⟨⟨by decide, fun _ _ => by kernel_rfl, Tryz.func94, rfl, by kernel_rfl⟩,
 List.forall_mem_cons.2 ⟨⟨by decide, fun _ _ => by kernel_rfl, Tryz.func191, rfl, by kernel_rfl⟩,
 List.forall_mem_cons.2 ⟨⟨by decide, fun _ _ => by kernel_rfl, Tryz.func195, rfl, by kernel_rfl⟩,
 List.forall_mem_cons.2 ⟨⟨by decide, fun _ _ => by kernel_rfl, Tryz.func102, rfl, by kernel_rfl⟩,
 List.forall_mem_cons.2 ⟨⟨by decide, fun _ _ => by kernel_rfl, Tryz.func96, rfl, by kernel_rfl⟩,
 List.forall_mem_cons.2 ⟨⟨by decide, fun _ _ => by kernel_rfl, Tryz.func24, rfl, by kernel_rfl⟩,
 List.forall_mem_cons.2 ⟨⟨by decide, fun _ _ => by kernel_rfl, Tryz.func159, rfl, by kernel_rfl⟩,
 List.forall_mem_cons.2 ⟨⟨by decide, fun _ _ => by kernel_rfl, Tryz.func248, rfl, by kernel_rfl⟩,
 List.forall_mem_cons.2 ⟨⟨by decide, fun _ _ => by kernel_rfl, Tryz.func289, rfl, by kernel_rfl⟩,
 List.forall_mem_cons.2 ⟨⟨by decide, fun _ _ => by kernel_rfl, Tryz.func247, rfl, by kernel_rfl⟩,
 List.forall_mem_cons.2 ⟨⟨by decide, fun _ _ => by kernel_rfl, Tryz.func158, rfl, by kernel_rfl⟩,
 List.forall_mem_cons.2 ⟨⟨by decide, fun _ _ => by kernel_rfl, Tryz.func161, rfl, by kernel_rfl⟩,
 List.forall_mem_cons.2 ⟨⟨by decide, fun _ _ => by kernel_rfl, Tryz.func69, rfl, by kernel_rfl⟩,
 List.forall_mem_cons.2 ⟨⟨by decide, fun _ _ => by kernel_rfl, Tryz.func156, rfl, by kernel_rfl⟩,
 List.forall_mem_cons.2 ⟨⟨by decide, fun _ _ => by kernel_rfl, Tryz.func246, rfl, by kernel_rfl⟩,
 List.forall_mem_cons.2 ⟨⟨by decide, fun _ _ => by kernel_rfl, Tryz.func157, rfl, by kernel_rfl⟩,
 List.forall_mem_cons.2 ⟨⟨by decide, fun _ _ => by kernel_rfl, Tryz.func160, rfl, by kernel_rfl⟩,
 List.forall_mem_cons.2 ⟨⟨by decide, fun _ _ => by kernel_rfl, Tryz.func68, rfl, by kernel_rfl⟩,
 List.forall_mem_cons.2 ⟨⟨by decide, fun _ _ => by kernel_rfl, Tryz.func153, rfl, by kernel_rfl⟩,
 List.forall_mem_cons.2 ⟨⟨by decide, fun _ _ => by kernel_rfl, Tryz.func244, rfl, by kernel_rfl⟩,
 List.forall_mem_cons.2 ⟨⟨by decide, fun _ _ => by kernel_rfl, Tryz.func307, rfl, by kernel_rfl⟩,
 List.forall_mem_cons.2 ⟨⟨by decide, fun _ _ => by kernel_rfl, Tryz.func288, rfl, by kernel_rfl⟩,
 List.forall_mem_cons.2 ⟨⟨by decide, fun _ _ => by kernel_rfl, Tryz.func245, rfl, by kernel_rfl⟩,
 List.forall_mem_cons.2 ⟨⟨by decide, fun _ _ => by kernel_rfl, Tryz.func154, rfl, by kernel_rfl⟩,
 List.forall_mem_cons.2 ⟨⟨by decide, fun _ _ => by kernel_rfl, Tryz.func155, rfl, by kernel_rfl⟩,
 List.forall_mem_cons.2 ⟨⟨by decide, fun _ _ => by kernel_rfl, Tryz.func67, rfl, by kernel_rfl⟩,
 List.forall_mem_cons.2 ⟨⟨by decide, fun _ _ => by kernel_rfl, Tryz.func8, rfl, by kernel_rfl⟩,
 List.forall_mem_cons.2 ⟨⟨by decide, fun _ _ => by kernel_rfl, Tryz.func80, rfl, by kernel_rfl⟩,
 List.forall_mem_cons.2 ⟨⟨by decide, fun _ _ => by kernel_rfl, Tryz.func70, rfl, by kernel_rfl⟩,
 List.forall_mem_cons.2 ⟨⟨by decide, fun _ _ => by kernel_rfl, Tryz.func25, rfl, by kernel_rfl⟩,
 List.forall_mem_cons.2 ⟨⟨by decide, fun _ _ => by kernel_rfl, Tryz.func168, rfl, by kernel_rfl⟩,
 List.forall_mem_cons.2 ⟨⟨by decide, fun _ _ => by kernel_rfl, Tryz.func256, rfl, by kernel_rfl⟩,
 List.forall_mem_cons.2 ⟨⟨by decide, fun _ _ => by kernel_rfl, Tryz.func251, rfl, by kernel_rfl⟩,
 List.forall_mem_cons.2 ⟨⟨by decide, fun _ _ => by kernel_rfl, Tryz.func167, rfl, by kernel_rfl⟩,
 List.forall_mem_cons.2 ⟨⟨by decide, fun _ _ => by kernel_rfl, Tryz.func179, rfl, by kernel_rfl⟩,
 List.forall_mem_cons.2 ⟨⟨by decide, fun _ _ => by kernel_rfl, Tryz.func170, rfl, by kernel_rfl⟩,
 List.forall_mem_cons.2 ⟨⟨by decide, fun _ _ => by kernel_rfl, Tryz.func73, rfl, by kernel_rfl⟩,
 List.forall_mem_cons.2 ⟨⟨by decide, fun _ _ => by kernel_rfl, Tryz.func165, rfl, by kernel_rfl⟩,
 List.forall_mem_cons.2 ⟨⟨by decide, fun _ _ => by kernel_rfl, Tryz.func166, rfl, by kernel_rfl⟩,
 List.forall_mem_cons.2 ⟨⟨by decide, fun _ _ => by kernel_rfl, Tryz.func169, rfl, by kernel_rfl⟩,
 List.forall_mem_cons.2 ⟨⟨by decide, fun _ _ => by kernel_rfl, Tryz.func72, rfl, by kernel_rfl⟩,
 List.forall_mem_cons.2 ⟨⟨by decide, fun _ _ => by kernel_rfl, Tryz.func163, rfl, by kernel_rfl⟩,
 List.forall_mem_cons.2 ⟨⟨by decide, fun _ _ => by kernel_rfl, Tryz.func249, rfl, by kernel_rfl⟩,
 List.forall_mem_cons.2 ⟨⟨by decide, fun _ _ => by kernel_rfl, Tryz.func308, rfl, by kernel_rfl⟩,
 List.forall_mem_cons.2 ⟨⟨by decide, fun _ _ => by kernel_rfl, Tryz.func291, rfl, by kernel_rfl⟩,
 List.forall_mem_cons.2 ⟨⟨by decide, fun _ _ => by kernel_rfl, Tryz.func250, rfl, by kernel_rfl⟩,
 List.forall_mem_cons.2 ⟨⟨by decide, fun _ _ => by kernel_rfl, Tryz.func162, rfl, by kernel_rfl⟩,
 List.forall_mem_cons.2 ⟨⟨by decide, fun _ _ => by kernel_rfl, Tryz.func164, rfl, by kernel_rfl⟩,
 List.forall_mem_cons.2 ⟨⟨by decide, fun _ _ => by kernel_rfl, Tryz.func71, rfl, by kernel_rfl⟩,
 List.forall_mem_cons.2 ⟨⟨by decide, fun _ _ => by kernel_rfl, Tryz.func9, rfl, by kernel_rfl⟩,
 List.forall_mem_cons.2 ⟨⟨by decide, fun _ _ => by kernel_rfl, Tryz.func74, rfl, by kernel_rfl⟩,
 List.forall_mem_cons.2 ⟨⟨by decide, fun _ _ => by kernel_rfl, Tryz.func10, rfl, by kernel_rfl⟩,
 List.forall_mem_cons.2 ⟨⟨by decide, fun _ _ => by kernel_rfl, Tryz.func76, rfl, by kernel_rfl⟩,
 List.forall_mem_cons.2 ⟨⟨by decide, fun _ _ => by kernel_rfl, Tryz.func104, rfl, by kernel_rfl⟩,
 List.forall_mem_cons.2 ⟨⟨by decide, fun _ _ => by kernel_rfl, Tryz.func103, rfl, by kernel_rfl⟩,
 List.forall_mem_cons.2 ⟨⟨by decide, fun _ _ => by kernel_rfl, Tryz.func26, rfl, by kernel_rfl⟩,
 List.forall_mem_cons.2 ⟨⟨by decide, fun _ _ => by kernel_rfl, Tryz.func177, rfl, by kernel_rfl⟩,
 List.forall_mem_cons.2 ⟨⟨by decide, fun _ _ => by kernel_rfl, Tryz.func78, rfl, by kernel_rfl⟩,
 List.forall_mem_cons.2 ⟨⟨by decide, fun _ _ => by kernel_rfl, Tryz.func173, rfl, by kernel_rfl⟩,
 List.forall_mem_cons.2 ⟨⟨by decide, fun _ _ => by kernel_rfl, Tryz.func254, rfl, by kernel_rfl⟩,
 List.forall_mem_cons.2 ⟨⟨by decide, fun _ _ => by kernel_rfl, Tryz.func293, rfl, by kernel_rfl⟩,
 List.forall_mem_cons.2 ⟨⟨by decide, fun _ _ => by kernel_rfl, Tryz.func253, rfl, by kernel_rfl⟩,
 List.forall_mem_cons.2 ⟨⟨by decide, fun _ _ => by kernel_rfl, Tryz.func174, rfl, by kernel_rfl⟩,
 List.forall_mem_cons.2 ⟨⟨by decide, fun _ _ => by kernel_rfl, Tryz.func175, rfl, by kernel_rfl⟩,
 List.forall_mem_cons.2 ⟨⟨by decide, fun _ _ => by kernel_rfl, Tryz.func176, rfl, by kernel_rfl⟩,
 List.forall_mem_cons.2 ⟨⟨by decide, fun _ _ => by kernel_rfl, Tryz.func77, rfl, by kernel_rfl⟩,
 List.forall_mem_cons.2 ⟨⟨by decide, fun _ _ => by kernel_rfl, Tryz.func11, rfl, by kernel_rfl⟩,
 List.forall_mem_cons.2 ⟨⟨by decide, fun _ _ => by kernel_rfl, Tryz.func79, rfl, by kernel_rfl⟩,
 List.forall_mem_cons.2 ⟨⟨by decide, fun _ _ => by kernel_rfl, Tryz.func180, rfl, by kernel_rfl⟩,
 List.forall_mem_cons.2 ⟨⟨by decide, fun _ _ => by kernel_rfl, Tryz.func82, rfl, by kernel_rfl⟩,
 List.forall_mem_cons.2 ⟨⟨by decide, fun _ _ => by kernel_rfl, Tryz.func178, rfl, by kernel_rfl⟩,
 List.forall_mem_cons.2 ⟨⟨by decide, fun _ _ => by kernel_rfl, Tryz.func81, rfl, by kernel_rfl⟩,
 List.forall_mem_cons.2 ⟨⟨by decide, fun _ _ => by kernel_rfl, Tryz.func185, rfl, by kernel_rfl⟩,
 List.forall_mem_cons.2 ⟨⟨by decide, fun _ _ => by kernel_rfl, Tryz.func84, rfl, by kernel_rfl⟩,
 List.forall_mem_cons.2 ⟨⟨by decide, fun _ _ => by kernel_rfl, Tryz.func181, rfl, by kernel_rfl⟩,
 List.forall_mem_cons.2 ⟨⟨by decide, fun _ _ => by kernel_rfl, Tryz.func255, rfl, by kernel_rfl⟩,
 List.forall_mem_cons.2 ⟨⟨by decide, fun _ _ => by kernel_rfl, Tryz.func182, rfl, by kernel_rfl⟩,
 List.forall_mem_cons.2 ⟨⟨by decide, fun _ _ => by kernel_rfl, Tryz.func183, rfl, by kernel_rfl⟩,
 List.forall_mem_cons.2 ⟨⟨by decide, fun _ _ => by kernel_rfl, Tryz.func184, rfl, by kernel_rfl⟩,
 List.forall_mem_cons.2 ⟨⟨by decide, fun _ _ => by kernel_rfl, Tryz.func83, rfl, by kernel_rfl⟩,
 List.forall_mem_cons.2 ⟨⟨by decide, fun _ _ => by kernel_rfl, Tryz.func12, rfl, by kernel_rfl⟩,
 List.forall_mem_cons.2 ⟨⟨by decide, fun _ _ => by kernel_rfl, Tryz.func13, rfl, by kernel_rfl⟩,
 List.forall_mem_cons.2 ⟨⟨by decide, fun _ _ => by kernel_rfl, Tryz.func14, rfl, by kernel_rfl⟩,
 List.forall_mem_cons.2 ⟨⟨by decide, fun _ _ => by kernel_rfl, Tryz.func15, rfl, by kernel_rfl⟩,
 List.forall_mem_cons.2 ⟨⟨by decide, fun _ _ => by kernel_rfl, Tryz.func186, rfl, by kernel_rfl⟩,
 List.forall_mem_cons.2 ⟨⟨by decide, fun _ _ => by kernel_rfl, Tryz.func85, rfl, by kernel_rfl⟩,
 List.forall_mem_cons.2 ⟨⟨by decide, fun _ _ => by kernel_rfl, Tryz.func17, rfl, by kernel_rfl⟩,
 List.forall_mem_cons.2 ⟨⟨by decide, fun _ _ => by kernel_rfl, Tryz.func16, rfl, by kernel_rfl⟩,
 List.forall_mem_cons.2 ⟨⟨by decide, fun _ _ => by kernel_rfl, Tryz.func88, rfl, by kernel_rfl⟩,
 List.forall_mem_cons.2 ⟨⟨by decide, fun _ _ => by kernel_rfl, Tryz.func189, rfl, by kernel_rfl⟩,
 List.forall_mem_cons.2 ⟨⟨by decide, fun _ _ => by kernel_rfl, Tryz.func190, rfl, by kernel_rfl⟩,
 List.forall_mem_cons.2 ⟨⟨by decide, fun _ _ => by kernel_rfl, Tryz.func89, rfl, by kernel_rfl⟩,
 List.forall_mem_cons.2 ⟨⟨by decide, fun _ _ => by kernel_rfl, Tryz.func19, rfl, by kernel_rfl⟩,
 List.forall_mem_cons.2 ⟨⟨by decide, fun _ _ => by kernel_rfl, Tryz.func91, rfl, by kernel_rfl⟩,
 List.forall_mem_cons.2 ⟨⟨by decide, fun _ _ => by kernel_rfl, Tryz.func20, rfl, by kernel_rfl⟩,
 List.forall_mem_cons.2 ⟨⟨by decide, fun _ _ => by kernel_rfl, Tryz.func86, rfl, by kernel_rfl⟩,
 List.forall_mem_cons.2 ⟨⟨by decide, fun _ _ => by kernel_rfl, Tryz.func87, rfl, by kernel_rfl⟩,
 List.forall_mem_cons.2 ⟨⟨by decide, fun _ _ => by kernel_rfl, Tryz.func18, rfl, by kernel_rfl⟩,
 List.forall_mem_cons.2 ⟨⟨by decide, fun _ _ => by kernel_rfl, Tryz.func92, rfl, by kernel_rfl⟩,
 List.forall_mem_cons.2 ⟨⟨by decide, fun _ _ => by kernel_rfl, Tryz.func22, rfl, by kernel_rfl⟩,
 List.forall_mem_cons.2 ⟨⟨by decide, fun _ _ => by kernel_rfl, Tryz.func93, rfl, by kernel_rfl⟩,
 List.forall_mem_cons.2 ⟨⟨by decide, fun _ _ => by kernel_rfl, Tryz.func23, rfl, by kernel_rfl⟩,
 List.forall_mem_cons.2 ⟨⟨by decide, fun _ _ => by kernel_rfl, Tryz.func21, rfl, by kernel_rfl⟩,
 List.forall_mem_cons.2 ⟨⟨by decide, fun _ _ => by kernel_rfl, Tryz.func27, rfl, by kernel_rfl⟩,
 List.forall_mem_cons.2 ⟨⟨by decide, fun _ _ => by kernel_rfl, Tryz.func3, rfl, by kernel_rfl⟩,
 fun _ h => nomatch h⟩⟩⟩⟩⟩⟩⟩⟩⟩⟩⟩⟩⟩⟩⟩⟩⟩⟩⟩⟩⟩⟩⟩⟩⟩⟩⟩⟩⟩⟩⟩⟩⟩⟩⟩⟩⟩⟩⟩⟩⟩⟩⟩⟩⟩⟩⟩⟩⟩⟩⟩⟩⟩⟩⟩⟩⟩⟩⟩⟩⟩⟩⟩⟩⟩⟩⟩⟩⟩⟩⟩⟩⟩⟩⟩⟩⟩⟩⟩⟩⟩⟩⟩⟩⟩⟩⟩⟩⟩⟩⟩⟩⟩⟩⟩⟩⟩⟩⟩⟩⟩⟩⟩⟩⟩⟩⟩⟩⟩⟩⟩⟩⟩⟩⟩⟩⟩⟩⟩⟩⟩⟩⟩⟩⟩⟩⟩⟩⟩⟩⟩⟩⟩⟩⟩⟩⟩⟩⟩⟩⟩⟩⟩⟩⟩⟩⟩⟩⟩⟩⟩⟩⟩⟩⟩⟩⟩⟩
theorem zpn (f : FuncId) (fe : FE) (h : GT f = some fe) : f < 2 ^ 40 ∧ zan Tryz.prog f ∧ Tryz.prog.funcs[f]? = some fe.fn ∧ fe.fn.body = some fe.body ∧ zaA zmf fe.body = true := by
 unfold GT at h
 cases hx : GL.find? fun x => Nat.beq x.1 f with
 | none => rw [hx] at h; cases h
 | some x =>
  rw [hx] at h
  injection h with h
  have h1 : x.1 = f := Nat.eq_of_beq_eq_true (List.find?_some (p := fun x : Nat × FE => Nat.beq x.1 f) hx)
  have h2 := zye x (List.mem_of_find?_eq_some hx)
  subst h1
  subst h
  exact h2
theorem ztP {G : FuncId → Option FE} {X : Fns} {T : TT} {n : Nat} {f g : FuncId} {fe : FE} {xs : List Arg} (h1 : G f = none) (h2 : zfp f = none) (h3 : spcF f = some g) (h4 : G g = some fe) : ev prims G X T (n + 1) f xs = zfY pk0.p pk0.al T (ev prims G X T n) g fe xs := by
 have e1 : pk0.p = prims := rfl
 have e2 : pk0.al = fun F lv => zad F lv fuel := rfl
 rw [e1, e2]
 simp only [ev, h1, h2, h3, h4]
namespace R0
def FT (n : Nat) : Fns := ev prims GT (fun _ _ => none) TY n
theorem FT_ok (w0 : World) (hX : Sound Tryz.prog (fun _ _ => none) (bs0 w0)) (n : Nat) : Sound Tryz.prog (FT n) (bs0 w0) := zhB zpp (fun F w hF => zj3 (by kernel_rfl) zpp hF) zry hX ⟨rfl, rfl⟩ zpn n
theorem zdV {f : FuncId} {fe : FE} (hG : GT f = some fe) (n : Nat) (xs : List Arg) : FT (n + 1) f xs = zfd prims (fun F lv => zad F lv fuel) TY (FT n) fe xs := by
 show (match GT f with | some fe => zfd prims (fun F lv => zad F lv fuel) TY (FT n) fe xs | none => _) = _
 rw [hG]
theorem FT_x {f : FuncId} (hG : GT f = none) (hv : zfp f = none) (hs : spcF f = none) (n : Nat) (xs : List Arg) : FT n f xs = (fun _ _ => none) f xs := by
 cases n with
 | zero => rfl
 | succ n =>
  show (match GT f with | some fe => zfd prims (fun F lv => zad F lv fuel) TY (FT n) fe xs | none => match zfp f with | some g => _ | none => match spcF f with | some g => _ | none => _) = _
  rw [hG, hv, hs]
theorem nx (n : Nat) : Nx GT pk0 (FT n) (FT (n + 1)) := fun _ _ h xs => zdV h n xs
theorem nx2 (n : Nat) : Nx2 GT pk0 (FT n) (FT (n + 1)) := fun f fe h hs xs => by
 have h1 : GT (f + mutK) = none := by
  cases hg : GT (f + mutK) with
  | none => rfl
  | some fe' => exact absurd (zpn _ _ hg).1 (Nat.not_lt.2 (Nat.le_add_left _ _))
 have h2 : zfp (f + mutK) = none := by
  unfold zfp
  rw [if_neg (fun h => by have := h.2; simp [viewIds] at this)]
 have h3 : spcF (f + mutK) = some f := by
  unfold spcF mutK
  rw [if_pos ⟨Nat.le_add_left _ _, by rw [Nat.add_sub_cancel]; exact hs⟩, Nat.add_sub_cancel]
 exact ztP h1 h2 h3 h
theorem h_C0 (n : Nat) (h : 1 ≤ n) : C0 pk0 (FT n) := by
 obtain ⟨m, rfl⟩ : ∃ m, n = m + 1 := ⟨n - 1, by omega⟩
 exact tC0 (nx m) (nx2 m) 
theorem h_C1 (n : Nat) (h : 2 ≤ n) : C1 pk0 (FT n) := by
 obtain ⟨m, rfl⟩ : ∃ m, n = m + 1 := ⟨n - 1, by omega⟩
 exact tC1 (nx m) (nx2 m) (h_C0 m (by omega))
theorem h_C2 (n : Nat) (h : 3 ≤ n) : C2 pk0 (FT n) := by
 obtain ⟨m, rfl⟩ : ∃ m, n = m + 1 := ⟨n - 1, by omega⟩
 exact tC2 (nx m) (nx2 m) (h_C1 m (by omega))
theorem h_C3 (n : Nat) (h : 4 ≤ n) : C3 pk0 (FT n) := by
 obtain ⟨m, rfl⟩ : ∃ m, n = m + 1 := ⟨n - 1, by omega⟩
 exact tC3 (nx m) (nx2 m) (h_C2 m (by omega))
end R0
end
end Go.Proofs.YtifkepnfaggkiaaGreatDoor
