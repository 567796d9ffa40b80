import Derived.Test.YtgfmmfpafcfjpaaGreatSf
import Derived.Test.YtgfmmfpafcfjpaaGreatMut
import Derived.Test.YtgfmmfpafcfjpaaGreatK1
import Derived.Test.YtgfmmfpafcfjpaaGreatK2
import Derived.Test.YtgfmmfpafcfjpaaGreatK3
import Derived.Test.YtgfmmfpafcfjpaaGreatK4
import Derived.Test.YtgfmmfpafcfjpaaGreatK5
namespace Go.Proofs.YtgfmmfpafcfjpaaGreat
open Go.RowKit
set_option linter.unusedVariables false
set_option linter.unusedSimpArgs false
set_option maxRecDepth 100000
noncomputable section
def Gk (x : Nat × FE) : Prop := x.1 < 2 ^ 40 ∧ Enters Tryz.prog x.1 ∧ Tryz.prog.funcs[x.1]? = some x.2.fn ∧ x.2.fn.body = some x.2.body ∧ codeOk drawOk x.2.body = true
theorem GL_ok : ∀ x ∈ GL, Gk x :=
 List.forall_mem_cons.2 ⟨⟨by decide, fun _ _ => by kernel_rfl, Tryz.func171, rfl, by kernel_rfl⟩,
 List.forall_mem_cons.2 ⟨⟨by decide, fun _ _ => by kernel_rfl, Tryz.func65, rfl, by kernel_rfl⟩,
 List.forall_mem_cons.2 ⟨⟨by decide, fun _ _ => by kernel_rfl, Tryz.func177, rfl, by kernel_rfl⟩,
 List.forall_mem_cons.2 ⟨⟨by decide, fun _ _ => by kernel_rfl, Tryz.func72, rfl, by kernel_rfl⟩,
 List.forall_mem_cons.2 ⟨⟨by decide, fun _ _ => by kernel_rfl, Tryz.func254, rfl, by kernel_rfl⟩,
 List.forall_mem_cons.2 ⟨⟨by decide, fun _ _ => by kernel_rfl, Tryz.func172, rfl, by kernel_rfl⟩,
 List.forall_mem_cons.2 ⟨⟨by decide, fun _ _ => by kernel_rfl, Tryz.func312, rfl, by kernel_rfl⟩,
 List.forall_mem_cons.2 ⟨⟨by decide, fun _ _ => by kernel_rfl, Tryz.func255, rfl, by kernel_rfl⟩,
 List.forall_mem_cons.2 ⟨⟨by decide, fun _ _ => by kernel_rfl, Tryz.func173, rfl, by kernel_rfl⟩,
 List.forall_mem_cons.2 ⟨⟨by decide, fun _ _ => by kernel_rfl, Tryz.func174, rfl, by kernel_rfl⟩,
 List.forall_mem_cons.2 ⟨⟨by decide, fun _ _ => by kernel_rfl, Tryz.func178, rfl, by kernel_rfl⟩,
 List.forall_mem_cons.2 ⟨⟨by decide, fun _ _ => by kernel_rfl, Tryz.func73, rfl, by kernel_rfl⟩,
 List.forall_mem_cons.2 ⟨⟨by decide, fun _ _ => by kernel_rfl, Tryz.func27, rfl, by kernel_rfl⟩,
 List.forall_mem_cons.2 ⟨⟨by decide, fun _ _ => by kernel_rfl, Tryz.func66, rfl, by kernel_rfl⟩,
 List.forall_mem_cons.2 ⟨⟨by decide, fun _ _ => by kernel_rfl, Tryz.func175, rfl, by kernel_rfl⟩,
 List.forall_mem_cons.2 ⟨⟨by decide, fun _ _ => by kernel_rfl, Tryz.func67, rfl, by kernel_rfl⟩,
 List.forall_mem_cons.2 ⟨⟨by decide, fun _ _ => by kernel_rfl, Tryz.func217, rfl, by kernel_rfl⟩,
 List.forall_mem_cons.2 ⟨⟨by decide, fun _ _ => by kernel_rfl, Tryz.func107, rfl, by kernel_rfl⟩,
 List.forall_mem_cons.2 ⟨⟨by decide, fun _ _ => by kernel_rfl, Tryz.func28, rfl, by kernel_rfl⟩,
 List.forall_mem_cons.2 ⟨⟨by decide, fun _ _ => by kernel_rfl, Tryz.func218, rfl, by kernel_rfl⟩,
 List.forall_mem_cons.2 ⟨⟨by decide, fun _ _ => by kernel_rfl, Tryz.func108, rfl, by kernel_rfl⟩,
 List.forall_mem_cons.2 ⟨⟨by decide, fun _ _ => by kernel_rfl, Tryz.func29, rfl, by kernel_rfl⟩,
 List.forall_mem_cons.2 ⟨⟨by decide, fun _ _ => by kernel_rfl, Tryz.func109, rfl, by kernel_rfl⟩,
 List.forall_mem_cons.2 ⟨⟨by decide, fun _ _ => by kernel_rfl, Tryz.func30, rfl, by kernel_rfl⟩,
 List.forall_mem_cons.2 ⟨⟨by decide, fun _ _ => by kernel_rfl, Tryz.func110, rfl, by kernel_rfl⟩,
 List.forall_mem_cons.2 ⟨⟨by decide, fun _ _ => by kernel_rfl, Tryz.func31, rfl, by kernel_rfl⟩,
 List.forall_mem_cons.2 ⟨⟨by decide, fun _ _ => by kernel_rfl, Tryz.func111, rfl, by kernel_rfl⟩,
 List.forall_mem_cons.2 ⟨⟨by decide, fun _ _ => by kernel_rfl, Tryz.func32, rfl, by kernel_rfl⟩,
 List.forall_mem_cons.2 ⟨⟨by decide, fun _ _ => by kernel_rfl, Tryz.func6, rfl, by kernel_rfl⟩,
 List.forall_mem_cons.2 ⟨⟨by decide, fun _ _ => by kernel_rfl, Tryz.func68, rfl, by kernel_rfl⟩,
 List.forall_mem_cons.2 ⟨⟨by decide, fun _ _ => by kernel_rfl, Tryz.func69, rfl, by kernel_rfl⟩,
 List.forall_mem_cons.2 ⟨⟨by decide, fun _ _ => by kernel_rfl, Tryz.func33, rfl, by kernel_rfl⟩,
 List.forall_mem_cons.2 ⟨⟨by decide, fun _ _ => by kernel_rfl, Tryz.func176, rfl, by kernel_rfl⟩,
 List.forall_mem_cons.2 ⟨⟨by decide, fun _ _ => by kernel_rfl, Tryz.func70, rfl, by kernel_rfl⟩,
 List.forall_mem_cons.2 ⟨⟨by decide, fun _ _ => by kernel_rfl, Tryz.func18, rfl, by kernel_rfl⟩,
 List.forall_mem_cons.2 ⟨⟨by decide, fun _ _ => by kernel_rfl, Tryz.func71, rfl, by kernel_rfl⟩,
 List.forall_mem_cons.2 ⟨⟨by decide, fun _ _ => by kernel_rfl, Tryz.func17, rfl, by kernel_rfl⟩,
 List.forall_mem_cons.2 ⟨⟨by decide, fun _ _ => by kernel_rfl, Tryz.func266, rfl, by kernel_rfl⟩,
 List.forall_mem_cons.2 ⟨⟨by decide, fun _ _ => by kernel_rfl, Tryz.func189, rfl, by kernel_rfl⟩,
 List.forall_mem_cons.2 ⟨⟨by decide, fun _ _ => by kernel_rfl, Tryz.func82, rfl, by kernel_rfl⟩,
 List.forall_mem_cons.2 ⟨⟨by decide, fun _ _ => by kernel_rfl, Tryz.func195, rfl, by kernel_rfl⟩,
 List.forall_mem_cons.2 ⟨⟨by decide, fun _ _ => by kernel_rfl, Tryz.func89, rfl, by kernel_rfl⟩,
 List.forall_mem_cons.2 ⟨⟨by decide, fun _ _ => by kernel_rfl, Tryz.func267, rfl, by kernel_rfl⟩,
 List.forall_mem_cons.2 ⟨⟨by decide, fun _ _ => by kernel_rfl, Tryz.func190, rfl, by kernel_rfl⟩,
 List.forall_mem_cons.2 ⟨⟨by decide, fun _ _ => by kernel_rfl, Tryz.func321, rfl, by kernel_rfl⟩,
 List.forall_mem_cons.2 ⟨⟨by decide, fun _ _ => by kernel_rfl, Tryz.func268, rfl, by kernel_rfl⟩,
 List.forall_mem_cons.2 ⟨⟨by decide, fun _ _ => by kernel_rfl, Tryz.func191, rfl, by kernel_rfl⟩,
 List.forall_mem_cons.2 ⟨⟨by decide, fun _ _ => by kernel_rfl, Tryz.func192, rfl, by kernel_rfl⟩,
 List.forall_mem_cons.2 ⟨⟨by decide, fun _ _ => by kernel_rfl, Tryz.func196, rfl, by kernel_rfl⟩,
 List.forall_mem_cons.2 ⟨⟨by decide, fun _ _ => by kernel_rfl, Tryz.func90, rfl, by kernel_rfl⟩,
 List.forall_mem_cons.2 ⟨⟨by decide, fun _ _ => by kernel_rfl, Tryz.func36, rfl, by kernel_rfl⟩,
 List.forall_mem_cons.2 ⟨⟨by decide, fun _ _ => by kernel_rfl, Tryz.func83, rfl, by kernel_rfl⟩,
 List.forall_mem_cons.2 ⟨⟨by decide, fun _ _ => by kernel_rfl, Tryz.func193, rfl, by kernel_rfl⟩,
 List.forall_mem_cons.2 ⟨⟨by decide, fun _ _ => by kernel_rfl, Tryz.func84, rfl, by kernel_rfl⟩,
 List.forall_mem_cons.2 ⟨⟨by decide, fun _ _ => by kernel_rfl, Tryz.func228, rfl, by kernel_rfl⟩,
 List.forall_mem_cons.2 ⟨⟨by decide, fun _ _ => by kernel_rfl, Tryz.func133, rfl, by kernel_rfl⟩,
 List.forall_mem_cons.2 ⟨⟨by decide, fun _ _ => by kernel_rfl, Tryz.func37, rfl, by kernel_rfl⟩,
 List.forall_mem_cons.2 ⟨⟨by decide, fun _ _ => by kernel_rfl, Tryz.func289, rfl, by kernel_rfl⟩,
 List.forall_mem_cons.2 ⟨⟨by decide, fun _ _ => by kernel_rfl, Tryz.func229, rfl, by kernel_rfl⟩,
 List.forall_mem_cons.2 ⟨⟨by decide, fun _ _ => by kernel_rfl, Tryz.func134, rfl, by kernel_rfl⟩,
 List.forall_mem_cons.2 ⟨⟨by decide, fun _ _ => by kernel_rfl, Tryz.func38, rfl, by kernel_rfl⟩,
 List.forall_mem_cons.2 ⟨⟨by decide, fun _ _ => by kernel_rfl, Tryz.func135, rfl, by kernel_rfl⟩,
 List.forall_mem_cons.2 ⟨⟨by decide, fun _ _ => by kernel_rfl, Tryz.func39, rfl, by kernel_rfl⟩,
 List.forall_mem_cons.2 ⟨⟨by decide, fun _ _ => by kernel_rfl, Tryz.func136, rfl, by kernel_rfl⟩,
 List.forall_mem_cons.2 ⟨⟨by decide, fun _ _ => by kernel_rfl, Tryz.func40, rfl, by kernel_rfl⟩,
 List.forall_mem_cons.2 ⟨⟨by decide, fun _ _ => by kernel_rfl, Tryz.func137, rfl, by kernel_rfl⟩,
 List.forall_mem_cons.2 ⟨⟨by decide, fun _ _ => by kernel_rfl, Tryz.func41, rfl, by kernel_rfl⟩,
 List.forall_mem_cons.2 ⟨⟨by decide, fun _ _ => by kernel_rfl, Tryz.func9, rfl, by kernel_rfl⟩,
 List.forall_mem_cons.2 ⟨⟨by decide, fun _ _ => by kernel_rfl, Tryz.func85, rfl, by kernel_rfl⟩,
 List.forall_mem_cons.2 ⟨⟨by decide, fun _ _ => by kernel_rfl, Tryz.func86, rfl, by kernel_rfl⟩,
 List.forall_mem_cons.2 ⟨⟨by decide, fun _ _ => by kernel_rfl, Tryz.func42, rfl, by kernel_rfl⟩,
 List.forall_mem_cons.2 ⟨⟨by decide, fun _ _ => by kernel_rfl, Tryz.func194, rfl, by kernel_rfl⟩,
 List.forall_mem_cons.2 ⟨⟨by decide, fun _ _ => by kernel_rfl, Tryz.func87, rfl, by kernel_rfl⟩,
 List.forall_mem_cons.2 ⟨⟨by decide, fun _ _ => by kernel_rfl, Tryz.func21, rfl, by kernel_rfl⟩,
 List.forall_mem_cons.2 ⟨⟨by decide, fun _ _ => by kernel_rfl, Tryz.func88, rfl, by kernel_rfl⟩,
 List.forall_mem_cons.2 ⟨⟨by decide, fun _ _ => by kernel_rfl, Tryz.func20, rfl, by kernel_rfl⟩,
 List.forall_mem_cons.2 ⟨⟨by decide, fun _ _ => by kernel_rfl, Tryz.func346, rfl, by kernel_rfl⟩,
 List.forall_mem_cons.2 ⟨⟨by decide, fun _ _ => by kernel_rfl, Tryz.func345, rfl, by kernel_rfl⟩,
 List.forall_mem_cons.2 ⟨⟨by decide, fun _ _ => by kernel_rfl, Tryz.func313, rfl, by kernel_rfl⟩,
 List.forall_mem_cons.2 ⟨⟨by decide, fun _ _ => by kernel_rfl, Tryz.func314, rfl, by kernel_rfl⟩,
 List.forall_mem_cons.2 ⟨⟨by decide, fun _ _ => by kernel_rfl, Tryz.func257, rfl, by kernel_rfl⟩,
 List.forall_mem_cons.2 ⟨⟨by decide, fun _ _ => by kernel_rfl, Tryz.func181, rfl, by kernel_rfl⟩,
 List.forall_mem_cons.2 ⟨⟨by decide, fun _ _ => by kernel_rfl, Tryz.func256, rfl, by kernel_rfl⟩,
 List.forall_mem_cons.2 ⟨⟨by decide, fun _ _ => by kernel_rfl, Tryz.func179, rfl, by kernel_rfl⟩,
 List.forall_mem_cons.2 ⟨⟨by decide, fun _ _ => by kernel_rfl, Tryz.func74, rfl, by kernel_rfl⟩,
 List.forall_mem_cons.2 ⟨⟨by decide, fun _ _ => by kernel_rfl, Tryz.func119, rfl, by kernel_rfl⟩,
 List.forall_mem_cons.2 ⟨⟨by decide, fun _ _ => by kernel_rfl, Tryz.func180, rfl, by kernel_rfl⟩,
 List.forall_mem_cons.2 ⟨⟨by decide, fun _ _ => by kernel_rfl, Tryz.func75, rfl, by kernel_rfl⟩,
 List.forall_mem_cons.2 ⟨⟨by decide, fun _ _ => by kernel_rfl, Tryz.func76, rfl, by kernel_rfl⟩,
 List.forall_mem_cons.2 ⟨⟨by decide, fun _ _ => by kernel_rfl, Tryz.func350, rfl, by kernel_rfl⟩,
 List.forall_mem_cons.2 ⟨⟨by decide, fun _ _ => by kernel_rfl, Tryz.func316, rfl, by kernel_rfl⟩,
 List.forall_mem_cons.2 ⟨⟨by decide, fun _ _ => by kernel_rfl, Tryz.func347, rfl, by kernel_rfl⟩,
 List.forall_mem_cons.2 ⟨⟨by decide, fun _ _ => by kernel_rfl, Tryz.func285, rfl, by kernel_rfl⟩,
 List.forall_mem_cons.2 ⟨⟨by decide, fun _ _ => by kernel_rfl, Tryz.func220, rfl, by kernel_rfl⟩,
 List.forall_mem_cons.2 ⟨⟨by decide, fun _ _ => by kernel_rfl, Tryz.func352, rfl, by kernel_rfl⟩,
 List.forall_mem_cons.2 ⟨⟨by decide, fun _ _ => by kernel_rfl, Tryz.func385, rfl, by kernel_rfl⟩,
 List.forall_mem_cons.2 ⟨⟨by decide, fun _ _ => by kernel_rfl, Tryz.func373, rfl, by kernel_rfl⟩,
 List.forall_mem_cons.2 ⟨⟨by decide, fun _ _ => by kernel_rfl, Tryz.func372, rfl, by kernel_rfl⟩,
 List.forall_mem_cons.2 ⟨⟨by decide, fun _ _ => by kernel_rfl, Tryz.func349, rfl, by kernel_rfl⟩,
 List.forall_mem_cons.2 ⟨⟨by decide, fun _ _ => by kernel_rfl, Tryz.func376, rfl, by kernel_rfl⟩,
 List.forall_mem_cons.2 ⟨⟨by decide, fun _ _ => by kernel_rfl, Tryz.func353, rfl, by kernel_rfl⟩,
 List.forall_mem_cons.2 ⟨⟨by decide, fun _ _ => by kernel_rfl, Tryz.func348, rfl, by kernel_rfl⟩,
 List.forall_mem_cons.2 ⟨⟨by decide, fun _ _ => by kernel_rfl, Tryz.func315, rfl, by kernel_rfl⟩,
 List.forall_mem_cons.2 ⟨⟨by decide, fun _ _ => by kernel_rfl, Tryz.func258, rfl, by kernel_rfl⟩,
 List.forall_mem_cons.2 ⟨⟨by decide, fun _ _ => by kernel_rfl, Tryz.func387, rfl, by kernel_rfl⟩,
 List.forall_mem_cons.2 ⟨⟨by decide, fun _ _ => by kernel_rfl, Tryz.func386, rfl, by kernel_rfl⟩,
 List.forall_mem_cons.2 ⟨⟨by decide, fun _ _ => by kernel_rfl, Tryz.func388, rfl, by kernel_rfl⟩,
 List.forall_mem_cons.2 ⟨⟨by decide, fun _ _ => by kernel_rfl, Tryz.func374, rfl, by kernel_rfl⟩,
 List.forall_mem_cons.2 ⟨⟨by decide, fun _ _ => by kernel_rfl, Tryz.func389, rfl, by kernel_rfl⟩,
 List.forall_mem_cons.2 ⟨⟨by decide, fun _ _ => by kernel_rfl, Tryz.func375, rfl, by kernel_rfl⟩,
 List.forall_mem_cons.2 ⟨⟨by decide, fun _ _ => by kernel_rfl, Tryz.func351, rfl, by kernel_rfl⟩,
 List.forall_mem_cons.2 ⟨⟨by decide, fun _ _ => by kernel_rfl, Tryz.func317, rfl, by kernel_rfl⟩,
 List.forall_mem_cons.2 ⟨⟨by decide, fun _ _ => by kernel_rfl, Tryz.func259, rfl, by kernel_rfl⟩,
 List.forall_mem_cons.2 ⟨⟨by decide, fun _ _ => by kernel_rfl, Tryz.func187, rfl, by kernel_rfl⟩,
 List.forall_mem_cons.2 ⟨⟨by decide, fun _ _ => by kernel_rfl, Tryz.func260, rfl, by kernel_rfl⟩,
 List.forall_mem_cons.2 ⟨⟨by decide, fun _ _ => by kernel_rfl, Tryz.func286, rfl, by kernel_rfl⟩,
 List.forall_mem_cons.2 ⟨⟨by decide, fun _ _ => by kernel_rfl, Tryz.func319, rfl, by kernel_rfl⟩,
 List.forall_mem_cons.2 ⟨⟨by decide, fun _ _ => by kernel_rfl, Tryz.func318, rfl, by kernel_rfl⟩,
 List.forall_mem_cons.2 ⟨⟨by decide, fun _ _ => by kernel_rfl, Tryz.func261, rfl, by kernel_rfl⟩,
 List.forall_mem_cons.2 ⟨⟨by decide, fun _ _ => by kernel_rfl, Tryz.func182, rfl, by kernel_rfl⟩,
 List.forall_mem_cons.2 ⟨⟨by decide, fun _ _ => by kernel_rfl, Tryz.func183, rfl, by kernel_rfl⟩,
 List.forall_mem_cons.2 ⟨⟨by decide, fun _ _ => by kernel_rfl, Tryz.func77, rfl, by kernel_rfl⟩,
 List.forall_mem_cons.2 ⟨⟨by decide, fun _ _ => by kernel_rfl, Tryz.func78, rfl, by kernel_rfl⟩,
 List.forall_mem_cons.2 ⟨⟨by decide, fun _ _ => by kernel_rfl, Tryz.func188, rfl, by kernel_rfl⟩,
 List.forall_mem_cons.2 ⟨⟨by decide, fun _ _ => by kernel_rfl, Tryz.func81, rfl, by kernel_rfl⟩,
 List.forall_mem_cons.2 ⟨⟨by decide, fun _ _ => by kernel_rfl, Tryz.func264, rfl, by kernel_rfl⟩,
 List.forall_mem_cons.2 ⟨⟨by decide, fun _ _ => by kernel_rfl, Tryz.func185, rfl, by kernel_rfl⟩,
 List.forall_mem_cons.2 ⟨⟨by decide, fun _ _ => by kernel_rfl, Tryz.func265, rfl, by kernel_rfl⟩,
 List.forall_mem_cons.2 ⟨⟨by decide, fun _ _ => by kernel_rfl, Tryz.func186, rfl, by kernel_rfl⟩,
 List.forall_mem_cons.2 ⟨⟨by decide, fun _ _ => by kernel_rfl, Tryz.func80, rfl, by kernel_rfl⟩,
 List.forall_mem_cons.2 ⟨⟨by decide, fun _ _ => by kernel_rfl, Tryz.func262, rfl, by kernel_rfl⟩,
 List.forall_mem_cons.2 ⟨⟨by decide, fun _ _ => by kernel_rfl, Tryz.func320, rfl, by kernel_rfl⟩,
 List.forall_mem_cons.2 ⟨⟨by decide, fun _ _ => by kernel_rfl, Tryz.func263, rfl, by kernel_rfl⟩,
 List.forall_mem_cons.2 ⟨⟨by decide, fun _ _ => by kernel_rfl, Tryz.func184, rfl, by kernel_rfl⟩,
 List.forall_mem_cons.2 ⟨⟨by decide, fun _ _ => by kernel_rfl, Tryz.func79, rfl, by kernel_rfl⟩,
 List.forall_mem_cons.2 ⟨⟨by decide, fun _ _ => by kernel_rfl, Tryz.func19, rfl, by kernel_rfl⟩,
 List.forall_mem_cons.2 ⟨⟨by decide, fun _ _ => by kernel_rfl, Tryz.func270, rfl, by kernel_rfl⟩,
 List.forall_mem_cons.2 ⟨⟨by decide, fun _ _ => by kernel_rfl, Tryz.func269, rfl, by kernel_rfl⟩,
 List.forall_mem_cons.2 ⟨⟨by decide, fun _ _ => by kernel_rfl, Tryz.func197, rfl, by kernel_rfl⟩,
 List.forall_mem_cons.2 ⟨⟨by decide, fun _ _ => by kernel_rfl, Tryz.func91, rfl, by kernel_rfl⟩,
 List.forall_mem_cons.2 ⟨⟨by decide, fun _ _ => by kernel_rfl, Tryz.func145, rfl, by kernel_rfl⟩,
 List.forall_mem_cons.2 ⟨⟨by decide, fun _ _ => by kernel_rfl, Tryz.func198, rfl, by kernel_rfl⟩,
 List.forall_mem_cons.2 ⟨⟨by decide, fun _ _ => by kernel_rfl, Tryz.func92, rfl, by kernel_rfl⟩,
 List.forall_mem_cons.2 ⟨⟨by decide, fun _ _ => by kernel_rfl, Tryz.func201, rfl, by kernel_rfl⟩,
 List.forall_mem_cons.2 ⟨⟨by decide, fun _ _ => by kernel_rfl, Tryz.func200, rfl, by kernel_rfl⟩,
 List.forall_mem_cons.2 ⟨⟨by decide, fun _ _ => by kernel_rfl, Tryz.func199, rfl, by kernel_rfl⟩,
 List.forall_mem_cons.2 ⟨⟨by decide, fun _ _ => by kernel_rfl, Tryz.func93, rfl, by kernel_rfl⟩,
 List.forall_mem_cons.2 ⟨⟨by decide, fun _ _ => by kernel_rfl, Tryz.func323, rfl, by kernel_rfl⟩,
 List.forall_mem_cons.2 ⟨⟨by decide, fun _ _ => by kernel_rfl, Tryz.func354, rfl, by kernel_rfl⟩,
 List.forall_mem_cons.2 ⟨⟨by decide, fun _ _ => by kernel_rfl, Tryz.func293, rfl, by kernel_rfl⟩,
 List.forall_mem_cons.2 ⟨⟨by decide, fun _ _ => by kernel_rfl, Tryz.func292, rfl, by kernel_rfl⟩,
 List.forall_mem_cons.2 ⟨⟨by decide, fun _ _ => by kernel_rfl, Tryz.func338, rfl, by kernel_rfl⟩,
 List.forall_mem_cons.2 ⟨⟨by decide, fun _ _ => by kernel_rfl, Tryz.func291, rfl, by kernel_rfl⟩,
 List.forall_mem_cons.2 ⟨⟨by decide, fun _ _ => by kernel_rfl, Tryz.func234, rfl, by kernel_rfl⟩,
 List.forall_mem_cons.2 ⟨⟨by decide, fun _ _ => by kernel_rfl, Tryz.func290, rfl, by kernel_rfl⟩,
 List.forall_mem_cons.2 ⟨⟨by decide, fun _ _ => by kernel_rfl, Tryz.func361, rfl, by kernel_rfl⟩,
 List.forall_mem_cons.2 ⟨⟨by decide, fun _ _ => by kernel_rfl, Tryz.func391, rfl, by kernel_rfl⟩,
 List.forall_mem_cons.2 ⟨⟨by decide, fun _ _ => by kernel_rfl, Tryz.func379, rfl, by kernel_rfl⟩,
 List.forall_mem_cons.2 ⟨⟨by decide, fun _ _ => by kernel_rfl, Tryz.func378, rfl, by kernel_rfl⟩,
 List.forall_mem_cons.2 ⟨⟨by decide, fun _ _ => by kernel_rfl, Tryz.func377, rfl, by kernel_rfl⟩,
 List.forall_mem_cons.2 ⟨⟨by decide, fun _ _ => by kernel_rfl, Tryz.func356, rfl, by kernel_rfl⟩,
 List.forall_mem_cons.2 ⟨⟨by decide, fun _ _ => by kernel_rfl, Tryz.func382, rfl, by kernel_rfl⟩,
 List.forall_mem_cons.2 ⟨⟨by decide, fun _ _ => by kernel_rfl, Tryz.func362, rfl, by kernel_rfl⟩,
 List.forall_mem_cons.2 ⟨⟨by decide, fun _ _ => by kernel_rfl, Tryz.func355, rfl, by kernel_rfl⟩,
 List.forall_mem_cons.2 ⟨⟨by decide, fun _ _ => by kernel_rfl, Tryz.func322, rfl, by kernel_rfl⟩,
 List.forall_mem_cons.2 ⟨⟨by decide, fun _ _ => by kernel_rfl, Tryz.func271, rfl, by kernel_rfl⟩,
 List.forall_mem_cons.2 ⟨⟨by decide, fun _ _ => by kernel_rfl, Tryz.func392, rfl, by kernel_rfl⟩,
 List.forall_mem_cons.2 ⟨⟨by decide, fun _ _ => by kernel_rfl, Tryz.func396, rfl, by kernel_rfl⟩,
 List.forall_mem_cons.2 ⟨⟨by decide, fun _ _ => by kernel_rfl, Tryz.func393, rfl, by kernel_rfl⟩,
 List.forall_mem_cons.2 ⟨⟨by decide, fun _ _ => by kernel_rfl, Tryz.func395, rfl, by kernel_rfl⟩,
 List.forall_mem_cons.2 ⟨⟨by decide, fun _ _ => by kernel_rfl, Tryz.func394, rfl, by kernel_rfl⟩,
 List.forall_mem_cons.2 ⟨⟨by decide, fun _ _ => by kernel_rfl, Tryz.func380, rfl, by kernel_rfl⟩,
 List.forall_mem_cons.2 ⟨⟨by decide, fun _ _ => by kernel_rfl, Tryz.func400, rfl, by kernel_rfl⟩,
 List.forall_mem_cons.2 ⟨⟨by decide, fun _ _ => by kernel_rfl, Tryz.func397, rfl, by kernel_rfl⟩,
 List.forall_mem_cons.2 ⟨⟨by decide, fun _ _ => by kernel_rfl, Tryz.func381, rfl, by kernel_rfl⟩,
 List.forall_mem_cons.2 ⟨⟨by decide, fun _ _ => by kernel_rfl, Tryz.func359, rfl, by kernel_rfl⟩,
 List.forall_mem_cons.2 ⟨⟨by decide, fun _ _ => by kernel_rfl, Tryz.func358, rfl, by kernel_rfl⟩,
 List.forall_mem_cons.2 ⟨⟨by decide, fun _ _ => by kernel_rfl, Tryz.func357, rfl, by kernel_rfl⟩,
 List.forall_mem_cons.2 ⟨⟨by decide, fun _ _ => by kernel_rfl, Tryz.func324, rfl, by kernel_rfl⟩,
 List.forall_mem_cons.2 ⟨⟨by decide, fun _ _ => by kernel_rfl, Tryz.func272, rfl, by kernel_rfl⟩,
 List.forall_mem_cons.2 ⟨⟨by decide, fun _ _ => by kernel_rfl, Tryz.func280, rfl, by kernel_rfl⟩,
 List.forall_mem_cons.2 ⟨⟨by decide, fun _ _ => by kernel_rfl, Tryz.func207, rfl, by kernel_rfl⟩,
 List.forall_mem_cons.2 ⟨⟨by decide, fun _ _ => by kernel_rfl, Tryz.func326, rfl, by kernel_rfl⟩,
 List.forall_mem_cons.2 ⟨⟨by decide, fun _ _ => by kernel_rfl, Tryz.func360, rfl, by kernel_rfl⟩,
 List.forall_mem_cons.2 ⟨⟨by decide, fun _ _ => by kernel_rfl, Tryz.func325, rfl, by kernel_rfl⟩,
 List.forall_mem_cons.2 ⟨⟨by decide, fun _ _ => by kernel_rfl, Tryz.func273, rfl, by kernel_rfl⟩,
 List.forall_mem_cons.2 ⟨⟨by decide, fun _ _ => by kernel_rfl, Tryz.func295, rfl, by kernel_rfl⟩,
 List.forall_mem_cons.2 ⟨⟨by decide, fun _ _ => by kernel_rfl, Tryz.func329, rfl, by kernel_rfl⟩,
 List.forall_mem_cons.2 ⟨⟨by decide, fun _ _ => by kernel_rfl, Tryz.func328, rfl, by kernel_rfl⟩,
 List.forall_mem_cons.2 ⟨⟨by decide, fun _ _ => by kernel_rfl, Tryz.func327, rfl, by kernel_rfl⟩,
 List.forall_mem_cons.2 ⟨⟨by decide, fun _ _ => by kernel_rfl, Tryz.func274, rfl, by kernel_rfl⟩,
 List.forall_mem_cons.2 ⟨⟨by decide, fun _ _ => by kernel_rfl, Tryz.func202, rfl, by kernel_rfl⟩,
 List.forall_mem_cons.2 ⟨⟨by decide, fun _ _ => by kernel_rfl, Tryz.func203, rfl, by kernel_rfl⟩,
 List.forall_mem_cons.2 ⟨⟨by decide, fun _ _ => by kernel_rfl, Tryz.func94, rfl, by kernel_rfl⟩,
 List.forall_mem_cons.2 ⟨⟨by decide, fun _ _ => by kernel_rfl, Tryz.func335, rfl, by kernel_rfl⟩,
 List.forall_mem_cons.2 ⟨⟨by decide, fun _ _ => by kernel_rfl, Tryz.func281, rfl, by kernel_rfl⟩,
 List.forall_mem_cons.2 ⟨⟨by decide, fun _ _ => by kernel_rfl, Tryz.func208, rfl, by kernel_rfl⟩,
 List.forall_mem_cons.2 ⟨⟨by decide, fun _ _ => by kernel_rfl, Tryz.func97, rfl, by kernel_rfl⟩,
 List.forall_mem_cons.2 ⟨⟨by decide, fun _ _ => by kernel_rfl, Tryz.func342, rfl, by kernel_rfl⟩,
 List.forall_mem_cons.2 ⟨⟨by decide, fun _ _ => by kernel_rfl, Tryz.func306, rfl, by kernel_rfl⟩,
 List.forall_mem_cons.2 ⟨⟨by decide, fun _ _ => by kernel_rfl, Tryz.func305, rfl, by kernel_rfl⟩,
 List.forall_mem_cons.2 ⟨⟨by decide, fun _ _ => by kernel_rfl, Tryz.func278, rfl, by kernel_rfl⟩,
 List.forall_mem_cons.2 ⟨⟨by decide, fun _ _ => by kernel_rfl, Tryz.func205, rfl, by kernel_rfl⟩,
 List.forall_mem_cons.2 ⟨⟨by decide, fun _ _ => by kernel_rfl, Tryz.func334, rfl, by kernel_rfl⟩,
 List.forall_mem_cons.2 ⟨⟨by decide, fun _ _ => by kernel_rfl, Tryz.func333, rfl, by kernel_rfl⟩,
 List.forall_mem_cons.2 ⟨⟨by decide, fun _ _ => by kernel_rfl, Tryz.func279, rfl, by kernel_rfl⟩,
 List.forall_mem_cons.2 ⟨⟨by decide, fun _ _ => by kernel_rfl, Tryz.func206, rfl, by kernel_rfl⟩,
 List.forall_mem_cons.2 ⟨⟨by decide, fun _ _ => by kernel_rfl, Tryz.func96, rfl, by kernel_rfl⟩,
 List.forall_mem_cons.2 ⟨⟨by decide, fun _ _ => by kernel_rfl, Tryz.func364, rfl, by kernel_rfl⟩,
 List.forall_mem_cons.2 ⟨⟨by decide, fun _ _ => by kernel_rfl, Tryz.func330, rfl, by kernel_rfl⟩,
 List.forall_mem_cons.2 ⟨⟨by decide, fun _ _ => by kernel_rfl, Tryz.func275, rfl, by kernel_rfl⟩,
 List.forall_mem_cons.2 ⟨⟨by decide, fun _ _ => by kernel_rfl, Tryz.func332, rfl, by kernel_rfl⟩,
 List.forall_mem_cons.2 ⟨⟨by decide, fun _ _ => by kernel_rfl, Tryz.func331, rfl, by kernel_rfl⟩,
 List.forall_mem_cons.2 ⟨⟨by decide, fun _ _ => by kernel_rfl, Tryz.func276, rfl, by kernel_rfl⟩,
 List.forall_mem_cons.2 ⟨⟨by decide, fun _ _ => by kernel_rfl, Tryz.func277, rfl, by kernel_rfl⟩,
 List.forall_mem_cons.2 ⟨⟨by decide, fun _ _ => by kernel_rfl, Tryz.func204, rfl, by kernel_rfl⟩,
 List.forall_mem_cons.2 ⟨⟨by decide, fun _ _ => by kernel_rfl, Tryz.func95, rfl, by kernel_rfl⟩,
 List.forall_mem_cons.2 ⟨⟨by decide, fun _ _ => by kernel_rfl, Tryz.func22, rfl, by kernel_rfl⟩,
 List.forall_mem_cons.2 ⟨⟨by decide, fun _ _ => by kernel_rfl, Tryz.func282, rfl, by kernel_rfl⟩,
 List.forall_mem_cons.2 ⟨⟨by decide, fun _ _ => by kernel_rfl, Tryz.func209, rfl, by kernel_rfl⟩,
 List.forall_mem_cons.2 ⟨⟨by decide, fun _ _ => by kernel_rfl, Tryz.func98, rfl, by kernel_rfl⟩,
 List.forall_mem_cons.2 ⟨⟨by decide, fun _ _ => by kernel_rfl, Tryz.func215, rfl, by kernel_rfl⟩,
 List.forall_mem_cons.2 ⟨⟨by decide, fun _ _ => by kernel_rfl, Tryz.func105, rfl, by kernel_rfl⟩,
 List.forall_mem_cons.2 ⟨⟨by decide, fun _ _ => by kernel_rfl, Tryz.func283, rfl, by kernel_rfl⟩,
 List.forall_mem_cons.2 ⟨⟨by decide, fun _ _ => by kernel_rfl, Tryz.func210, rfl, by kernel_rfl⟩,
 List.forall_mem_cons.2 ⟨⟨by decide, fun _ _ => by kernel_rfl, Tryz.func336, rfl, by kernel_rfl⟩,
 List.forall_mem_cons.2 ⟨⟨by decide, fun _ _ => by kernel_rfl, Tryz.func284, rfl, by kernel_rfl⟩,
 List.forall_mem_cons.2 ⟨⟨by decide, fun _ _ => by kernel_rfl, Tryz.func211, rfl, by kernel_rfl⟩,
 List.forall_mem_cons.2 ⟨⟨by decide, fun _ _ => by kernel_rfl, Tryz.func212, rfl, by kernel_rfl⟩,
 List.forall_mem_cons.2 ⟨⟨by decide, fun _ _ => by kernel_rfl, Tryz.func216, rfl, by kernel_rfl⟩,
 List.forall_mem_cons.2 ⟨⟨by decide, fun _ _ => by kernel_rfl, Tryz.func106, rfl, by kernel_rfl⟩,
 List.forall_mem_cons.2 ⟨⟨by decide, fun _ _ => by kernel_rfl, Tryz.func45, rfl, by kernel_rfl⟩,
 List.forall_mem_cons.2 ⟨⟨by decide, fun _ _ => by kernel_rfl, Tryz.func99, rfl, by kernel_rfl⟩,
 List.forall_mem_cons.2 ⟨⟨by decide, fun _ _ => by kernel_rfl, Tryz.func213, rfl, by kernel_rfl⟩,
 List.forall_mem_cons.2 ⟨⟨by decide, fun _ _ => by kernel_rfl, Tryz.func100, rfl, by kernel_rfl⟩,
 List.forall_mem_cons.2 ⟨⟨by decide, fun _ _ => by kernel_rfl, Tryz.func252, rfl, by kernel_rfl⟩,
 List.forall_mem_cons.2 ⟨⟨by decide, fun _ _ => by kernel_rfl, Tryz.func158, rfl, by kernel_rfl⟩,
 List.forall_mem_cons.2 ⟨⟨by decide, fun _ _ => by kernel_rfl, Tryz.func46, rfl, by kernel_rfl⟩,
 List.forall_mem_cons.2 ⟨⟨by decide, fun _ _ => by kernel_rfl, Tryz.func311, rfl, by kernel_rfl⟩,
 List.forall_mem_cons.2 ⟨⟨by decide, fun _ _ => by kernel_rfl, Tryz.func253, rfl, by kernel_rfl⟩,
 List.forall_mem_cons.2 ⟨⟨by decide, fun _ _ => by kernel_rfl, Tryz.func159, rfl, by kernel_rfl⟩,
 List.forall_mem_cons.2 ⟨⟨by decide, fun _ _ => by kernel_rfl, Tryz.func47, rfl, by kernel_rfl⟩,
 List.forall_mem_cons.2 ⟨⟨by decide, fun _ _ => by kernel_rfl, Tryz.func160, rfl, by kernel_rfl⟩,
 List.forall_mem_cons.2 ⟨⟨by decide, fun _ _ => by kernel_rfl, Tryz.func48, rfl, by kernel_rfl⟩,
 List.forall_mem_cons.2 ⟨⟨by decide, fun _ _ => by kernel_rfl, Tryz.func161, rfl, by kernel_rfl⟩,
 List.forall_mem_cons.2 ⟨⟨by decide, fun _ _ => by kernel_rfl, Tryz.func49, rfl, by kernel_rfl⟩,
 List.forall_mem_cons.2 ⟨⟨by decide, fun _ _ => by kernel_rfl, Tryz.func162, rfl, by kernel_rfl⟩,
 List.forall_mem_cons.2 ⟨⟨by decide, fun _ _ => by kernel_rfl, Tryz.func50, rfl, by kernel_rfl⟩,
 List.forall_mem_cons.2 ⟨⟨by decide, fun _ _ => by kernel_rfl, Tryz.func12, rfl, by kernel_rfl⟩,
 List.forall_mem_cons.2 ⟨⟨by decide, fun _ _ => by kernel_rfl, Tryz.func101, rfl, by kernel_rfl⟩,
 List.forall_mem_cons.2 ⟨⟨by decide, fun _ _ => by kernel_rfl, Tryz.func102, rfl, by kernel_rfl⟩,
 List.forall_mem_cons.2 ⟨⟨by decide, fun _ _ => by kernel_rfl, Tryz.func51, rfl, by kernel_rfl⟩,
 List.forall_mem_cons.2 ⟨⟨by decide, fun _ _ => by kernel_rfl, Tryz.func214, rfl, by kernel_rfl⟩,
 List.forall_mem_cons.2 ⟨⟨by decide, fun _ _ => by kernel_rfl, Tryz.func103, rfl, by kernel_rfl⟩,
 List.forall_mem_cons.2 ⟨⟨by decide, fun _ _ => by kernel_rfl, Tryz.func24, rfl, by kernel_rfl⟩,
 List.forall_mem_cons.2 ⟨⟨by decide, fun _ _ => by kernel_rfl, Tryz.func104, rfl, by kernel_rfl⟩,
 List.forall_mem_cons.2 ⟨⟨by decide, fun _ _ => by kernel_rfl, Tryz.func23, rfl, by kernel_rfl⟩,
 List.forall_mem_cons.2 ⟨⟨by decide, fun _ _ => by kernel_rfl, Tryz.func4, rfl, by kernel_rfl⟩,
 List.forall_mem_cons.2 ⟨⟨by decide, fun _ _ => by kernel_rfl, Tryz.func25, rfl, by kernel_rfl⟩,
 List.forall_mem_cons.2 ⟨⟨by decide, fun _ _ => by kernel_rfl, Tryz.func26, rfl, by kernel_rfl⟩,
 List.forall_mem_cons.2 ⟨⟨by decide, fun _ _ => by kernel_rfl, Tryz.func5, rfl, by kernel_rfl⟩,
 fun _ h => nomatch h⟩⟩⟩⟩⟩⟩⟩⟩⟩⟩⟩⟩⟩⟩⟩⟩⟩⟩⟩⟩⟩⟩⟩⟩⟩⟩⟩⟩⟩⟩⟩⟩⟩⟩⟩⟩⟩⟩⟩⟩⟩⟩⟩⟩⟩⟩⟩⟩⟩⟩⟩⟩⟩⟩⟩⟩⟩⟩⟩⟩⟩⟩⟩⟩⟩⟩⟩⟩⟩⟩⟩⟩⟩⟩⟩⟩⟩⟩⟩⟩⟩⟩⟩⟩⟩⟩⟩⟩⟩⟩⟩⟩⟩⟩⟩⟩⟩⟩⟩⟩⟩⟩⟩⟩⟩⟩⟩⟩⟩⟩⟩⟩⟩⟩⟩⟩⟩⟩⟩⟩⟩⟩⟩⟩⟩⟩⟩⟩⟩⟩⟩⟩⟩⟩⟩⟩⟩⟩⟩⟩⟩⟩⟩⟩⟩⟩⟩⟩⟩⟩⟩⟩⟩⟩⟩⟩⟩⟩⟩⟩⟩⟩⟩⟩⟩⟩⟩⟩⟩⟩⟩⟩⟩⟩⟩⟩⟩⟩⟩⟩⟩⟩⟩⟩⟩⟩⟩⟩⟩⟩⟩⟩⟩⟩⟩⟩⟩⟩⟩⟩⟩⟩⟩⟩⟩⟩⟩⟩⟩⟩⟩⟩⟩⟩⟩⟩⟩⟩⟩⟩⟩⟩⟩⟩⟩⟩⟩⟩⟩⟩⟩⟩⟩⟩⟩⟩⟩⟩⟩⟩⟩⟩⟩⟩⟩⟩⟩⟩⟩⟩⟩⟩⟩⟩⟩⟩⟩⟩⟩⟩⟩
theorem GT_ok (f : FuncId) (fe : FE) (h : GT f = some fe) : f < 2 ^ 40 ∧ Enters Tryz.prog f ∧ Tryz.prog.funcs[f]? = some fe.fn ∧ fe.fn.body = some fe.body ∧ codeOk drawOk fe.body = true := by
 unfold GT at h
 cases hx : GL.find? fun x => Nat.beq x.1 f with
 | none => rw [hx] at h; cases h
 | some x =>
  rw [hx] at h
  injection h with h
  have h1 : x.1 = f := Nat.eq_of_beq_eq_true (List.find?_some (p := fun x : Nat × FE => Nat.beq x.1 f) hx)
  have h2 := GL_ok x (List.mem_of_find?_eq_some hx)
  subst h1
  subst h
  exact h2
def FT (n : Nat) : Fns := ev prims GT (XT) TY n
theorem FT_ok (w0 : World) (hX : Sound Tryz.prog (XT) w0) (n : Nat) : Sound Tryz.prog (FT n) w0 := ev_sound TY_ok (fun F w hF => drawOk_sound (by kernel_rfl) TY_ok hF) canonOk hX GT_ok n
theorem FT_at {f : FuncId} {fe : FE} (hG : GT f = some fe) (n : Nat) (xs : List Arg) : FT (n + 1) f xs = evBody prims (fun F lv => aloop F lv fuel) TY (FT n) fe xs := by
 show (match GT f with | some fe => evBody prims (fun F lv => aloop F lv fuel) TY (FT n) fe xs | none => _) = _
 rw [hG]
theorem FT_x {f : FuncId} (hG : GT f = none) (hv : viewF f = none) (n : Nat) (xs : List Arg) : FT n f xs = (XT) f xs := by
 cases n with
 | zero => rfl
 | succ n =>
  show (match GT f with | some fe => evBody prims (fun F lv => aloop F lv fuel) TY (FT n) fe xs | none => match viewF f with | some g => _ | none => _) = _
  rw [hG, hv]
theorem nx (n : Nat) : Nx GT pk0 (FT n) (FT (n + 1)) := fun _ _ h xs => FT_at h n xs
theorem h_A7 (n : Nat) : A7 pk0 (FT n) := ⟨fun a1 => (FT_x rfl rfl n _).trans (xCGrow_int a1)⟩
theorem h_G1 (n : Nat) (h : 1 ≤ n) : G1 pk0 (FT n) := by
 obtain ⟨m, rfl⟩ : ∃ m, n = m + 1 := ⟨n - 1, by omega⟩
 exact tG1 (nx m) 
theorem h_G2 (n : Nat) (h : 1 ≤ n) : G2 pk0 (FT n) := by
 obtain ⟨m, rfl⟩ : ∃ m, n = m + 1 := ⟨n - 1, by omega⟩
 exact tG2 (nx m) (h_A7 m)
theorem h_G3 (n : Nat) (h : 1 ≤ n) : G3 pk0 (FT n) := by
 obtain ⟨m, rfl⟩ : ∃ m, n = m + 1 := ⟨n - 1, by omega⟩
 exact tG3 (nx m) 
theorem h_G4 (n : Nat) (h : 1 ≤ n) : G4 pk0 (FT n) := by
 obtain ⟨m, rfl⟩ : ∃ m, n = m + 1 := ⟨n - 1, by omega⟩
 exact tG4 (nx m) 
theorem h_A4 (n : Nat) (h : 1 ≤ n) : A4 pk0 (FT n) := by
 obtain ⟨m, rfl⟩ : ∃ m, n = m + 1 := ⟨n - 1, by omega⟩
 exact ⟨fun a0 => (FT_at rfl m _).trans (eCClone_byte (FT m)  a0)⟩
theorem h_A8 (n : Nat) (h : 1 ≤ n) : A8 pk0 (FT n) := by
 obtain ⟨m, rfl⟩ : ∃ m, n = m + 1 := ⟨n - 1, by omega⟩
 exact ⟨fun a0 => (FT_at rfl m _).trans (eCClone_Binding (FT m)  a0)⟩
theorem h_A9 (n : Nat) (h : 1 ≤ n) : A9 pk0 (FT n) := by
 obtain ⟨m, rfl⟩ : ∃ m, n = m + 1 := ⟨n - 1, by omega⟩
 exact ⟨fun a0 => (FT_at rfl m _).trans (eCClone_string (FT m)  a0)⟩
theorem h_G5 (n : Nat) (h : 2 ≤ n) : G5 pk0 (FT n) := by
 obtain ⟨m, rfl⟩ : ∃ m, n = m + 1 := ⟨n - 1, by omega⟩
 exact tG5 (nx m) (h_G1 m (by omega))
theorem h_G6 (n : Nat) (h : 2 ≤ n) : G6 pk0 (FT n) := by
 obtain ⟨m, rfl⟩ : ∃ m, n = m + 1 := ⟨n - 1, by omega⟩
 exact tG6 (nx m) (h_A9 m (by omega)) (h_G1 m (by omega)) (h_G2 m (by omega)) (h_G3 m (by omega))
theorem h_G7 (n : Nat) (h : 2 ≤ n) : G7 pk0 (FT n) := by
 obtain ⟨m, rfl⟩ : ∃ m, n = m + 1 := ⟨n - 1, by omega⟩
 exact tG7 (nx m) (h_G3 m (by omega)) (h_G4 m (by omega))
theorem h_A5 (n : Nat) (h : 2 ≤ n) : A5 pk0 (FT n) := by
 obtain ⟨m, rfl⟩ : ∃ m, n = m + 1 := ⟨n - 1, by omega⟩
 exact ⟨fun a0 a1 => (FT_at rfl m _).trans (eIAppendVarint (FT m) (h_A4 m (by omega)).a290 (h_G2 m (by omega)).a145 a0 a1)⟩
theorem h_G8 (n : Nat) (h : 3 ≤ n) : G8 pk0 (FT n) := by
 obtain ⟨m, rfl⟩ : ∃ m, n = m + 1 := ⟨n - 1, by omega⟩
 exact tG8 (nx m) (h_G1 m (by omega)) (h_G5 m (by omega))
theorem h_G9 (n : Nat) (h : 3 ≤ n) : G9 pk0 (FT n) := by
 obtain ⟨m, rfl⟩ : ∃ m, n = m + 1 := ⟨n - 1, by omega⟩
 exact tG9 (nx m) (h_G1 m (by omega)) (h_G2 m (by omega)) (h_G5 m (by omega)) (h_G6 m (by omega))
theorem h_G10 (n : Nat) (h : 3 ≤ n) : G10 pk0 (FT n) := by
 obtain ⟨m, rfl⟩ : ∃ m, n = m + 1 := ⟨n - 1, by omega⟩
 exact tG10 (nx m) (h_A5 m (by omega)) (h_G1 m (by omega)) (h_G2 m (by omega)) (h_G3 m (by omega)) (h_G6 m (by omega)) (h_G7 m (by omega))
theorem h_G11 (n : Nat) (h : 3 ≤ n) : G11 pk0 (FT n) := by
 obtain ⟨m, rfl⟩ : ∃ m, n = m + 1 := ⟨n - 1, by omega⟩
 exact tG11 (nx m) (h_G3 m (by omega)) (h_G7 m (by omega))
theorem h_A10 (n : Nat) (h : 3 ≤ n) : A10 pk0 (FT n) := by
 obtain ⟨m, rfl⟩ : ∃ m, n = m + 1 := ⟨n - 1, by omega⟩
 exact ⟨fun a0 a1 => (FT_at rfl m _).trans (eCRepeat_int (FT m) (h_G7 m (by omega)).a330 a0 a1)⟩
theorem h_G12 (n : Nat) (h : 4 ≤ n) : G12 pk0 (FT n) := by
 obtain ⟨m, rfl⟩ : ∃ m, n = m + 1 := ⟨n - 1, by omega⟩
 exact tG12 (nx m) (h_G5 m (by omega)) (h_G8 m (by omega)) (h_G9 m (by omega))
theorem h_G13 (n : Nat) (h : 4 ≤ n) : G13 pk0 (FT n) := by
 obtain ⟨m, rfl⟩ : ∃ m, n = m + 1 := ⟨n - 1, by omega⟩
 exact tG13 (nx m) (h_G2 m (by omega)) (h_G5 m (by omega)) (h_G6 m (by omega)) (h_G9 m (by omega))
theorem h_G14 (n : Nat) (h : 4 ≤ n) : G14 pk0 (FT n) := by
 obtain ⟨m, rfl⟩ : ∃ m, n = m + 1 := ⟨n - 1, by omega⟩
 exact tG14 (nx m) (h_A5 m (by omega)) (h_G1 m (by omega)) (h_G2 m (by omega)) (h_G3 m (by omega)) (h_G6 m (by omega)) (h_G9 m (by omega)) (h_G10 m (by omega)) (h_G11 m (by omega))
theorem h_G15 (n : Nat) (h : 4 ≤ n) : G15 pk0 (FT n) := by
 obtain ⟨m, rfl⟩ : ∃ m, n = m + 1 := ⟨n - 1, by omega⟩
 exact tG15 (nx m) (h_G7 m (by omega)) (h_G11 m (by omega))
theorem h_A1 (n : Nat) (h : 4 ≤ n) : A1 pk0 (FT n) := by
 obtain ⟨m, rfl⟩ : ∃ m, n = m + 1 := ⟨n - 1, by omega⟩
 exact ⟨fun a0 a1 => (FT_at rfl m _).trans (eSAppendName (FT m) (h_G9 m (by omega)).a220 (h_G5 m (by omega)).a352 (h_G9 m (by omega)).a385 a0 a1)⟩
theorem h_A3 (n : Nat) (h : 4 ≤ n) : A3 pk0 (FT n) := by
 obtain ⟨m, rfl⟩ : ∃ m, n = m + 1 := ⟨n - 1, by omega⟩
 exact ⟨fun a0 a1 => (FT_at rfl m _).trans (eSComputeMAC (FT m) (h_G9 m (by omega)).a353 a0 a1)⟩
theorem h_G16 (n : Nat) (h : 5 ≤ n) : G16 pk0 (FT n) := by
 obtain ⟨m, rfl⟩ : ∃ m, n = m + 1 := ⟨n - 1, by omega⟩
 exact tG16 (nx m) (h_G8 m (by omega)) (h_G12 m (by omega)) (h_G13 m (by omega)) (h_G14 m (by omega))
theorem h_G17 (n : Nat) (h : 5 ≤ n) : G17 pk0 (FT n) := by
 obtain ⟨m, rfl⟩ : ∃ m, n = m + 1 := ⟨n - 1, by omega⟩
 exact tG17 (nx m) (h_A10 m (by omega)) (h_G2 m (by omega)) (h_G6 m (by omega)) (h_G11 m (by omega)) (h_G14 m (by omega)) (h_G15 m (by omega))
theorem h_A2 (n : Nat) (h : 5 ≤ n) : A2 pk0 (FT n) := by
 obtain ⟨m, rfl⟩ : ∃ m, n = m + 1 := ⟨n - 1, by omega⟩
 exact ⟨fun a0 => (FT_at rfl m _).trans (eSSignedPortion (FT m) (h_A1 m (by omega)).a373 (h_G2 m (by omega)).a372 a0)⟩
theorem h_G18 (n : Nat) (h : 6 ≤ n) : G18 pk0 (FT n) := by
 obtain ⟨m, rfl⟩ : ∃ m, n = m + 1 := ⟨n - 1, by omega⟩
 exact tG18 (nx m) (h_A2 m (by omega)) (h_A3 m (by omega)) (h_G2 m (by omega)) (h_G5 m (by omega)) (h_G9 m (by omega)) (h_G16 m (by omega)) (h_G17 m (by omega))
theorem h_G19 (n : Nat) (h : 7 ≤ n) : G19 pk0 (FT n) := by
 obtain ⟨m, rfl⟩ : ∃ m, n = m + 1 := ⟨n - 1, by omega⟩
 exact tG19 (nx m) (h_A8 m (by omega)) (h_G2 m (by omega)) (h_G3 m (by omega)) (h_G6 m (by omega)) (h_G10 m (by omega)) (h_G12 m (by omega)) (h_G13 m (by omega)) (h_G15 m (by omega)) (h_G16 m (by omega)) (h_G18 m (by omega))
theorem h_A6 (n : Nat) (h : 7 ≤ n) : A6 pk0 (FT n) := by
 obtain ⟨m, rfl⟩ : ∃ m, n = m + 1 := ⟨n - 1, by omega⟩
 exact ⟨fun a0 a1 => (FT_at rfl m _).trans (eIAppendName (FT m) (h_G18 m (by omega)).a234 (h_A4 m (by omega)).a290 (h_A5 m (by omega)).a361 (h_G10 m (by omega)).a391 a0 a1)⟩
theorem h_G20 (n : Nat) (h : 8 ≤ n) : G20 pk0 (FT n) := by
 obtain ⟨m, rfl⟩ : ∃ m, n = m + 1 := ⟨n - 1, by omega⟩
 exact tG20 (nx m) (h_A6 m (by omega)) (h_G2 m (by omega)) (h_G9 m (by omega)) (h_G14 m (by omega)) (h_G16 m (by omega)) (h_G18 m (by omega)) (h_G19 m (by omega))
theorem h_G21 (n : Nat) (h : 9 ≤ n) : G21 pk0 (FT n) := by
 obtain ⟨m, rfl⟩ : ∃ m, n = m + 1 := ⟨n - 1, by omega⟩
 exact tG21 (nx m) (h_G1 m (by omega)) (h_G2 m (by omega)) (h_G4 m (by omega)) (h_G5 m (by omega)) (h_G6 m (by omega)) (h_G8 m (by omega)) (h_G11 m (by omega)) (h_G12 m (by omega)) (h_G13 m (by omega)) (h_G14 m (by omega)) (h_G15 m (by omega)) (h_G16 m (by omega)) (h_G17 m (by omega)) (h_G19 m (by omega)) (h_G20 m (by omega))
theorem h_G22 (n : Nat) (h : 10 ≤ n) : G22 pk0 (FT n) := by
 obtain ⟨m, rfl⟩ : ∃ m, n = m + 1 := ⟨n - 1, by omega⟩
 exact tG22 (nx m) (h_G10 m (by omega)) (h_G14 m (by omega)) (h_G21 m (by omega))
theorem h_G23 (n : Nat) (h : 11 ≤ n) : G23 pk0 (FT n) := by
 obtain ⟨m, rfl⟩ : ∃ m, n = m + 1 := ⟨n - 1, by omega⟩
 exact tG23 (nx m) (h_G2 m (by omega)) (h_G3 m (by omega)) (h_G6 m (by omega)) (h_G9 m (by omega)) (h_G10 m (by omega)) (h_G13 m (by omega)) (h_G14 m (by omega)) (h_G16 m (by omega)) (h_G18 m (by omega)) (h_G22 m (by omega))
theorem h_G24 (n : Nat) (h : 12 ≤ n) : G24 pk0 (FT n) := by
 obtain ⟨m, rfl⟩ : ∃ m, n = m + 1 := ⟨n - 1, by omega⟩
 exact tG24 (nx m) (h_G23 m (by omega))
theorem h_G25 (n : Nat) (h : 13 ≤ n) : G25 pk0 (FT n) := by
 obtain ⟨m, rfl⟩ : ∃ m, n = m + 1 := ⟨n - 1, by omega⟩
 exact tG25 (nx m) (h_G10 m (by omega)) (h_G24 m (by omega))
theorem h_G26 (n : Nat) (h : 14 ≤ n) : G26 pk0 (FT n) := by
 obtain ⟨m, rfl⟩ : ∃ m, n = m + 1 := ⟨n - 1, by omega⟩
 exact tG26 (nx m) (h_G6 m (by omega)) (h_G18 m (by omega)) (h_G22 m (by omega)) (h_G24 m (by omega)) (h_G25 m (by omega))
theorem h_G27 (n : Nat) (h : 15 ≤ n) : G27 pk0 (FT n) := by
 obtain ⟨m, rfl⟩ : ∃ m, n = m + 1 := ⟨n - 1, by omega⟩
 exact tG27 (nx m) (h_G19 m (by omega)) (h_G26 m (by omega))
theorem h_G28 (n : Nat) (h : 16 ≤ n) : G28 pk0 (FT n) := by
 obtain ⟨m, rfl⟩ : ∃ m, n = m + 1 := ⟨n - 1, by omega⟩
 exact tG28 (nx m) (h_G10 m (by omega)) (h_G14 m (by omega)) (h_G16 m (by omega)) (h_G17 m (by omega)) (h_G18 m (by omega)) (h_G27 m (by omega))
theorem h_G29 (n : Nat) (h : 17 ≤ n) : G29 pk0 (FT n) := by
 obtain ⟨m, rfl⟩ : ∃ m, n = m + 1 := ⟨n - 1, by omega⟩
 exact tG29 (nx m) (h_G12 m (by omega)) (h_G13 m (by omega)) (h_G15 m (by omega)) (h_G21 m (by omega)) (h_G23 m (by omega)) (h_G28 m (by omega))
theorem h_G30 (n : Nat) (h : 18 ≤ n) : G30 pk0 (FT n) := by
 obtain ⟨m, rfl⟩ : ∃ m, n = m + 1 := ⟨n - 1, by omega⟩
 exact tG30 (nx m) (h_G21 m (by omega)) (h_G24 m (by omega)) (h_G29 m (by omega))
end
end Go.Proofs.YtgfmmfpafcfjpaaGreat
