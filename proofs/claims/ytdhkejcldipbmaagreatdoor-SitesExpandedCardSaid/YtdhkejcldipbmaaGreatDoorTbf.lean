import Derived.Test.YtdhkejcldipbmaaGreatDoorAiX
import Derived.Test.YtdhkejcldipbmaaGreatDoorChecked
namespace Go.Proofs.YtdhkejcldipbmaaGreatDoor
open Go Go.Ai Go.Proofs
set_option linter.all false
set_option maxRecDepth 100000
set_option maxHeartbeats 4000000
noncomputable def e_odd := mkE Tryz.func29 (aM [0] [] [[0,1,2],[0,1,2,8],[6],[6]])
noncomputable def e_clks := mkE Tryz.func26 (aM [0] [] [[0]] ++ [⟨(kP [0,3] [0] []),[(3,97,2)],[],[],[]⟩] ++ aM [0] [3] [[0,3,6,7,8],[0,3,6,7,8,9],[0,3,5,6,7,8],[0,3,5,6,7,8,13],[0,3,6,7,8],[0,3,6,7,8],[0,3,28]] ++ aM [0] [] [[3],[2]])
noncomputable def e_aclk := mkE Tryz.func65 ([aN [0] [0] [],⟨(kP [0,3] [0] []),[(3,133,2)],[],[],[]⟩] ++ aM [0] [3] [[0,3,4,5],[0,3,4,5,11,12],[0,3,4,5,11,12,13],[0,3,4,5,11,12],[0,3,4,5,11,12],[0,3,4,5,11,12],[0,3,37]] ++ aM [0] [] [[0,3],[3,51],[3],[2]])
end Go.Proofs.YtdhkejcldipbmaaGreatDoor
