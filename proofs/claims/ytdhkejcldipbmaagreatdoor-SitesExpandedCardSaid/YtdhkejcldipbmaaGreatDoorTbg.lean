
/-
 One more function that is run (functions with arguments, in the reference's parser).
-/
import Derived.Test.YtdhkejcldipbmaaGreatDoorTab
namespace Go.Proofs.YtdhkejcldipbmaaGreatDoor
open Go Go.Ai Go.Proofs
set_option linter.all false
set_option maxRecDepth 100000
set_option maxHeartbeats 4000000
noncomputable def e_rname2 := mkE Tryz.func227 ([aN [0,2] [0,2] []] ++ aM [0,2,3] [] [[0,2,3],[0,2,3,4],[0,2,3,4,20],[0,2,3,4],[0,2,3,4,25]] ++ [aN [2] [0,2] [],⟨(kP [0,2,4,5] [0,2,5] []),[(1300005,145,5)],[],[],[]⟩] ++ aM [0,2,5] [300005] [[0,2,4,5],[0,2,5,37,38],[0,2,5,37,38,39],[0,2,5,6,37,38],[0,2,5,37,38,47]] ++ [⟨(kP [0,2,5,37,38] [0,2,5] [300005]),[],[(0,(some 5)),(1,(some 5)),(3,(some 0))],[],[]⟩,aN [0,2,5,37,38] [0,2,5] [300005],aN [0,2,5] [0,2,5] [],aN [2,5] [0,2,5] [],aN [2] [0,2] [],aN [0,2,3,69] [0,2,3] [],aN [2] [0,2] [],aN [0,2,3] [0,2,3] [],aN [0,2,7] [0,2,7] [],aN [0,2,7,79] [0,2,7] [],aN [2] [0,2] []] ++ aM [0,2,7] [] [[0,2,7],[0,2,7,8,9],[0,2,7,8,99]] ++ [aN [2] [0,2] [],aN [2,7,8] [0,2,7] [],aN [2,7] [0,2,7] [],aN [2] [0,2] []]) [0] []
noncomputable def R2 (f : FuncId) (args : List Val) : Option (List Cel × Val) := (tower (mkO FS MS) (e_rname2 :: tb) 60 40).1 f none args
theorem R2_fc {f : FuncId} {args : List Val} {r : Val} (h : R2 f args = some ([], r)) : FC Tryz.prog f none args (fun _ y => y = r) := run_fc h
end Go.Proofs.YtdhkejcldipbmaaGreatDoor
