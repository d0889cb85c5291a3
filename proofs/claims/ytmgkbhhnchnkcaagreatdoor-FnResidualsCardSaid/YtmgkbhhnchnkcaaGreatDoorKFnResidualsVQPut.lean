/- Lemmas that the printed functions' proofs lean on, as a tool of the kit lays them; those that this claim uses. No conditions. -/
import Derived.Test.YtmgkbhhnchnkcaaGreatDoorKFnResidualsVWords
import Derived.Test.YtmgkbhhnchnkcaaGreatDoorKFnResidualsVLast
namespace Go.Proofs.YtmgkbhhnchnkcaaGreatDoorW.PrintWords
open Go.RowKit
namespace Kd
section
variable {α:Type} {d:Kd α} {e base g o n cap:Nat} {ok okp:Nat→Prop} {w W:World} {v:Value} {xs:List α}
end
section
variable {α:Type} {enc:α→Value} {h1:∀x,(enc x).oneCell'=true} {e base g o n cap:Nat} {ok:Nat→Prop} {W:World} {xs:List α}
end
end Kd
end Go.Proofs.YtmgkbhhnchnkcaaGreatDoorW.PrintWords
