/- Lemmas that the printed functions' proofs lean on, as a tool of the kit lays them; those that this claim uses. No conditions. -/
import Derived.Test.YtmgkbhhnchnkcaaGreatDoorKFnResidualsVApart
import Derived.Test.YtmgkbhhnchnkcaaGreatDoorKFnResidualsVArr
namespace Go.Proofs.YtmgkbhhnchnkcaaGreatDoorW.PrintWords
open Go.RowKit
section
variable {P:Program}
end
namespace Kd
section
variable {P:Program} {ops:Array Oper} {rest:List Oper} {o:Oper} {a:Act} {Q:Exit→Act→World→Prop} {Kc:Act→World→Prop} {α:Type}
end
section
variable {α:Type} {d:Kd α} {e:Nat} {w:World} {base:Nat} {ok:Nat→Prop} {v:Value} {xs:List α}
end
section
variable {P:Program} {ops:Array Oper} {rest:List Oper} {o:Oper} {a:Act} {Q:Exit→Act→World→Prop} {Kc:Act→World→Prop} {α:Type}
end
end Kd
end Go.Proofs.YtmgkbhhnchnkcaaGreatDoorW.PrintWords
