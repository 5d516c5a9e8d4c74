/- The model. -/
import Derived.Test.YtjfgooffdmnnkaaGreatDoorUL
set_option linter.all false
set_option maxRecDepth 100000
set_option maxHeartbeats 4000000
namespace Go.Proofs.YtjfgooffdmnnkaaGreatDoor
open Go Go.Mi Go.RowKit Go.Dp Tryz Go.Proofs.Tryz
open Option renaming bind->au,some->I
noncomputable section
attribute [local irreducible] bS dl cv b7
def Mk(a':Int)(bq:Int×Int)(bJ:List Int×Int)(J:aA)(cJ:qu):Unit->Option Bool:=λ_=>if decide (a'< 0)||decide (bq.1<=a')then if decide (bJ.2=3)&&decide ((bJ.1.length:Int)=0)then(kF).bind λef=>I ef else I false else if decide (bJ.2=0)then(vK J cJ a').bind λet=>au (th J bJ.1 et) λgc=>if gc then(kF).bind λgK=>I gK else I false else I false
def Zs(J:aA)(aW:qu×Int)(cJ:qu)(a':Int)(bq:Int×Int)(bJ:List Int×Int):Int->Option Bool:=J.b1 λyn=>if decide (yn<(aW.1.length:Int))then(aH aW.1 yn).bind λh9=>au (aH cJ yn) λhk=>if !(decide (h9=hk))then(I false).map .inr else I (.inl (az (yn+1)))else(Mk a' bq bJ J cJ ()).map .inr
def Zt(J:aA)(Z:ByteArray)(an a':Int):Option Bool:=au (rj J Z) λaa=>if !aa.2 then(kF).bind λai=>I ai else(j6 J ⟨aa.1.nodes,aa.1.aD⟩).bind λaE=>au (vC J aE an) λaW=>au (j6 J ⟨aa.1.nodes,aa.1.aD⟩) λa_=>au (wZ J a_ an) λbq=>au (j6 J ⟨aa.1.nodes,aa.1.aD⟩) λbR=>au (o3 J bR an a') λbJ=>au (kD J ⟨aa.1.nodes,aa.1.aD⟩ an) λcG=>if !decide (cG=0)then if((((decide (aW.2=cG)&&decide (bq.2=cG))&&decide (bJ.2=cG))&&decide ((aW.1.length:Int)=0))&&decide (bq.1=0))&&decide ((bJ.1.length:Int)=0)then(kF).bind λc1=>I c1 else I false else(nc J ⟨aa.1.nodes,aa.1.aD⟩ an).bind λcJ=>if !decide (aW.2=0)|| !decide (bq.2=0)then I false else(o2 J cJ).bind λdP=>if !decide (bq.1=dP)|| !decide ((aW.1.length:Int)=(cJ.length:Int))then I false else Zs J aW cJ a' bq bJ 0
instance oS{J:aA}{Z an a'}:bQ (Zt J Z an a') 4 [cE Z,aL an,aL a'] bD:=.aX 1 func4 rfl ntmps4<|by
 intro _ _ _;refine ba λaa=>?_;refine cy ?_;refine ba λaE=>?_;refine ba λaW=>?_;refine ba λa_=>?_;refine ba λbq=>?_;refine ba λbR=>?_;refine ba λbJ=>?_;refine ba λcG=>?_;refine cy ?_;refine ba λcJ=>?_;refine wx ?_;refine qq ?_;refine ba λdP=>?_;refine cy ?_;refine .skip<|?_;refine fO ?_;refine .gg (β:=Unit) (λ_=>[]) (λH _=>H) [2,11,13,14,16] (Mk a' bq bJ J cJ) ?_ ?_
 ·rintro⟨⟩;exact a0
 ·intro j;refine cI (α:=Int) (λs=>[(17,aL s)]) (λH _=>H) [2,9,11,13,14,16] ?_;rintro yn n;refine fg ?_;refine ba λh9=>?_;refine ba λhk=>?_;refine cg ?_;refine .q (alu (adE h9 hk) adD rfl rfl) .n<|?_;exact a0
end
end Go.Proofs.YtjfgooffdmnnkaaGreatDoor
