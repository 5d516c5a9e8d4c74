/- The model. -/
import Derived.Test.YtjfgooffdmnnkaaGreatDoorUL
set_option linter.all false
set_option maxRecDepth 100000
set_option maxHeartbeats 4000000
namespace Go.Proofs.YtjfgooffdmnnkaaGreatDoor
open Go Go.Mi Go.RowKit Go.Dp Tryz Go.Proofs.Tryz
open Option renaming bind->au,some->I
noncomputable section
attribute [local irreducible] bS dl cv b7
def Mr(J:aA)(Z:aZ)(an ai:Int):Unit->Option Bool:=λ_=>au (j6 J Z) λaE=>au (vC J aE an) λaW=>au (j6 J Z) λa_=>au (wZ J a_ an) λbq=>au (j6 J Z) λbR=>au (vH J bR an) λbJ=>au (j6 J Z) λcG=>au (vI J cG an) λc1=>au (j6 J Z) λcJ=>au (ux J cJ an []) λdP=>au (j6 J Z) λef=>au (vJ J ef an) λet=>au (j6 J Z) λgc=>au (o3 J gc an 0) λgK=>au (j6 J Z) λh9=>au (sh J h9 an ([9,9,9,9,9,9,9]:List Int)) λhk=>au (j6 J Z) λi9=>au (sj J i9 an (⟨#[]⟩:ByteArray) []) λj2=>if !decide (ai=0)then if(((((((decide (aW.2=ai)&&decide (bq.2=ai))&&decide (bJ.2=ai))&&decide (c1.2=ai))&&decide (dP.2=ai))&&decide (et.2=ai))&&decide (gK.2=ai))&&decide (hk.2=ai))&&decide (j2.2=ai)then(kF).bind λgO=>I gO else I false else if((((((((decide (aW.2=0)&&decide (bq.2=0))&&decide (0<bq.1))&&decide (bJ.2=0))&&decide (c1.2=0))&&decide (dP.2=0))&&decide (et.2=0))&&decide (gK.2=0))&&decide (hk.2=3))&&decide (j2.2=10)then(kF).bind λlK=>I lK else I false
def ZO(J:aA)(Z:aZ)(an:Int):Unit->Option Bool:=λ_=>au (kD J Z an) λai=>au (kD J Z 0) λum=>if decide (um=0)then(nc J Z (Z.aD.length:Int)).bind λpP=>au (o2 J pP) λun=>if decide (200<un)then(kF).bind λsc=>I sc else Mr J Z an ai ()else Mr J Z an ai ()
def aiN(J:aA)(Z:aZ)(an:Int):Int->Option Bool:=J.b1 λkA=>if decide (kA<(Z.nodes.length:Int))then(aH Z.nodes kA).bind λDJ=>if decide (8<(DJ.a8.length:Int))then(kF).bind λBp=>(I Bp).map .inr else I (.inl (az (kA+1)))else(ZO J Z an ()).map .inr
def ZP(J:aA)(Z:aZ)(an:Int):Option Bool:=if decide (60<(Z.nodes.length:Int))||decide (30<(Z.aD.length:Int))then(kF).bind λaa=>I aa else aiN J Z an 0
instance aiA{J:aA}{Z an}:bQ (ZP J Z an) 8 [.agg ((dY Z).map .p),aL an] bD:=.aX 0 func8 rfl ntmps8<|by
 intro _ _ _;refine cy ?_;refine .skip<|?_;refine fO ?_;refine .gg (β:=Unit) (λ_=>[]) (λH _=>H) [1,2] (ZO J Z an) ?_ ?_
 ·rintro⟨⟩;refine ba λai=>?_;refine fO ?_;refine .gg (β:=Unit) (λ_=>[]) (λH _=>H) [1,2,6] (Mr J Z an ai) ?_ ?_
  ·rintro⟨⟩;exact a0
  ·intro j;exact a0
 ·intro j;refine cI (α:=Int) (λs=>[(5,aL s)]) (λH _=>H) [1,2] ?_;rintro kA n;exact a0
end
end Go.Proofs.YtjfgooffdmnnkaaGreatDoor
