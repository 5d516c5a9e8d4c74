/- The claim. -/
import Derived.Test.YtjfgooffdmnnkaaGreatDoorE
import Derived.Test.YtjfgooffdmnnkaaGreatDoorProg
import Derived.Test.YtjfgooffdmnnkaaGreatDoorRows
import Derived.ProofKit
import Derived.LaidMore
import Derived.OpenShut
set_option linter.all false
namespace Go.Proofs.YtjfgooffdmnnkaaGreatDoor
open Go Go.ChangeShapes Go.WideShapes Go.ChangeAt Go.RowKit
theorem own:ownKnob Tryz.prog.godebug=none:=by kernel_rfl
theorem av7:Tryz.prog.globalNamed "strings.asciiSpace" =some 6:=by kernel_rfl
theorem av8:(Tryz.prog.globals[6]?).map (·.type)=some 400:=by kernel_rfl
theorem av9:(Rows.laid_strings_asciiSpace:DataW Unit)=.agg ((List.range 256).map λi=>.lit (.int .u8 (cond (Nat.beq i 32||(Nat.ble 9 i&&Nat.ble i 13)) 1 0))):=by kernel_rfl
theorem aiQ{P:Program}{w:World}{n:String}{d:DataW Unit}:∀{l:List (String×DataW Unit)}{ps:List MemPlace},DataW.LaidVars P w l ps->(n,d)∈l->
  ∃g t cs fuel p,P.globalNamed n=some g/\(P.globals[g]?).map (·.type)=some t/\w.var? P n=some cs/\DataW.trod (λ_=>()) P w 0 (λ_=>true) false fuel t cs.toList=some (d,p)
 |[],_,_,h=>by cases h
 |(m,e)::r,ps,h,hm=>by
  obtain⟨g,t,cs,fuel,p,q,h1,h2,ay,bl,bO,_⟩:=h;rcases List.mem_cons.1 hm with a2|cX
  ·cases a2;exact⟨g,t,cs,fuel,p,h1,h2,ay,bl⟩
  ·exact aiQ bO cX
theorem Iw{W:World}(h:laidMetH Tryz.prog Rows.worldOddRow.laid W):Go.Dp.xA (Go.Dp.cl W) W:=by
 rw[MakeChecks.laidMetH_plain _ _ _ (by kernel_rfl)]at h;obtain⟨ps,eK,_,_⟩:=h;obtain⟨g,t,cs,fuel,p,b5,aj,bp,aG⟩:=aiQ (n:= "strings.asciiSpace") (d:=Rows.laid_strings_asciiSpace) eK (by show _∈[_,_,_,_,_,_,_];simp only[List.mem_cons,true_or,or_true]);obtain rfl:=Option.some.inj (av7.symm.trans b5);obtain rfl:=Option.some.inj (av8.symm.trans aj);obtain⟨xs,m,rfl,ak,hlen,a6,AW⟩:=DataW.trod_array Tryz.underlying400 aG;have Sp:Tryz.prog.cellsOf 5=1:=by kernel_rfl
 rw[av9]at ak;simp only[Prod.mk.injEq,DataW.agg.injEq]at ak;have key:∀j,j< 256->W.cell? ⟨6,j,none⟩=some (.int .u8 (cond (Nat.beq j 32||(Nat.ble 9 j&&Nat.ble j 13)) 1 0)):=λj ag=>by
  have h1:=AW j ag;rw[Sp,Nat.mul_one]at h1;have aiR:j<xs.length:=by rw[a6];exact ag
  rw[List.getElem?_eq_getElem aiR]at h1;obtain⟨k,a2,bc,_⟩:=DataW.trod_int Tryz.underlying5 h1;have h2:=congrArg (λl:List (DataW Unit)=>l[j]?) ak.1;simp only[List.getElem?_map,List.getElem?_range ag,Option.map_some,List.getElem?_eq_getElem aiR,bc,Option.some.injEq,DataW.lit.injEq,Lit.int.injEq,true_and]at h2;rw[World.var?_cell b5 bp j,<-Array.getElem?_toList,h2];have ay:=congrArg (λl:List Value=>l[0]?) a2;simpa[List.getElem?_take,List.getElem?_drop]using ay
 intro q aB;have:q=(6,(List.range 256).map λi=>.int .u8 (cond (Nat.beq i 32||(Nat.ble 9 i&&Nat.ble i 13)) 1 0)):=by simpa[Go.Dp.CG]using aB
 subst this;refine⟨(Go.Dp.NK (key 0 (by omega))).2,?_,λj u hu=>?_⟩
 ·have:=(Go.Dp.NK (key 255 (by omega))).1;show _<=Go.Dp.nO W 6;simp;omega
 ·have ag:j< 256:=by
   have:=(List.getElem?_eq_some_iff.1 hu).1;simpa using this
  simp only[List.getElem?_map,List.getElem?_range ag,Option.map_some,Option.some.injEq]at hu;rw[<-hu];exact key j ag
end Go.Proofs.YtjfgooffdmnnkaaGreatDoor
