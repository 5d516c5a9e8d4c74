/-
  The given statement what the condition of the rows gives: what the condition of the row gives (the table strings.asciiSpace).
-/
import Derived.Test.YtgfggdcbhjhegaaGreatDoorE
import Derived.Test.YtgfggdcbhjhegaaGreatDoorProg
import Derived.Test.YtgfggdcbhjhegaaGreatDoorRows
import Derived.ProofKit
import Derived.LaidMore
import Derived.OpenShut
set_option linter.all false
namespace Go.Proofs.YtgfggdcbhjhegaaGreatDoor
open Go Go.ChangeShapes Go.WideShapes Go.ChangeAt Go.RowKit
theorem own:ownKnob Tryz.prog.godebug=none:=by kernel_rfl
theorem aq0:Tryz.prog.globalNamed "strings.asciiSpace" =some 0:=by kernel_rfl
theorem aq1:(Tryz.prog.globals[0]?).map (·.type)=some 300:=by kernel_rfl
theorem aq2:(Rows.laid_strings_asciiSpace:DataW Unit)=.agg ((List.range 256).map λi=>.lit (.int .u8 (cond (Nat.beq i 32||(Nat.ble 9 i&&Nat.ble i 13)) 1 0))):=by kernel_rfl
theorem aes{P:Program}{w:World}{n:String}{d:DataW Unit}:∀{l:List (String×DataW Unit)}{ps:List MemPlace},DataW.LaidVars P w l ps->(n,d)∈l->
  ∃g t cs fuel p,P.globalNamed n=some g/\(P.globals[g]?).map (·.type)=some t/\w.var? P n=some cs/\DataW.trod (λ_=>()) P w 0 (λ_=>true) false fuel t cs.toList=some (d,p)
 |[],_,_,h=>by cases h
 |(m,e)::r,ps,h,hm=>by
  obtain⟨g,t,cs,fuel,p,q,h1,h2,aJ,bp,cy,_⟩:=h;rcases List.mem_cons.1 hm with a5|cY
  ·cases a5;exact⟨g,t,cs,fuel,p,h1,h2,aJ,bp⟩
  ·exact aes cy cY
theorem HJ{W:World}(h:laidMetH Tryz.prog Rows.evalExprsRow.laid W):Go.Dp.t_ (Go.Dp.b0 W) W:=by
 rw[MakeChecks.laidMetH_plain _ _ _ (by kernel_rfl)]at h;obtain⟨ps,g6,_,_⟩:=h;obtain⟨g,t,cs,fuel,p,b2,ai,bg,az⟩:=aes (n:= "strings.asciiSpace") (d:=Rows.laid_strings_asciiSpace) g6 (by show _∈[_,_,_,_,_,_,_];simp only[List.mem_cons,true_or,or_true]);obtain rfl:=Option.some.inj (aq0.symm.trans b2);obtain rfl:=Option.some.inj (aq1.symm.trans ai);obtain⟨xs,m,rfl,ar,hlen,a_,xg⟩:=DataW.trod_array Tryz.underlying300 az;have x_:Tryz.prog.cellsOf 5=1:=by kernel_rfl
 rw[aq2]at ar;simp only[Prod.mk.injEq,DataW.agg.injEq]at ar;have key:∀j,j< 256->W.cell? ⟨0,j,none⟩=some (.int .u8 (cond (Nat.beq j 32||(Nat.ble 9 j&&Nat.ble j 13)) 1 0)):=λj ae=>by
  have h1:=xg j ae;rw[x_,Nat.mul_one]at h1;have aet:j<xs.length:=by rw[a_];exact ae
  rw[List.getElem?_eq_getElem aet]at h1;obtain⟨k,a5,bk,_⟩:=DataW.trod_int Tryz.underlying5 h1;have h2:=congrArg (λl:List (DataW Unit)=>l[j]?) ar.1;simp only[List.getElem?_map,List.getElem?_range ae,Option.map_some,List.getElem?_eq_getElem aet,bk,Option.some.injEq,DataW.lit.injEq,Lit.int.injEq,true_and]at h2;rw[World.var?_cell b2 bg j,<-Array.getElem?_toList,h2];have aJ:=congrArg (λl:List Value=>l[0]?) a5;simpa[List.getElem?_take,List.getElem?_drop]using aJ
 intro q aE;have:q=(0,(List.range 256).map λi=>.int .u8 (cond (Nat.beq i 32||(Nat.ble 9 i&&Nat.ble i 13)) 1 0)):=by simpa[Go.Dp.yP]using aE
 subst this;refine⟨(Go.Dp.I2 (key 0 (by omega))).2,?_,λj u hu=>?_⟩
 ·have:=(Go.Dp.I2 (key 255 (by omega))).1;show _<=Go.Dp.l3 W 0;simp;omega
 ·have ae:j< 256:=by
   have:=(List.getElem?_eq_some_iff.1 hu).1;simpa using this
  simp only[List.getElem?_map,List.getElem?_range ae,Option.map_some,Option.some.injEq]at hu;rw[<-hu];exact key j ae
end Go.Proofs.YtgfggdcbhjhegaaGreatDoor
