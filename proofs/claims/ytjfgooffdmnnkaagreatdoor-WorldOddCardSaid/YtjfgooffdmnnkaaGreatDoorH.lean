/- Deferred functions that ask for a panic and find none; functions that are found by a text. -/
import Derived.Test.YtjfgooffdmnnkaaGreatDoorG
import Derived.RecoverIn
set_option linter.all false
set_option maxRecDepth 100000
namespace Go.Dp
open Go Go.Mi Go.RowKit
open Nat renaming eq_of_beq_eq_true->mi,beq->eF,beq_refl->kq
section
variable {Y : gY} {Q : Exit -> Act -> World -> Prop} {l : ce} {H : List aN} {R : Type} {m m' : Option R} {T : R -> Prop} {ops : Array Oper} {os rest : List Oper}
theorem bP.val{aw:Program}{op:Op}{ty:TypeId}{ρ:Operand->Option V}{dx c0:List (Nat×aN)}{d db:V}(h:bP aw op ty ρ dx c0 d)(e:d=db):bP aw op ty ρ dx c0 db:=e▸h
end
section
variable {Y : gY} {Q : Exit -> Act -> World -> Prop} {l : ce} {H : List aN} {R : Type} {m : Option R} {T : R -> Prop}
theorem b7.U_{dg:Exit}{α:Type}{i c8 eC n:Nat}(t:Nat)(oq:α->P)(xs:List α)(hi:H[i]? =some (.fq c8 1 eC (xs.map oq)))(aj:c6 l t=some (gs n i eC))(a6:n<=xs.length)(h:b7 Y Q dg ((t,gs n i (eC+1))::l) (H.set i (.fq c8 1 (eC+1) ((xs.take n).map oq))) m T):b7 Y Q dg l H m T:=λdt g w a aO a4=>by
 obtain⟨v,a2,bc⟩:=a4.2.2 t _ aj;obtain⟨c9,bX,dV⟩:=cn.U_ aO.jV hi (by rw[List.length_map];exact a6) bc;rw[<-List.map_take]at bX dV;have nR:=a4.step bX.bi;refine h dt c9 w a (aO.then bX) ⟨nR.1,nR.2.1,λs d aG=>?_⟩;simp only[c6]at aG;by_cases e:t=s
 ·subst e;rw[show eF t t=true from kq t]at aG;simp only[cond_true,Option.some.injEq]at aG;subst aG;exact⟨v,a2,dV⟩
 ·rw[show eF t s=false from by rw[<-Bool.not_eq_true];intro q;exact e (mi q)]at aG;exact nR.2.2 s d aG
theorem b7.FZ{dg:Exit}{α:Type}{i c8 eC n:Nat}{cs:List P}(t:Nat)(j0:α->List P)(xs:List α)(hi:H[i]? =some (.fq c8 1 eC cs))(bg:cs=xs.flatMap j0)(aj:c6 l t=some (gs n i eC))(a6:n=xs.length)(mh:n=cs.length)(h:b7 Y Q dg ((t,cZ 1 j0 xs i (eC+1))::l) (H.set i (.bs c8 1 (eC+1))) m T):b7 Y Q dg l H m T:=λdt g w a aO a4=>by
 subst mh;subst bg;obtain⟨v,a2,bc⟩:=a4.2.2 t _ aj;obtain⟨c9,bX,dV⟩:=cn.FZ aO.jV hi bc;have nR:=a4.step bX.bi;refine h dt c9 w a (aO.then bX) ⟨nR.1,nR.2.1,λs d aG=>?_⟩;simp only[c6]at aG;by_cases e:t=s
 ·subst e;rw[show eF t t=true from kq t]at aG;simp only[cond_true,Option.some.injEq]at aG;subst aG;refine⟨v,a2,?_⟩;unfold cZ;rw[<-a6];exact dV
 ·rw[show eF t s=false from by rw[<-Bool.not_eq_true];intro q;exact e (mi q)]at aG;exact nR.2.2 s d aG
theorem b7.x7{dg:Exit}{n i eC:Nat}(t lh:Nat)(aj:c6 l t=some (gs n i eC))(a6:n=lh)(k:b7 Y Q dg ((t,gs lh i eC)::l) H m T):b7 Y Q dg l H m T:=λdt g w a aO a4=>by subst a6;exact k dt g w a aO (a4.U6 aj λ_ h=>h)
end
end Go.Dp
