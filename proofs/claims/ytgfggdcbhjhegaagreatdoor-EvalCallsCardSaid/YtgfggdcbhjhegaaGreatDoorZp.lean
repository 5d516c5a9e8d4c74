/- The arguments of the law on calls, opened into deep data. -/
import Derived.Test.YtgfggdcbhjhegaaGreatDoorZo
set_option linter.all false
set_option maxRecDepth 100000
namespace Go.Proofs.YtgfggdcbhjhegaaGreatDoor
open Go Go.Mi Go.RowKit Go.WideShapes Go.Dp
section
variable {H : Type} {enc : TypeId × Value -> H} {w : World} {base fg : Nat} {spare : Nat -> Bool} {held : Bool} {r : Reach}
theorem aq3(n:Nat)(cs:List Value)(x:DataW H×List MemPlace)(h:DataW.trod enc Tryz.prog w base spare held n 64 cs=some x):∃y:{z:bt // 0<=z.fault},e_ (l3 w) w (b7 y.1) cs:=by
 obtain⟨xs,m,_,_,aK,hlen,a8⟩:=DataW.trod_struct Tryz.underlying64 h;obtain⟨_,bw⟩:=m0 hlen a8 0 5 0 1 rfl (by kernel_rfl);obtain⟨_,h1⟩:=m0 hlen a8 1 3 1 1 rfl (by kernel_rfl);have e:Tryz.prog.cellsOf 64=2:=by kernel_rfl
 rw[e]at aK;obtain⟨jv,b0,_,ou⟩:=DataW.trod_int Tryz.underlying5 bw;obtain⟨s1,ef,_⟩:=DataW.trod_int Tryz.underlying3 h1;match cs,aK with
 |[eY,eQ],_=>simp only[List.drop_zero,List.take_succ_cons,List.take_zero,List.drop_succ_cons,List.cons.injEq,and_true]at b0 ef;subst b0 ef;exact⟨⟨⟨jv,s1⟩,(U6 ou).1⟩,r5 .v (r5 .v I3)⟩
theorem aq4{v:Value}(bg:Cell.okWide Tryz.prog w r fg 3 v):∃a:Int,v=.int .i64 a:=by simp only[Cell.okWide,Tryz.underlying3,Cell.ok]at bg;split at bg<;>simp_all
set_option maxRecDepth 20000 in
theorem aq5{v:Value}{d:DataW H}{p:List MemPlace}(bg:Value.okWide Tryz.prog w r fg 51 v)(h:DataW.Trod enc Tryz.prog w base spare held 51 v d p):∃t:Fz,(∀x∈t.args,0<=x.fault)/\cD (b0 w) w [] (.agg ((YP t).map .p)) v:=by
 have q6:=bg;simp only[Value.okWide,Tryz.underlying51]at q6;obtain⟨cs,e9,_,JB,HH,_,aP⟩:=q6;have aq6:Tryz.prog.cellsOf 51=3:=by kernel_rfl
 have aq7:Tryz.prog.cellTypes Tryz.prog.depth 51=some [3,29,23]:=by kernel_rfl
 rw[aq7]at HH;cases HH;obtain⟨v0,v1,v2,Jg,Ni,aqm,n,U7,_,_,bw,h1,h2⟩:=Go.Joins.open_agg3 Tryz.underlying51 (by kernel_rfl) aq6 bg h;subst U7;cases e9;obtain⟨tS,EF,eY⟩:=aP 0 v0 rfl;obtain⟨sJ,U8,eQ⟩:=aP 1 v1 rfl;obtain⟨aq8,aq9,jb⟩:=aP 2 v2 rfl;have de:(3:Nat)=tS:=by simpa using EF
 have a5:(29:Nat)=sJ:=by simpa using U8
 have bk:(23:Nat)=aq8:=by simpa using aq9
 subst de a5 bk;obtain⟨a,rfl⟩:=aq4 eY;obtain⟨xs,ar⟩:=E5 (k:=2) (gz:=λy:{z:bt // 0<=z.fault}=>b7 y.1) Tryz.underlying29 (by kernel_rfl) (λ_=>rfl) (by omega) aq3 eQ (E6 Tryz.underlying29 eQ) h1;obtain⟨cX,bh⟩:=E5 (k:=1) (gz:=cH) Tryz.underlying23 (by kernel_rfl) (λ_=>rfl) (by omega) NI jb (E6 Tryz.underlying23 jb) h2;have ex:dI 2 (λy:{z:bt // 0<=z.fault}=>b7 y.1) xs=dI 2 b7 (xs.map Subtype.val):=by simp[dI,List.flatMap_map]
 rw[ex]at ar;exact⟨⟨a,xs.map Subtype.val,cX⟩,λx ar=>by obtain⟨y,_,rfl⟩:=List.mem_map.1 ar;exact y.2,.agg (Px (g:=b0 w) (r5 .v (r5 ar (r5 bh I3))))⟩
end
end Go.Proofs.YtgfggdcbhjhegaaGreatDoor
