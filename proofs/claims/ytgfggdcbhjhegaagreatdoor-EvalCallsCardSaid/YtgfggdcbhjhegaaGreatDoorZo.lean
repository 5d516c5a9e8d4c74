/- The arguments of the laws of this seat, opened into deep data: trees, lists of numbers. -/
import Derived.Test.YtgfggdcbhjhegaaGreatDoorE
import Derived.Test.YtgfggdcbhjhegaaGreatDoorUD
import Derived.Test.YtgfggdcbhjhegaaGreatDoorRows
set_option linter.all false
set_option maxRecDepth 100000
namespace Go.Proofs.YtgfggdcbhjhegaaGreatDoor
open Go Go.Mi Go.RowKit Go.WideShapes Go.Dp
section
variable {H : Type} {enc : TypeId × Value -> H} {w : World} {base fg : Nat} {spare : Nat -> Bool} {held : Bool} {r : Reach}
theorem NI(n:Nat)(cs:List Value)(x:DataW H×List MemPlace)(h:DataW.trod enc Tryz.prog w base spare held n 3 cs=some x):∃y:Int,e_ (l3 w) w (cH y) cs:=by obtain⟨s,aV,_⟩:=DataW.trod_int Tryz.underlying3 h;exact⟨s,aV▸ahj [.int .i64 s]⟩
def NJ(x:bz):Prop:= -9223372036854775808<=x.n/\x.n<=9223372036854775807/\0<=x.kind/\x.kind<=255
theorem U6{n:Int}(h:(Lit.int .u8 n).wf=true):0<=n/\n<=255:=by simp[Lit.wf,IntKind.min,IntKind.max,IntKind.signed,IntKind.bits]at h;omega
theorem aeq{n:Int}(h:(Lit.int .i64 n).wf=true): -9223372036854775808<=n/\n<=9223372036854775807:=by simp[Lit.wf,IntKind.min,IntKind.max,IntKind.signed,IntKind.bits]at h;omega
theorem aqX(qn:∀b,spare b=true)(n:Nat)(cs:List Value)(x:DataW H×List MemPlace)(h:DataW.trod enc Tryz.prog w base spare held n 40 cs=some x):∃y:{z:bz // NJ z},e_ (l3 w) w (jy y.1) cs:=by
 obtain⟨xs,m,_,_,aK,hlen,a8⟩:=DataW.trod_struct Tryz.underlying40 h;obtain⟨_,bw⟩:=m0 hlen a8 0 5 0 1 rfl (by kernel_rfl);obtain⟨_,h1⟩:=m0 hlen a8 1 9 1 1 rfl (by kernel_rfl);obtain⟨_,h2⟩:=m0 hlen a8 2 3 2 1 rfl (by kernel_rfl);obtain⟨_,aJ⟩:=m0 hlen a8 3 23 3 1 rfl (by kernel_rfl);obtain⟨_,bp⟩:=m0 hlen a8 4 3 4 1 rfl (by kernel_rfl);have e:Tryz.prog.cellsOf 40=5:=by kernel_rfl
 rw[e]at aK;obtain⟨jv,b0,_,ou⟩:=DataW.trod_int Tryz.underlying5 bw;obtain⟨s1,ef,_⟩:=DataW.trod_string Tryz.underlying9 h1;obtain⟨s2,eM,_,fD⟩:=DataW.trod_int Tryz.underlying3 h2;obtain⟨aqY,kY,_⟩:=DataW.trod_int Tryz.underlying3 bp;match cs,aK with
 |[eY,eQ,jb,ll,lL],_=>simp only[List.drop_zero,List.take_succ_cons,List.take_zero,List.drop_succ_cons,List.cons.injEq,and_true]at b0 ef eM kY aJ;subst b0 ef eM kY;obtain⟨ks,au⟩:=ahm (k:=1) (gz:=cH) qn Tryz.underlying23 (by kernel_rfl) (λ_=>rfl) (by omega) NI aJ;exact⟨⟨⟨jv,s1,s2,ks,aqY⟩,(aeq fD).1,(aeq fD).2,(U6 ou).1,(U6 ou).2⟩,r5 .v (r5 .v (r5 .v (r5 au (r5 .v I3))))⟩
set_option maxRecDepth 20000 in
theorem HG{v:Value}{d:DataW H}{p:List MemPlace}(qn:∀b,spare b=true)(bg:Value.okWide Tryz.prog w r fg 25 v)(h:DataW.Trod enc Tryz.prog w base spare held 25 v d p):∃t:bf,(∀x∈t.nodes,NJ x)/\cD (b0 w) w [] (.agg ((du t).map .p)) v:=by
 have q6:=bg;simp only[Value.okWide,Tryz.underlying25]at q6;obtain⟨cs,e9,_,JB,HH,_,aP⟩:=q6;have abV:Tryz.prog.cellsOf 25=2:=by kernel_rfl
 have aqZ:Tryz.prog.cellTypes Tryz.prog.depth 25=some [22,23]:=by kernel_rfl
 rw[aqZ]at HH;cases HH;obtain⟨v0,v1,Jg,Ni,n,U7,_,_,bw,h1⟩:=Go.Joins.open_agg2 Tryz.underlying25 (by kernel_rfl) abV bg h;subst U7;cases e9;obtain⟨tS,EF,eY⟩:=aP 0 v0 rfl;obtain⟨sJ,U8,eQ⟩:=aP 1 v1 rfl;have de:(22:Nat)=tS:=by simpa using EF
 have a5:(23:Nat)=sJ:=by simpa using U8
 subst de a5;obtain⟨xs,ar⟩:=E5 (k:=5) (gz:=λy:{z:bz // NJ z}=>jy y.1) Tryz.underlying22 (by kernel_rfl) (λ_=>rfl) (by omega) (aqX qn) eY (E6 Tryz.underlying22 eY) bw;obtain⟨cX,bh⟩:=E5 (k:=1) (gz:=cH) Tryz.underlying23 (by kernel_rfl) (λ_=>rfl) (by omega) NI eQ (E6 Tryz.underlying23 eQ) h1;have ex:dI 5 (λy:{z:bz // NJ z}=>jy y.1) xs=dI 5 jy (xs.map Subtype.val):=by simp[dI,List.flatMap_map]
 rw[ex]at ar;exact⟨⟨xs.map Subtype.val,cX⟩,λx ar=>by obtain⟨y,_,rfl⟩:=List.mem_map.1 ar;exact y.2,.agg (Px (g:=b0 w) (r5 ar (r5 bh I3)))⟩
theorem U9{v:Value}(bg:Value.okWide Tryz.prog w r fg 3 v):∃a:Int,v=.int .i64 a:=by simp only[Value.okWide,Cell.okWide,Tryz.underlying3,Cell.ok]at bg;split at bg<;>simp_all
theorem NK{v:Value}{d:DataW H}{p:List MemPlace}(bg:Value.okWide Tryz.prog w r fg 23 v)(h:DataW.Trod enc Tryz.prog w base spare held 23 v d p):∃l:List Int,cD (b0 w) w [] (bT 1 cH l) v:=by
 have aer:Cell.okWide Tryz.prog w r fg 23 v:=by have fP:=bg;simp only[Value.okWide,Tryz.underlying23]at fP;exact fP
 obtain⟨aCF,aCG,aCH,nz⟩:=okWide_slice Tryz.underlying23 bg;obtain⟨m,hm⟩:=h;have eE:v.cells.toList=[v]:=by rw[nz];rfl
 rw[eE]at hm;obtain⟨l,aK⟩:=E5 (k:=1) (gz:=cH) Tryz.underlying23 (by kernel_rfl) (λ_=>rfl) (by omega) NI aer (E6 Tryz.underlying23 aer) hm;exact⟨l,.p aK⟩
end
theorem HI{f:FuncId}{ds:List V}{b:Bool}{W:World}{args:List Value}(aP:y5 Tryz.prog f ds (bs b))(b2:t_ (b0 W) W)(a9:cU (b0 W) W [] ds args):Calls Tryz.prog f args.toArray W λe rM=>e=.returned (.bool b)/\Below W.heap.size W rM:=by refine(aP (b0 W) W args (ahi b2) a9).mono λe rM ⟨v,g',r,H',he,⟨aM,jZ⟩,aV,bg⟩=>?_;subst aM;subst jZ;have q6:v=.bool b:=bg.g4;subst q6;refine⟨he,aV.os,aV.tape,aV.output,aV.a'.size,λk au=>?_⟩;exact(aV.iQ k au (λi a1=>by simp[Go.Dp.own,Go.Dp.tZ]at a1)).1
end Go.Proofs.YtgfggdcbhjhegaaGreatDoor
