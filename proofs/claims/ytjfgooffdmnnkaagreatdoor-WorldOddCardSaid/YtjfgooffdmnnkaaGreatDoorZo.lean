/- The claim. -/
import Derived.Test.YtjfgooffdmnnkaaGreatDoorE
import Derived.Test.YtjfgooffdmnnkaaGreatDoorUD
import Derived.Test.YtjfgooffdmnnkaaGreatDoorRows
set_option linter.all false
set_option maxRecDepth 100000
namespace Go.Proofs.YtjfgooffdmnnkaaGreatDoor
open Go Go.Mi Go.RowKit Go.WideShapes Go.Dp
section
variable {H : Type} {enc : TypeId × Value -> H} {w : World} {base eu : Nat} {spare : Nat -> Bool} {held : Bool} {r : Reach}
theorem SK(n:Nat)(cs:List Value)(x:DataW H×List MemPlace)(h:DataW.trod enc Tryz.prog w base spare held n 3 cs=some x):∃y:Int,fH (nO w) w (ch y) cs:=by obtain⟨s,aQ,_⟩:=DataW.trod_int Tryz.underlying3 h;exact⟨s,aQ▸ach [.int .i64 s]⟩
def SL(x:bm):Prop:=(-9223372036854775808<=x.n/\x.n<=9223372036854775807/\0<=x.kind/\x.kind<=255)/\x.text.size< 9223372036854775808
theorem aiO{n:Int}(h:(Lit.int .u8 n).wf=true):0<=n/\n<=255:=by simp[Lit.wf,IntKind.min,IntKind.max,IntKind.signed,IntKind.bits]at h;omega
theorem aiP{n:Int}(h:(Lit.int .i64 n).wf=true): -9223372036854775808<=n/\n<=9223372036854775807:=by simp[Lit.wf,IntKind.min,IntKind.max,IntKind.signed,IntKind.bits]at h;omega
theorem avR(q':∀b,spare b=true)(n:Nat)(cs:List Value)(x:DataW H×List MemPlace)(h:DataW.trod enc Tryz.prog w base spare held n 76 cs=some x):∃y:{z:bm // SL z},fH (nO w) w (kz y.1) cs:=by
 obtain⟨xs,m,_,_,aC,hlen,bg⟩:=DataW.trod_struct Tryz.underlying76 h;obtain⟨_,bh⟩:=qn hlen bg 0 5 0 1 rfl (by kernel_rfl);obtain⟨_,h1⟩:=qn hlen bg 1 9 1 1 rfl (by kernel_rfl);obtain⟨_,h2⟩:=qn hlen bg 2 3 2 1 rfl (by kernel_rfl);obtain⟨_,ay⟩:=qn hlen bg 3 23 3 1 rfl (by kernel_rfl);obtain⟨_,bl⟩:=qn hlen bg 4 3 4 1 rfl (by kernel_rfl);have e:Tryz.prog.cellsOf 76=5:=by kernel_rfl
 rw[e]at aC;obtain⟨ir,cl,_,lu⟩:=DataW.trod_int Tryz.underlying5 bh;obtain⟨s1,c9,_,ea⟩:=DataW.trod_string Tryz.underlying9 h1;obtain⟨s2,dU,_,fN⟩:=DataW.trod_int Tryz.underlying3 h2;obtain⟨E0,k3,_⟩:=DataW.trod_int Tryz.underlying3 bl;match cs,aC with
 |[fS,fe,hX,pE,oS],_=>simp only[List.drop_zero,List.take_succ_cons,List.take_zero,List.drop_succ_cons,List.cons.injEq,and_true]at cl c9 dU k3 ay;subst cl c9 dU k3;obtain⟨ks,ap⟩:=alJ (k:=1) (hG:=ch) q' Tryz.underlying23 (by kernel_rfl) (λ_=>rfl) (by omega) SK ay;exact⟨⟨⟨ir,s1,s2,ks,E0⟩,⟨(aiP fN).1,(aiP fN).2,(aiO lu).1,(aiO lu).2⟩,Nat.lt_of_le_of_lt ea (by decide)⟩,xZ .v (xZ .v (xZ .v (xZ ap (xZ .v Uq))))⟩
set_option maxRecDepth 20000 in
theorem avS{v:Value}{d:DataW H}{p:List MemPlace}(q':∀b,spare b=true)(bp:Value.okWide Tryz.prog w r eu 25 v)(h:DataW.Trod enc Tryz.prog w base spare held 25 v d p):∃t:aZ,(∀x∈t.nodes,SL x)/\cN (cl w) w [] (.agg ((dY t).map .p)) v:=by
 have ue:=bp;simp only[Value.okWide,Tryz.underlying25]at ue;obtain⟨cs,gl,_,Oc,Ms,_,ax⟩:=ue;have agt:Tryz.prog.cellsOf 25=2:=by kernel_rfl
 have avT:Tryz.prog.cellTypes Tryz.prog.depth 25=some [22,23]:=by kernel_rfl
 rw[avT]at Ms;cases Ms;obtain⟨v0,v1,NX,If,n,ZQ,_,_,bh,h1⟩:=Go.Joins.open_agg2 Tryz.underlying25 (by kernel_rfl) agt bp h;subst ZQ;cases gl;obtain⟨xj,Ja,fS⟩:=ax 0 v0 rfl;obtain⟨v4,ZR,fe⟩:=ax 1 v1 rfl;have dg:(22:Nat)=xj:=by simpa using Ja
 have a2:(23:Nat)=v4:=by simpa using ZR
 subst dg a2;obtain⟨xs,ak⟩:=Jz (k:=5) (hG:=λy:{z:bm // SL z}=>kz y.1) Tryz.underlying22 (by kernel_rfl) (λ_=>rfl) (by omega) (avR q') fS (JA Tryz.underlying22 fS) bh;obtain⟨cO,a9⟩:=Jz (k:=1) (hG:=ch) Tryz.underlying23 (by kernel_rfl) (λ_=>rfl) (by omega) SK fe (JA Tryz.underlying23 fe) h1;have ex:sl 5 (λy:{z:bm // SL z}=>kz y.1) xs=sl 5 kz (xs.map Subtype.val):=by simp[sl,List.flatMap_map]
 rw[ex]at ak;exact⟨⟨xs.map Subtype.val,cO⟩,λx ak=>by obtain⟨y,_,rfl⟩:=List.mem_map.1 ak;exact y.2,.agg (Ur (g:=cl w) (xZ ak (xZ a9 Uq)))⟩
theorem Mt{v:Value}(bp:Value.okWide Tryz.prog w r eu 9 v):∃a:ByteArray,v=.string a:=by simp only[Value.okWide,Cell.okWide,Tryz.underlying9,Cell.ok]at bp;split at bp<;>simp_all
theorem avU(n:Nat)(cs:List Value)(x:DataW H×List MemPlace)(h:DataW.trod enc Tryz.prog w base spare held n 9 cs=some x):∃y:ByteArray,fH (nO w) w (fd y) cs:=by obtain⟨s,aQ,_⟩:=DataW.trod_string Tryz.underlying9 h;exact⟨s,aQ▸ach [.string s]⟩
theorem Iu{v:Value}(bp:Value.okWide Tryz.prog w r eu 3 v):∃a:Int,v=.int .i64 a:=by simp only[Value.okWide,Cell.okWide,Tryz.underlying3,Cell.ok]at bp;split at bp<;>simp_all
theorem avV{v:Value}{d:DataW H}{p:List MemPlace}(bp:Value.okWide Tryz.prog w r eu 23 v)(h:DataW.Trod enc Tryz.prog w base spare held 23 v d p):∃l:List Int,cN (cl w) w [] (bM 1 ch l) v:=by
 have Mu:Cell.okWide Tryz.prog w r eu 23 v:=by have kg:=bp;simp only[Value.okWide,Tryz.underlying23]at kg;exact kg
 obtain⟨avW,avX,avY,ol⟩:=okWide_slice Tryz.underlying23 bp;obtain⟨m,hm⟩:=h;have dy:v.cells.toList=[v]:=by rw[ol];rfl
 rw[dy]at hm;obtain⟨l,aC⟩:=Jz (k:=1) (hG:=ch) Tryz.underlying23 (by kernel_rfl) (λ_=>rfl) (by omega) SK Mu (JA Tryz.underlying23 Mu) hm;exact⟨l,.p aC⟩
theorem avZ{v:Value}{d:DataW H}{p:List MemPlace}(bp:Value.okWide Tryz.prog w r eu 29 v)(h:DataW.Trod enc Tryz.prog w base spare held 29 v d p):∃l:List ByteArray,cN (cl w) w [] (bM 1 fd l) v:=by
 have Mu:Cell.okWide Tryz.prog w r eu 29 v:=by have kg:=bp;simp only[Value.okWide,Tryz.underlying29]at kg;exact kg
 obtain⟨avW,avX,avY,ol⟩:=okWide_slice Tryz.underlying29 bp;obtain⟨m,hm⟩:=h;have dy:v.cells.toList=[v]:=by rw[ol];rfl
 rw[dy]at hm;obtain⟨l,aC⟩:=Jz (k:=1) (hG:=fd) Tryz.underlying29 (by kernel_rfl) (λ_=>rfl) (by omega) avU Mu (JA Tryz.underlying29 Mu) hm;exact⟨l,.p aC⟩
theorem av0{v:Value}(bp:Cell.okWide Tryz.prog w r eu 3 v):∃a:Int,v=.int .i64 a:=by simp only[Cell.okWide,Tryz.underlying3,Cell.ok]at bp;split at bp<;>simp_all
theorem av1{v:Value}(bp:Cell.okWide Tryz.prog w r eu 9 v):∃a:ByteArray,v=.string a:=by simp only[Cell.okWide,Tryz.underlying9,Cell.ok]at bp;split at bp<;>simp_all
set_option maxRecDepth 20000 in
theorem av2{v:Value}{d:DataW H}{p:List MemPlace}(bp:Value.okWide Tryz.prog w r eu 71 v)(h:DataW.Trod enc Tryz.prog w base spare held 71 v d p):∃t:J5,cN (cl w) w [] (.agg ((adC t).map .p)) v:=by
 have ue:=bp;simp only[Value.okWide,Tryz.underlying71]at ue;obtain⟨cs,gl,_,Oc,Ms,_,ax⟩:=ue;have av3:Tryz.prog.cellsOf 71=3:=by kernel_rfl
 have av4:Tryz.prog.cellTypes Tryz.prog.depth 71=some [3,9,23]:=by kernel_rfl
 rw[av4]at Ms;cases Ms;obtain⟨v0,v1,v2,NX,If,Cp,n,ZQ,_,_,bh,h1,h2⟩:=Go.Joins.open_agg3 Tryz.underlying71 (by kernel_rfl) av3 bp h;subst ZQ;cases gl;obtain⟨xj,Ja,fS⟩:=ax 0 v0 rfl;obtain⟨v4,ZR,fe⟩:=ax 1 v1 rfl;obtain⟨av5,av6,hX⟩:=ax 2 v2 rfl;have dg:(3:Nat)=xj:=by simpa using Ja
 have a2:(9:Nat)=v4:=by simpa using ZR
 have bc:(23:Nat)=av5:=by simpa using av6
 subst dg a2 bc;obtain⟨a,rfl⟩:=av0 fS;obtain⟨s,rfl⟩:=av1 fe;obtain⟨cO,a9⟩:=Jz (k:=1) (hG:=ch) Tryz.underlying23 (by kernel_rfl) (λ_=>rfl) (by omega) SK hX (JA Tryz.underlying23 hX) h2;exact⟨⟨a,s,cO⟩,.agg (Ur (g:=cl w) (xZ .v (xZ .v (xZ a9 Uq))))⟩
end
theorem Iv{f:FuncId}{ds:List V}{b:Bool}{W:World}{args:List Value}(ax:CY Tryz.prog f ds (bD b))(b5:xA (cl W) W)(a4:dp (cl W) W [] ds args):Calls Tryz.prog f args.toArray W λe tH=>e=.returned (.bool b)/\Below W.heap.size W tH:=by refine(ax (cl W) W args (alG b5) a4).mono λe tH ⟨v,g',r,H',he,⟨aO,lD⟩,aQ,bp⟩=>?_;subst aO;subst lD;have ue:v=.bool b:=bp.ic;subst ue;refine⟨he,aQ.os,aQ.tape,aQ.output,aQ.bi.size,λk ap=>?_⟩;exact(aQ.iq k ap (λi aU=>by simp[Go.Dp.own,Go.Dp.xz]at aU)).1
end Go.Proofs.YtjfgooffdmnnkaaGreatDoor
