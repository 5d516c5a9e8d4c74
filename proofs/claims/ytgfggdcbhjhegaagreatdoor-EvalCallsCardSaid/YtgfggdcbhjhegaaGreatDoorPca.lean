/- The functions of the program compute what their models say. -/
import Derived.Test.YtgfggdcbhjhegaaGreatDoorPba
import Derived.Test.YtgfggdcbhjhegaaGreatDoorPbb
import Derived.Test.YtgfggdcbhjhegaaGreatDoorPbc
set_option linter.all false
set_option maxRecDepth 100000
set_option maxHeartbeats 4000000
namespace Go.Proofs.YtgfggdcbhjhegaaGreatDoor
open Go Go.Mi Go.RowKit Go.Dp Tryz Go.Proofs.Tryz
noncomputable section
attribute [local irreducible] bI cW co bZ
instance aBl{J:ax}{ab ag ak ap an al am aD a2 bc ba bm bF}:ca (Ga J ab ag ak ap an al am aD a2 bc ba bm bF) 130 [.aR 0 0,aI ab,.agg ((b7 ag).map .p)] [eH ak ap an al am aD a2 1 2 3 4,e4 bc,dH ba,c3 bm,eW bF] 0 (λr=>bT 2 b7 r.1) (λr=>[eH ak ap an al am aD a2 1 2 3 4,e4 bc,dH ba,c3 r.2,eW bF]):=.aY 0 func130 rfl ntmps130 aW
instance aBm{J:ax}{gV} [Dm:xF gV]{ab ag ak ap an al am aD a2 bc ba bm bF ch cS}:ca (Ln J gV ab ag ak ap an al am aD a2 bc ba bm bF ch cS) 92 [.aR 0 0,.aR 1 0,aI ab] [eH ag ak ap an al am aD 2 3 4 5,kK a2 bc 6,e4 ba,dH bm,c3 bF,eW ch,dH cS] 0 (λr=>bT 2 b7 r.1) (λr=>[eH ag ak r.2.1 r.2.2.1 r.2.2.2.1 am aD 2 3 4 5,kK a2 bc 6,e4 ba,dH r.2.2.2.2.1,c3 r.2.2.2.2.2.1,eW r.2.2.2.2.2.2.1,dH r.2.2.2.2.2.2.2]):=.aY 2 func92 rfl ntmps92 aW
instance aBn{J:ax}{ab ag ak ap an al am aD a2 bc ba bm bF ch cS i9}:ca (Ls J ab ag ak ap an al am aD a2 bc ba bm bF ch cS i9) 123 [.fW 0,.aR 1 0,.bA [bD ab]] [Fv .ready none [(7,.aR 2 0),(9,.aR 3 0)] 4,l8 5,Cn ag,.cells 107 [.aR 6 0],.cr true,eH ak ap an al am aD a2 7 8 9 10,kK bc ba 11,e4 bm,dH bF,c3 ch,eW cS,dH i9] 0 (λr=>.cg []) (λr=>[Fv .ready none [(7,.aR 2 0),(9,.aR 3 0)] 4,l8 5,Cn r.1,.cells 107 [.aR 6 0],.cr true,eH ak ap an al am aD a2 7 8 9 10,kK bc ba 11,e4 bm,dH bF,c3 r.2.2,eW cS,dH r.2.1]):=.aY 0 func123 rfl ntmps123<|by intro _ _ _;refine a7 λZ=>?_;refine a7 λad=>?_;refine cJ (α:=(Int×cd×List di×j6)) (λs=>[(22,aI s.1)]) (λH s=>((H.set 2 (Cn s.2.1)).set 9 (c3 s.2.2.1)).set 11 (dH s.2.2.2)) [0,1,20,21] ?_;rintro⟨vY,jM,Lr,Sc⟩ n;exact aW
instance aBo{J:ax}{gV} [Dm:xF gV]{ab ag ak ap an al am aD a2 bc ba bm bF ch}:ca (xZ J gV ab ag ak ap an al am aD a2 bc ba bm bF ch) 51 [.aR 0 0,aI ab,aI ag,bT 2 b7 ak] [eH ap an al am aD a2 bc 1 2 3 4,e4 ba,dH bm,c3 bF,eW ch] 0 (λr=>bT 2 b7 r.1) (λr=>[eH ap an r.2.1 r.2.2.1 r.2.2.2.1 a2 bc 1 2 3 4,e4 ba,dH r.2.2.2.2.1,c3 r.2.2.2.2.2.1,eW r.2.2.2.2.2.2]):=.qh 8 func51 rfl ntmps51<|by
 intro _ _ _;refine gc ?_;refine b4 ?_;refine .aC (Qy (i:=6)) (da rfl) rfl<|?_;refine gc ?_;refine a7 λZ=>?_;refine b4 ?_;refine .range (H2:=λad=>[eH ap an al am aD a2 bc 1 2 3 4,e4 ba,dH bm,c3 ad.2.2,eW ch,Cn ad.1,dH ad.2.1,kK ab ag 6,.cells 107 [.aR 7 0],l8 0,Fv .ready none [(7,.aR 5 0),(9,.aR 8 0)] 11,.cr true,.bW]) 10 11 12 [10,9,5,8,11,0,7,1,2,3,4,6] [] rfl rfl rfl rfl (.s rfl (.s rfl .n)) (λ_ _=>rfl) .fn rfl (λz h=>⟨fC.h h,.lf rfl,rfl,rfl⟩) (bK rfl (bK rfl (bK rfl (bK rfl (bK rfl (bK rfl (bK rfl (bK rfl (bK rfl (bK rfl (bK rfl (bK rfl e6)))))))))))) (λ_=>.mk rfl (by decide) rfl) (λ_=>rfl) (λ_=>rfl) (λ_=>rfl) (λad alD=>?_)
 ·refine a7 λaN=>?_;refine b4 ?_;refine .Qa 10 rfl (.s rfl .n) rfl λaBp=>?_;refine a7 λbe=>?_;refine a7 λbL=>?_;refine a7 λbJ=>?_;refine b4 ?_;refine .aii 10 [0,1,2,3,4] [] rfl rfl (λ_ _=>rfl) (λz h=>⟨alg h,.lf rfl,rfl⟩) rfl (bK rfl (bK rfl (bK rfl (bK rfl (bK rfl e6))))) λci=>.mC 12 rfl rfl rfl<|.kZ rfl<|?_;exact aW
instance aBq{J:ax}{gV} [Dm:xF gV]{iL} [Dl:xG iL]{ab ag ak ap an al am aD a2 bc ba bm bF ch cS}:ca (Se J gV iL ab ag ak ap an al am aD a2 bc ba bm bF ch cS) 93 [.aR 0 0,.aR 1 0,aI ab] [eH ag ak ap an al am aD 2 3 4 5,kK a2 bc 6,e4 ba,dH bm,c3 bF,eW ch,dH cS] 0 (λr=>bT 2 b7 r.1) (λr=>[eH ag ak r.2.1 r.2.2.1 r.2.2.2.1 am aD 2 3 4 5,kK a2 bc 6,e4 ba,dH r.2.2.2.2.1,c3 r.2.2.2.2.2.1,eW r.2.2.2.2.2.2.1,dH r.2.2.2.2.2.2.2]):=.aY 0 func93 rfl ntmps93<|by
 intro _ _ _;refine .seq<|.region<|.dz rfl rfl<|.nil<|.i7<|.seq<|.BV [(0,5,bT 1 cH am)] Cj ⟨rfl,trivial⟩<|.eJ rfl .n<|.eJ rfl .n<|.eJ rfl .n<|.cF rfl .n<|.m1 ajG.h rfl .n<|.m1 ajI.h rfl .n<|?_;refine .aiu isAgg22 rfl rfl rfl .n<|.eJ rfl .n<|.aL runUnderlying22 sizeOf40 rfl rfl qf akb .n λZ=>.aiv ajJ.h rfl rfl .n<|.Yn isAgg23 rfl rfl .n<|.ait (H2:=λad=>[eH ag ak ad.2.1 ad.2.2.1 ad.2.2.2.1 am aD 2 3 4 5,kK a2 bc 6,e4 ba,dH ad.2.2.2.2.1,c3 ad.2.2.2.2.2.1,eW ad.2.2.2.2.2.2.1,dH ad.2.2.2.2.2.2.2]) [0,1,2,3,4,5,6] [] [0,3,4,5,6] (λz h=>⟨fC.h h,.lf rfl,rfl,rfl⟩) (λ_ _=>rfl) (.s rfl (.s rfl (.s rfl .n))) (bK rfl (bK rfl (bK rfl (bK rfl (bK rfl (bK rfl (bK rfl e6))))))) (λ_=>⟨.inl rfl,.inr rfl,.inr rfl,.inl rfl,.inl rfl,.inl rfl,.inl rfl,trivial⟩) (λ_=>rfl) (λ_=>⟨⟨rfl,trivial,trivial,trivial,trivial,trivial⟩,trivial⟩) .n λad=>?_;refine .eJ rfl .n<|.cF rfl .n<|.m1 ajH.h rfl .n<|.Fp 0 isAgg23 rfl rfl<|.eJ rfl .n<|.aL runUnderlying23 sizeOf3 rfl rfl qf (λ_=>rfl) .n λaA=>.Yn isAgg3 rfl rfl .n<|?_;refine .dz rfl .n<|.dz rfl .n<|.dz rfl .n<|.nil (by kernel_rfl)<|?_;refine fl ?_;refine .fb (β:=Int) (λs=>[(9,aI s)]) (λH _=>H) [0,2,7,8] (Gd ag aA J ab ak ad am aD ba gV) ?_ ?_
 ·rintro gE;exact aW
 ·intro j;exact aW
instance aBr{J:ax}{ab ag}:ca (Sf J ab ag) 180 [.agg ((du ab).map .p),cG ag] [] 3 (Sum.elim (λr=>.cg [.p (.v (.pointer none)),bT 1 cH r.1,aI r.2]) (λr=>.cg [.aR 0 0,bT 1 cH r.1,aI r.2.1])) (Sum.elim (λ_=>[]) (λr=>[g9 r.2.2.1 r.2.2.2.1 r.2.2.2.2.1 1 2 r.2.2.2.2.2.1 r.2.2.2.2.2.1,c3 r.2.2.2.2.2.2.1,.bu 9 (r.2.2.2.2.2.2.2.map eV)])):=.aY 3 func180 rfl ntmps180<|by
 intro _ _ _;refine pQ (λZ=>?_) (λad=>?_)
 ·refine cp ?_;exact .br
 ·refine cp ?_;refine b4 ?_;refine .aC (JO (k:=ag) rfl rfl rfl) (da rfl) rfl<|?_;exact aW
instance aBs{J:ax}{U aj a6}:bG (Lu J U aj a6) 131 [.agg ((du U).map .p),cG aj,cG a6] (λr=>.cg [aI r.1,aI r.2.1,aI r.2.2]):=.aY 3 func131 rfl ntmps131<|by
 intro _ _ _;refine pQ (λZ=>?_) (λad=>?_)
 ·refine cp ?_;refine cJ (α:=(Int×Int)) (λs=>[(6,aI s.1),(27,aI s.2)]) (λH _=>H) [2,9,25,26] ?_;rintro⟨gt,aaK⟩ n;refine fm ?_;exact .br
 ·refine cp ?_;refine cJ (α:=(Int×Int)) (λs=>[(6,aI s.1),(27,aI s.2)]) (λH _=>H) [2,9,25,26] ?_;rintro⟨i8,Lt⟩ n;exact aW
instance aBt{J:ax}{gV} [Dm:xF gV]{ab ag ak ap an al am aD a2 bc ba bm bF ch cS}:ca (Lv J gV ab ag ak ap an al am aD a2 bc ba bm bF ch cS) 94 [.aR 0 0,.aR 1 0,aI ab] [eH ag ak ap an al am aD 2 3 4 5,kK a2 bc 6,e4 ba,dH bm,c3 bF,eW ch,dH cS] 0 (λr=>bT 2 b7 r.1) (λr=>[eH ag ak r.2.1 r.2.2.1 r.2.2.2.1 am aD 2 3 4 5,kK a2 bc 6,e4 ba,dH r.2.2.2.2.1,c3 r.2.2.2.2.2.1,eW r.2.2.2.2.2.2.1,dH r.2.2.2.2.2.2.2]):=.aY 2 func94 rfl ntmps94<|by
 intro _ _ _;refine a7 λZ=>?_;refine b4 ?_;refine .aC (aj3 (k:=ab) rfl rfl rfl) (da rfl) rfl<|?_;refine fl ?_;refine .fb (β:=(List hi×Int×Int×Int)) (λ_=>[]) (λH s=>((H.set 5 (eW s.1)).set 7 (fA s.2.1 Z.bi Z.n Z.a3 Z.dx)).set 8 (.cells 182 [aI s.2.2.1,aI s.2.2.2])) [0,1,7,8] (Ge Z gV ag ak ap an al am aD a2 bc ba bm bF cS) ?_ ?_
 ·rintro⟨aaM,akA,aaN,Sg⟩;exact aW
 ·intro j;refine fm ?_;refine a7 λbe=>?_;refine a7 λbL=>?_;refine a7 λbJ=>?_;refine b4 ?_;refine .aC (aj4 (k:=ab) (a:=(⟨bJ.1,bJ.2.1⟩:oi)) rfl rfl rfl rfl .gp) (da rfl) .n<|?_;exact aW
theorem alE{J:ax}{gV} [Dm:xF gV]{iL} [Dl:xG iL]{ab ag ak ap an al am aD a2 bc ba bm bF ch cS}:ca (Lz J gV iL ab ag ak ap an al am aD a2 bc ba bm bF ch cS) 61 [.aR 0 0,.aR 1 0,aI ab] [eH ag ak ap an al am aD 2 3 4 5,kK a2 bc 6,e4 ba,dH bm,c3 bF,eW ch,dH cS] 0 (λr=>bT 2 b7 r.1) (λr=>[eH ag ak r.2.1 r.2.2.1 r.2.2.2.1 am aD 2 3 4 5,kK a2 bc 6,e4 ba,dH r.2.2.2.2.1,c3 r.2.2.2.2.2.1,eW r.2.2.2.2.2.2.1,dH r.2.2.2.2.2.2.2]):=.aY 1 func61 rfl ntmps61<|by intro _ _ _;refine a7 λZ=>?_;refine a7 λad=>?_;refine cp ?_;refine xv ?_;refine cp ?_;refine cp ?_;refine xv ?_;refine cp ?_;refine fm ?_;refine a7 λbL=>?_;refine a7 λbJ=>?_;refine .aC (aj1 (k:=ab) (a:=bJ.1) rfl rfl rfl rfl .gp) (da rfl) .n<|?_;exact aW
theorem alF{J:ax}{iL} [Dl:xG iL](k:Nat):xF (LA J iL k):=by
  induction k with
  |zero=>(repeat intro _);exact .br rfl
  |succ k bB=>(repeat intro _);exact alE (Dm:=bB)
instance aBu{J:ax}{iL} [Dl:xG iL]:xF (zU J iL):=alF J.n
end
end Go.Proofs.YtgfggdcbhjhegaaGreatDoor
