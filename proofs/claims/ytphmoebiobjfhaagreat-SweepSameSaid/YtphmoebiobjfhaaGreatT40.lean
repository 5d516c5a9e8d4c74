/- Walks of functions, printed by a program of the author. -/
import Derived.Test.YtphmoebiobjfhaaGreatPl
import Derived.Test.YtphmoebiobjfhaaGreatT19
set_option linter.all false
namespace Go.Proofs.YtphmoebiobjfhaaGreat
open Go Go.Mi Go.RowKit
theorem f34_c {v : Value} {C : Co} {w : World} (hC : CoS w v C) (p1 : C.ch.length ≤ 100000) (p2 : C.ops.length ≤ 100000) (p3 : C.roots.length ≤ 100000) : Mi.Fn Tryz.prog 34 #[v] w fun u w' => CoW 84 76 3 w.heap.size C u w' 0 0 := by
 obtain ⟨uC, uO, uR, rfl, hu1, hu2, hu3⟩ := hC.ex;have hb0 := Below.refl w.heap.size w;refine calls_of_W Tryz.func34 rfl Tryz.ntmps34 rfl ?_;refine W_seq (W_region (SG_box rfl rfl rfl ?_));intro w1 b1 e1 hb1 hz1 hB1
 have hle1 : w.heap.size ≤ b1 := by have := hb0.size; omega
 replace hb0 := btr hb0 hb1;refine SG_alloc Tryz.zeroValue26 rfl rfl ?_;intro w2 b2 e2 hb2 hz2 hB2
 have hle2 : w.heap.size ≤ b2 := by have := hb0.size; omega
 have ne_b1_2 : ¬ b1 = b2 := by have := hB1.lt; omega
 replace hb0 := btr hb0 hb2;replace hB1 := hB1.below hb2;refine SG_nil ?_;refine D_then ?_;refine W_seq ?_;refine W_any 13 [[], [], [1], [0, 2], [], [], [5], [4, 6], [], [], [9], [8, 10], [3, 7, 11]] [frs [] (Nul w2.heap.size 84 3 encC), det [] ?a1_1n1, det [1] ?a1_2n1, frs [0, 2] (OsV w2.heap.size 84 3 encC C.ch), frs [] (Nul w2.heap.size 76 5 encO), det [] ?a1_5n1, det [5] ?a1_6n1, frs [4, 6] (OsV w2.heap.size 76 5 encO C.ops), frs [] (Nul w2.heap.size 3 1 encI), det [] ?a1_9n1, det [9] ?a1_10n1, frs [8, 10] (OsV w2.heap.size 3 1 encI C.roots), frs [3, 7, 11] (CoW 84 76 3 w2.heap.size C)] Tryz.mixed (by kernel_rfl) rfl ⟨Nul.stab, det_stab _ _, det_stab _ _, OsV.stab, Nul.stab, det_stab _ _, det_stab _ _, OsV.stab, Nul.stab, det_stab _ _, det_stab _ _, OsV.stab, CoW.stab, trivial⟩ ?_ ?_; rotate_left 6
 ·refine Obls_cons ?_ ?_
  ·intro wq hbq
   refine Obl_nil ?_;exact Ex_bslice0 (by have := hbq.size; omega) valC (fun _ => rfl) (fun _ => rfl) Tryz.runUnderlying22 Tryz.sizeOf84 Tryz.zeroValue84 (by decide)
  refine Obls_cons ?_ ?_
  ·intro wq hbq
   refine Obl_nil ?_
   refine Ex_q2 (Rq_fieldAddr fa26_0 rfl) ?_; first | exact rfl | rfl
  refine Obls_cons ?_ ?_
  ·intro wq hbq
   refine Obl_det rfl rfl (Obl_nil ?_)
   refine Ex_q2 (Rq_loadB ((hB1).below hbq) Tryz.isAgg22 rfl rfl) ?_; first | exact rfl | rfl
  refine Obls_cons ?_ ?_
  ·intro wq hbq
   refine Obl_frs rfl rfl ?_; intro v3 lo3 hi3 hle3 hR3;refine Obl_det rfl rfl ?_;refine Obl_nil ?_;exact Ex_append0 (by have := hbq.size; omega) Tryz.underlying22 info84 rfl hR3 (hu1.below (btr hb0 hbq)) (fun _ _ => rfl) (by omega) (by omega) rfl rfl
  refine Obls_cons ?_ ?_
  ·intro wq hbq
   refine Obl_nil ?_;exact Ex_bslice0 (by have := hbq.size; omega) valO (fun _ => rfl) (fun _ => rfl) Tryz.runUnderlying23 Tryz.sizeOf76 Tryz.zeroValue76 (by decide)
  refine Obls_cons ?_ ?_
  ·intro wq hbq
   refine Obl_nil ?_
   refine Ex_q2 (Rq_fieldAddr fa26_1 rfl) ?_; first | exact rfl | rfl
  refine Obls_cons ?_ ?_
  ·intro wq hbq
   refine Obl_det rfl rfl (Obl_nil ?_)
   refine Ex_q2 (Rq_loadB ((hB1).below hbq) Tryz.isAgg23 rfl rfl) ?_; first | exact rfl | rfl
  refine Obls_cons ?_ ?_
  ·intro wq hbq
   refine Obl_frs rfl rfl ?_; intro v7 lo7 hi7 hle7 hR7;refine Obl_det rfl rfl ?_;refine Obl_nil ?_;exact Ex_append0 (by have := hbq.size; omega) Tryz.underlying23 info76 rfl hR7 (hu2.below (btr hb0 hbq)) (fun _ _ => rfl) (by omega) (by omega) rfl rfl
  refine Obls_cons ?_ ?_
  ·intro wq hbq
   refine Obl_nil ?_;exact Ex_bslice0 (by have := hbq.size; omega) valI (fun _ => rfl) (fun _ => rfl) Tryz.runUnderlying24 Tryz.sizeOf3 Tryz.zeroValue3 (by decide)
  refine Obls_cons ?_ ?_
  ·intro wq hbq
   refine Obl_nil ?_
   refine Ex_q2 (Rq_fieldAddr fa26_2 rfl) ?_; first | exact rfl | rfl
  refine Obls_cons ?_ ?_
  ·intro wq hbq
   refine Obl_det rfl rfl (Obl_nil ?_)
   refine Ex_q2 (Rq_loadB ((hB1).below hbq) Tryz.isAgg24 rfl rfl) ?_; first | exact rfl | rfl
  refine Obls_cons ?_ ?_
  ·intro wq hbq
   refine Obl_frs rfl rfl ?_; intro v11 lo11 hi11 hle11 hR11;refine Obl_det rfl rfl ?_;refine Obl_nil ?_;exact Ex_append0 (by have := hbq.size; omega) Tryz.underlying24 info3 rfl hR11 (hu3.below (btr hb0 hbq)) (fun _ _ => rfl) (by omega) (by omega) rfl rfl
  refine Obls_cons ?_ ?_
  ·intro wq hbq
   refine Obl_frs rfl rfl ?_; intro v6 lo6 hi6 hle6 hR6;refine Obl_frs rfl rfl ?_; intro v10 lo10 hi10 hle10 hR10;refine Obl_frs rfl rfl ?_; intro v14 lo14 hi14 hle14 hR14;refine Obl_nil ?_;obtain ⟨g1, a1, n1, c1, rfl⟩ := hR6; obtain ⟨g2, a2, n2, c2, rfl⟩ := hR10; obtain ⟨g3, a3, n3, c3, rfl⟩ := hR14;exact Ex_qR (Rq_build3 build26_0_1_2 rfl rfl rfl rfl rfl rfl) (fun _ _ => ⟨a1, n1, c1, a2, n2, c2, a3, n3, c3, rfl, g1, g2, g3⟩)
  exact Obls_nil
 ·intro wa1 hba1
  replace hb0 := btr hb0 hba1;replace hB2 := hB2.below hba1;refine Fin_frs rfl ?_; intro v3 lo3 hi3 hR3 hlB3 hlh3 hhw3 hdj3;refine Fin_det rfl (Fin_det rfl (Fin_frs rfl ?_)); intro v6 lo6 hi6 hR6 hlB6 hlh6 hhw6 hdj6;refine Fin_frs rfl ?_; intro v7 lo7 hi7 hR7 hlB7 hlh7 hhw7 hdj7;refine Fin_det rfl (Fin_det rfl (Fin_frs rfl ?_)); intro v10 lo10 hi10 hR10 hlB10 hlh10 hhw10 hdj10;refine Fin_frs rfl ?_; intro v11 lo11 hi11 hR11 hlB11 hlh11 hhw11 hdj11;refine Fin_det rfl (Fin_det rfl (Fin_frs rfl ?_)); intro v14 lo14 hi14 hR14 hlB14 hlh14 hhw14 hdj14;refine Fin_frs rfl ?_; intro v15 lo15 hi15 hR15 hlB15 hlh15 hhw15 hdj15;refine Fin_nil ?_
  simp only [List.drop_succ_cons, List.drop_zero]
  obtain ⟨a1, n1, c1, a2, n2, c2, a3, n3, c3, rfl, hs1, hs2, hs3⟩ := hR15
  have ne_hs1_b2 : ∀ k, Value.ownBlock (.slice a1 n1 c1) = some k → ¬ k = b2 := fun k e => by have := (hs1.lt e).1; omega
  have ne_hs2_b2 : ∀ k, Value.ownBlock (.slice a2 n2 c2) = some k → ¬ k = b2 := fun k e => by have := (hs2.lt e).1; omega
  have ne_hs3_b2 : ∀ k, Value.ownBlock (.slice a3 n3 c3) = some k → ¬ k = b2 := fun k e => by have := (hs3.lt e).1; omega
  refine SG_storeW (hB2) rfl rfl rfl rfl Tryz.sizeOf26 rfl rfl ?_;intro ws1x13 hchs1x13 hBs1x13;replace hb0 := bchg hb0 hchs1x13 hle2;replace hs1 := hs1.chg hchs1x13 (fun k e e2 => by first | exact ne_hs1_b2 k e e2 | (have := hs1.lt e; have := ne_hs1_b2; omega));replace hs2 := hs2.chg hchs1x13 (fun k e e2 => by first | exact ne_hs2_b2 k e e2 | (have := hs2.lt e; have := ne_hs2_b2; omega));replace hs3 := hs3.chg hchs1x13 (fun k e e2 => by first | exact ne_hs3_b2 k e e2 | (have := hs3.lt e; have := ne_hs3_b2; omega));clear hB2;refine SG_nil ?_;refine D_then ?_;refine W_ret ?_;refine D_bodyR1 rfl rfl (.cellW rfl (hBs1x13) Tryz.isAgg26 Tryz.sizeOf26 rfl) ?_;have hz := (btr hb1 hb2).size;exact ⟨_, rfl, hb0, a1, n1, c1, a2, n2, c2, a3, n3, c3, rfl, hs1.le hz, hs2.le hz, hs3.le hz⟩
end Go.Proofs.YtphmoebiobjfhaaGreat
