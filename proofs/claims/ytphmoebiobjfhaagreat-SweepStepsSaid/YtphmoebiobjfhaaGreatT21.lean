/- Walks of functions, printed by a program of the author. -/
import Derived.Test.YtphmoebiobjfhaaGreatT20
set_option linter.all false
namespace Go.Proofs.YtphmoebiobjfhaaGreat
open Go Go.Mi Go.RowKit Tryz Go.Proofs.Tryz
theorem f11_w {v : Value} {C : Co} {w : World} (hC : CoS w v C) (p1 : C.ch.length ≤ 100000) (p2 : C.ops.length ≤ 100000) (p3 : C.roots.length ≤ 100000) : Mi.Fn prog 11 #[v] w fun u w' => CoW 84 76 3 w.heap.size C u w' 0 0 := by
 obtain ⟨uC, uO, uR, rfl, hu1, hu2, hu3⟩ := hC.ex;have hb0 := Below.refl w.heap.size w;refine zE func11 rfl ntmps11 rfl ?_;refine zg (za (qe rfl rfl rfl ?_));intro w1 b1 e1 hb1 hz1 hB1
 have hle1 : w.heap.size ≤ b1 := by have := hb0.size; omega
 replace hb0 := btr hb0 hb1;refine zM zeroValue26 rfl rfl ?_;intro w2 b2 e2 hb2 hz2 hB2
 have hle2 : w.heap.size ≤ b2 := by have := hb0.size; omega
 have ne_b1_2 : ¬ b1 = b2 := by have := hB1.lt; omega
 replace hb0 := btr hb0 hb2;replace hB1 := hB1.below hb2;refine zd ?_;refine zb ?_;refine zg ?_;refine jh 13 [[], [], [1], [0, 2], [], [], [5], [4, 6], [], [], [9], [8, 10], [3, 7, 11]] [frs [] (Nul w2.heap.size 84 3 encC), det [] ?a1_1n1, det [1] ?a1_2n1, frs [0, 2] (OsV w2.heap.size 84 3 encC C.ch), frs [] (Nul w2.heap.size 76 5 encO), det [] ?a1_5n1, det [5] ?a1_6n1, frs [4, 6] (OsV w2.heap.size 76 5 encO C.ops), frs [] (Nul w2.heap.size 3 1 encI), det [] ?a1_9n1, det [9] ?a1_10n1, frs [8, 10] (OsV w2.heap.size 3 1 encI C.roots), frs [3, 7, 11] (CoW 84 76 3 w2.heap.size C)] mixed (by kernel_rfl) rfl ⟨Nul.stab, zn _ _, zn _ _, OsV.stab, Nul.stab, zn _ _, zn _ _, OsV.stab, Nul.stab, zn _ _, zn _ _, OsV.stab, CoW.stab, trivial⟩ ?_ ?_; rotate_left 6
 ·refine zj ?_ ?_
  ·intro wq hbq
   refine zo ?_;exact Ex_bslice0 (by have := hbq.size; omega) valC (fun _ => rfl) (fun _ => rfl) zU22 sizeOf84 zeroValue84 (by decide)
  refine zj ?_ ?_
  ·intro wq hbq
   refine zo ?_
   refine zz (zh ji rfl) ?_; first | exact rfl | rfl
  refine zj ?_ ?_
  ·intro wq hbq
   refine zx rfl rfl (zo ?_)
   refine zz (zi ((hB1).below hbq) isAgg22 rfl rfl) ?_; first | exact rfl | rfl
  refine zj ?_ ?_
  ·intro wq hbq
   refine jw rfl rfl ?_; intro v3 lo3 hi3 hle3 hR3;refine zx rfl rfl ?_;refine zo ?_;exact Ex_append0 (by have := hbq.size; omega) underlying22 info84 rfl hR3 (hu1.below (btr hb0 hbq)) (fun _ _ => rfl) (by omega) (by omega) rfl rfl
  refine zj ?_ ?_
  ·intro wq hbq
   refine zo ?_;exact Ex_bslice0 (by have := hbq.size; omega) valO (fun _ => rfl) (fun _ => rfl) zU23 sizeOf76 zeroValue76 (by decide)
  refine zj ?_ ?_
  ·intro wq hbq
   refine zo ?_
   refine zz (zh z1 rfl) ?_; first | exact rfl | rfl
  refine zj ?_ ?_
  ·intro wq hbq
   refine zx rfl rfl (zo ?_)
   refine zz (zi ((hB1).below hbq) isAgg23 rfl rfl) ?_; first | exact rfl | rfl
  refine zj ?_ ?_
  ·intro wq hbq
   refine jw rfl rfl ?_; intro v7 lo7 hi7 hle7 hR7;refine zx rfl rfl ?_;refine zo ?_;exact Ex_append0 (by have := hbq.size; omega) underlying23 info76 rfl hR7 (hu2.below (btr hb0 hbq)) (fun _ _ => rfl) (by omega) (by omega) rfl rfl
  refine zj ?_ ?_
  ·intro wq hbq
   refine zo ?_;exact Ex_bslice0 (by have := hbq.size; omega) valI (fun _ => rfl) (fun _ => rfl) zU24 sizeOf3 zeroValue3 (by decide)
  refine zj ?_ ?_
  ·intro wq hbq
   refine zo ?_
   refine zz (zh qI rfl) ?_; first | exact rfl | rfl
  refine zj ?_ ?_
  ·intro wq hbq
   refine zx rfl rfl (zo ?_)
   refine zz (zi ((hB1).below hbq) isAgg24 rfl rfl) ?_; first | exact rfl | rfl
  refine zj ?_ ?_
  ·intro wq hbq
   refine jw rfl rfl ?_; intro v11 lo11 hi11 hle11 hR11;refine zx rfl rfl ?_;refine zo ?_;exact Ex_append0 (by have := hbq.size; omega) underlying24 info3 rfl hR11 (hu3.below (btr hb0 hbq)) (fun _ _ => rfl) (by omega) (by omega) rfl rfl
  refine zj ?_ ?_
  ·intro wq hbq
   refine jw rfl rfl ?_; intro v6 lo6 hi6 hle6 hR6;refine jw rfl rfl ?_; intro v10 lo10 hi10 hle10 hR10;refine jw rfl rfl ?_; intro v14 lo14 hi14 hle14 hR14;refine zo ?_;obtain ⟨g1, a1, n1, c1, rfl⟩ := hR6; obtain ⟨g2, a2, n2, c2, rfl⟩ := hR10; obtain ⟨g3, a3, n3, c3, rfl⟩ := hR14;exact Ex_qR (jP build26_0_1_2 rfl rfl rfl rfl rfl rfl) (fun _ _ => ⟨a1, n1, c1, a2, n2, c2, a3, n3, c3, rfl, g1, g2, g3⟩)
  exact qD
 ·intro wa1 hba1
  replace hb0 := btr hb0 hba1;replace hB2 := hB2.below hba1;refine qY rfl ?_; intro v3 lo3 hi3 hR3 hlB3 hlh3 hhw3 hdj3;refine zq rfl (zq rfl (qY rfl ?_)); intro v6 lo6 hi6 hR6 hlB6 hlh6 hhw6 hdj6;refine qY rfl ?_; intro v7 lo7 hi7 hR7 hlB7 hlh7 hhw7 hdj7;refine zq rfl (zq rfl (qY rfl ?_)); intro v10 lo10 hi10 hR10 hlB10 hlh10 hhw10 hdj10;refine qY rfl ?_; intro v11 lo11 hi11 hR11 hlB11 hlh11 hhw11 hdj11;refine zq rfl (zq rfl (qY rfl ?_)); intro v14 lo14 hi14 hR14 hlB14 hlh14 hhw14 hdj14;refine qY rfl ?_; intro v15 lo15 hi15 hR15 hlB15 hlh15 hhw15 hdj15;refine qH ?_
  simp only [List.drop_succ_cons, List.drop_zero]
  obtain ⟨a1, n1, c1, a2, n2, c2, a3, n3, c3, rfl, hs1, hs2, hs3⟩ := hR15
  have ne_hs1_b2 : ∀ k, Value.ownBlock (.slice a1 n1 c1) = some k → ¬ k = b2 := fun k e => by have := (hs1.lt e).1; omega
  have ne_hs2_b2 : ∀ k, Value.ownBlock (.slice a2 n2 c2) = some k → ¬ k = b2 := fun k e => by have := (hs2.lt e).1; omega
  have ne_hs3_b2 : ∀ k, Value.ownBlock (.slice a3 n3 c3) = some k → ¬ k = b2 := fun k e => by have := (hs3.lt e).1; omega
  refine zm (hB2) rfl rfl rfl rfl sizeOf26 rfl rfl ?_;intro ws1x13 hchs1x13 hBs1x13;replace hb0 := bchg hb0 hchs1x13 hle2;replace hs1 := hs1.chg hchs1x13 (fun k e e2 => by first | exact ne_hs1_b2 k e e2 | (have := hs1.lt e; have := ne_hs1_b2; omega));replace hs2 := hs2.chg hchs1x13 (fun k e e2 => by first | exact ne_hs2_b2 k e e2 | (have := hs2.lt e; have := ne_hs2_b2; omega));replace hs3 := hs3.chg hchs1x13 (fun k e e2 => by first | exact ne_hs3_b2 k e e2 | (have := hs3.lt e; have := ne_hs3_b2; omega));clear hB2;refine zd ?_;refine zb ?_;refine zu ?_;refine zR rfl rfl (.cellW rfl (hBs1x13) isAgg26 sizeOf26 rfl) ?_;have hz := (btr hb1 hb2).size;exact ⟨_, rfl, hb0, a1, n1, c1, a2, n2, c2, a3, n3, c3, rfl, hs1.le hz, hs2.le hz, hs3.le hz⟩
theorem f11_c {v : Value} {C : Co} {w : World} (hC : CoS w v C) (p1 : C.ch.length ≤ 100000) (p2 : C.ops.length ≤ 100000) (p3 : C.roots.length ≤ 100000) : Mi.Fn prog 11 #[v] w fun u w' => CoL w.heap.size C u w' 0 0 := Fn.mono (f11_w hC p1 p2 p3) fun _ _ _ h => h.co
theorem f46_c (z : Ot) (w : World) (h0 : 1 ≤ z.code) (h1 : z.code ≤ 17) : Mi.Fn prog 46 #[valO z] w fun u w' => SL w' u 1 encI (opsOf z) ∧ (0 < (opsOf z).length → w.heap.size ≤ sb u) := by
 have hb0 := Below.refl w.heap.size w;refine zE func46 rfl ntmps46 rfl ?_;refine zg (za (qe rfl rfl rfl ?_));intro w1 b1 e1 hb1 hz1 hB1
 have hle1 : w.heap.size ≤ b1 := by have := hb0.size; omega
 replace hb0 := btr hb0 hb1;refine SQ (ze rfl) (zd (zb (zg (za (SQ (zh qc rfl) (SQ (zi (hB1) isAgg5 rfl rfl) (zF rfl call61 rfl (f61_c z.code 0 _ (by omega) (by omega)) ?_)))))));intro w10 hb10;replace hb0 := btr hb0 hb10;replace hB1 := hB1.below hb10;refine SQ (zf rfl) (SQ (zK rfl rfl) (SQ (zK rfl rfl) (SQ (zK rfl rfl) (SQ (ze rfl) (SQ (ze rfl) (SQ (ze rfl) (zd (zb (zg (za (SQ (zh qs rfl) (SQ (zi (hB1) isAgg3 rfl rfl) (SQ (zh qE rfl) (SQ (zi (hB1) isAgg3 rfl rfl) (SQ (zh q5 rfl) (SQ (zi (hB1) isAgg3 rfl rfl) (z2 (enc := encI) (val := valI) (os := [.tmp 15, .tmp 17, .tmp 19]) rfl rfl (MV.cons (x := z.a) (MV.cons (x := z.b) (MV.cons (x := z.c) MV.nil))) (fun _ => rfl) (fun _ => rfl) zU24 sizeOf3 zeroValue3 rfl (by decide) (by decide) rfl ?_)))))))))))))))));intro w20 v20 b20 e20 hb20 hz20 hob20 hO20
 have hle20 : w.heap.size ≤ b20 := by have := hb0.size; omega
 have lt_b1_20 : b1 < b20 := by have := hB1.lt; omega
 replace hb0 := btr hb0 hb20;refine SQ (ze rfl) (zd (zb (zg (za (SQ (zf rfl) (SQ (zf rfl) (SQ (Rq_max rfl rfl) ?_)))))));have hsh := hO20.sl.cons_shape (by simp);have har := opnR_ar z.code 0 h0 h1;have har3 := q7 z.code
 have hcap : 3 ≤ scap v20 := by rcases hO20.sl.shape with ⟨_, h⟩ | ⟨_, h⟩; cases h; simpa using h
 have hmx : (if (opnR z.code 0).1 > 0 then (opnR z.code 0).1 else 0) = (arN z.code : Int) := by rw [har]; split <;> omega
 refine SQ (Rq_sliceS zU24 sizeOf3 (congrArg some hsh) rfl (by rw [hmx]; omega) (by rw [hmx]; omega)) ?_;refine SQ (ze rfl) ?_;refine zd ?_;refine zb ?_;refine zu ?_;refine zP rfl rfl rfl ?_;refine ⟨_, rfl, hb0, ?_⟩;rw [hmx, Int.toNat_natCast];exact ⟨SL.take (xs := [z.a, z.b, z.c]) hO20.sl hsh har3 hcap, fun _ => Nat.le_trans hle20 (hO20.lt (qL hO20.sl (by simp))).1⟩
end Go.Proofs.YtphmoebiobjfhaaGreat
