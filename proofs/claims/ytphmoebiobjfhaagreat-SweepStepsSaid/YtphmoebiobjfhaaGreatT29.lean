/- Walks of functions, printed by a program of the author. -/
import Derived.Test.YtphmoebiobjfhaaGreatT28
set_option linter.all false
namespace Go.Proofs.YtphmoebiobjfhaaGreat
open Go Go.Mi Go.RowKit Tryz Go.Proofs.Tryz
theorem jf (v : Value) (w : World) (hv : one1 v = true) : (Instr.build 95 #[(0, v)]).run prog w = .ok (.agg [v, (.int .u8 0), (.int .i64 0), (.int .i64 0), (.int .i64 0), (.int .i64 0)].toArray) w := by
 unfold Instr.build
 simp [Sem.run_bind, zeroValue95, runUnderlying95, sizeOf3, sizeOf76, Instr.fill, ql hv, Result.andThen, qJ]
theorem tryR_eq {ops : List Ot} {tr : List Bool} {r i : Int} {x y z u : Ot} (hx : getO ops i = x) (hy : getO ops x.a = y) (hz : getO ops x.b = z) (hu : getO ops x.c = u) : tryR ops tr r i = tryX ops tr r i x y z u := by
 subst hx; subst hy; subst hz; subst hu; rfl
set_option maxHeartbeats 4000000 in
theorem f50_c {v tv : Value} {C : Co} {w : World} (hC : CoS w v C) (hck : checkR C = 0) (hT : SL w tv 1 encB (truthsR C.ops)) {i : Int} (h0 : 0 ≤ i) (h1 : i < C.ops.length) (r : Int) : Pure prog 50 #[v, tv, .int .u8 r, .int .i64 i] w (.tuple #[valD (tryR C.ops (truthsR C.ops) r i), .bool (tryR C.ops (truthsR C.ops) r i).ap]) := by
 obtain ⟨uC, uO, uR, rfl, hu1, hu2, hu3⟩ := hC.ex;have hll := (qm hck).1;have hlo2 := hu2.lt;have hltr := z5 C.ops
 obtain ⟨x, hx⟩ : ∃ x, getO C.ops i = x := ⟨_, rfl⟩
 have hxi := zV h0 h1;rw [hx] at hxi;have hwx := jR hck i h0 h1;rw [hx] at hwx;obtain ⟨xa0, xa1, xb0, xb1, xc0, xc1, _⟩ := hwx
 obtain ⟨y, hy⟩ : ∃ y, getO C.ops x.a = y := ⟨_, rfl⟩
 have hyi := zV xa0 xa1;rw [hy] at hyi
 obtain ⟨z, hz⟩ : ∃ z, getO C.ops x.b = z := ⟨_, rfl⟩
 have hzi := zV xb0 xb1;rw [hz] at hzi
 obtain ⟨u, hu⟩ : ∃ u, getO C.ops x.c = u := ⟨_, rfl⟩
 have hui := zV xc0 xc1;rw [hu] at hui;have hwy := jR hck x.a xa0 xa1;rw [hy] at hwy;have ya0 := hwy.a0; have ya1 := hwy.a1;have hta := qU (l := truthsR C.ops) xa0 (by rw [hltr]; exact xa1);have htya := qU (l := truthsR C.ops) ya0 (by rw [hltr]; exact ya1);have htr := tryR_eq (tr := truthsR C.ops) (r := r) hx hy hz hu;rw [htr];clear htr hwy;have hb0 := Below.refl w.heap.size w;refine zE func50 rfl ntmps50 rfl ?_;refine zg ?_;refine za ?_;refine qe rfl rfl rfl ?_;intro w4 b4 e4 hb4 hz4 hB4
 have hle4 : w.heap.size ≤ b4 := by have := hb0.size; omega
 replace hb0 := btr hb0 hb4;replace hu2 := hu2.below hb4;replace hT := hT.below hb4;refine zM zeroValue95 rfl rfl ?_;intro w8 b8 e8 hb8 hz8 hB8
 have hle8 : w.heap.size ≤ b8 := by have := hb0.size; omega
 have ne_hT_b8 := hT.fresh (b := b8) (by omega)
 have ne_b4_8 : ¬ b4 = b8 := by have := hB4.lt; omega
 replace hb0 := btr hb0 hb8;replace hu2 := hu2.below hb8;replace hT := hT.below hb8;replace hB4 := hB4.below hb8;refine SQ (ze rfl) (zd (zb (zg (za (SQ (zh z1 rfl) (SQ (zi (hB4) isAgg23 rfl rfl) (SQ (zf rfl) ?_)))))))
 first | refine zy (hu2) zU23 sizeOf76 rfl rfl ?_ ?_ rfl ?_ | refine zy (hT) zU23 sizeOf76 rfl rfl ?_ ?_ rfl ?_
 ·first | omega | exact h0 | exact h1
 ·first | omega | exact h0 | exact h1
 intro x19 hx19 hc19;have ex19 := Option.some.inj ((hxi).symm.trans hx19); subst ex19;refine SQ (qg isAgg76 sizeOf76 rfl ((hc19)) rfl) (zM zeroValue76 rfl rfl ?_);intro w10 b10 e10 hb10 hz10 hB10
 have hle10 : w.heap.size ≤ b10 := by have := hb0.size; omega
 have ne_hu2_b10 := hu2.fresh (b := b10) (by omega);have ne_hT_b10 := hT.fresh (b := b10) (by omega)
 have ne_b4_10 : ¬ b4 = b10 := by have := hB4.lt; omega
 have ne_b8_10 : ¬ b8 = b10 := by have := hB8.lt; omega
 have ne_b10_8 : ¬ b10 = b8 := by omega
 replace hb0 := btr hb0 hb10;replace hu2 := hu2.below hb10;replace hT := hT.below hb10;replace hB4 := hB4.below hb10;replace hB8 := hB8.below hb10;refine zm (hB10) rfl rfl rfl rfl sizeOf76 rfl rfl ?_;intro ws1x6 hchs1x6 hBs1x6;replace hb0 := bchg hb0 hchs1x6 hle10;replace hu2 := hu2.chg hchs1x6 ne_hu2_b10;replace hT := hT.chg hchs1x6 ne_hT_b10;replace hB4 := hB4.chg hchs1x6 ne_b4_10;replace hB8 := hB8.chg hchs1x6 ne_b8_10;clear hc19;clear hB10;refine zd ?_;refine zb ?_;refine zg ?_;have hz8 := hB8.lt; have hz10 := hBs1x6.lt;have hz4 := hB4.lt;refine W_anyG 24 [[], [0], [], [2], [1, 3], [4], [], [6], [], [8], [7, 9], [10], [], [12], [], [14], [13, 15], [16], [], [], [], [18, 5], [19, 11], [20, 17]] (List.replicate 3 (FrE ws1x6.heap.size 76 5)) (fun w9 => Below ws1x6.heap.size ws1x6 w9) [gdet [] ?a2_0n1, gdet [0] ?a2_1n1, gdet [] ?a2_2n1, gdet [2] ?a2_3n1, gdet [1, 3] ?a2_4n1, gdet [4] ?a2_5n1, gdet [] ?a2_6n1, gdet [6] ?a2_7n1, gdet [] ?a2_8n1, gdet [8] ?a2_9n1, gdet [7, 9] ?a2_10n1, gdet [10] ?a2_11n1, gdet [] ?a2_12n1, gdet [12] ?a2_13n1, gdet [] ?a2_14n1, gdet [14] ?a2_15n1, gdet [13, 15] ?a2_16n1, gdet [16] ?a2_17n1, gfrs [] (AllocL ws1x6.heap.size 76 5), gfrs [] (AllocL ws1x6.heap.size 76 5), gfrs [] (AllocL ws1x6.heap.size 76 5), gsv 0 [18, 5] (StR 76 (encO y)) StV, gsv 1 [19, 11] (StR 76 (encO z)) StV, gsv 2 [20, 17] (StR 76 (encO u)) StV] mixed (by kernel_rfl) (by kernel_rfl) rfl rfl (fr_ok rfl) (fr_stab (tg := [18, 19, 20]) rfl (by decide) ⟨.det, .det, .det, .det, .det, .det, .det, .det, .det, .det, .det, .det, .det, .det, .det, .det, .det, .det, .frs, .frs, .frs, .sv rfl rfl, .sv rfl rfl, .sv rfl rfl, trivial⟩) (Below.refl _ _) (fun h => h.drew) ?_ ?_; rotate_left 18
 ·refine zp ?_ ?_
  ·intro wq hq hzq
   refine zk ?_
   refine zN (zh z1 rfl) ?_; first | exact rfl | rfl
  refine zp ?_ ?_
  ·intro wq hq hzq
   refine zI rfl rfl rfl (zk ?_)
   refine zN (zi ((hB4.below hq)) isAgg23 rfl rfl) ?_; first | exact rfl | rfl
  refine zp ?_ ?_
  ·intro wq hq hzq
   refine zk ?_
   refine zN (zh qs rfl) ?_; first | exact rfl | rfl
  refine zp ?_ ?_
  ·intro wq hq hzq
   refine zI rfl rfl rfl (zk ?_)
   refine zN (zi ((hBs1x6.below hq)) isAgg3 rfl rfl) ?_; first | exact rfl | rfl
  refine zp ?_ ?_
  ·intro wq hq hzq
   refine zI rfl rfl rfl (zI rfl rfl rfl (zk ?_))
   refine zN (qt (hu2.below hq) zU23 sizeOf76 rfl rfl xa0 xa1) ?_; first | exact rfl | rfl
  refine zp ?_ ?_
  ·intro wq hq hzq
   refine zI rfl rfl rfl (zk ?_)
   refine zN (qg isAgg76 sizeOf76 rfl ((hu2.cells _ _ hyi).below hq) rfl) ?_; first | exact rfl | rfl
  refine zp ?_ ?_
  ·intro wq hq hzq
   refine zk ?_
   refine zN (zh z1 rfl) ?_; first | exact rfl | rfl
  refine zp ?_ ?_
  ·intro wq hq hzq
   refine zI rfl rfl rfl (zk ?_)
   refine zN (zi ((hB4.below hq)) isAgg23 rfl rfl) ?_; first | exact rfl | rfl
  refine zp ?_ ?_
  ·intro wq hq hzq
   refine zk ?_
   refine zN (zh qE rfl) ?_; first | exact rfl | rfl
  refine zp ?_ ?_
  ·intro wq hq hzq
   refine zI rfl rfl rfl (zk ?_)
   refine zN (zi ((hBs1x6.below hq)) isAgg3 rfl rfl) ?_; first | exact rfl | rfl
  refine zp ?_ ?_
  ·intro wq hq hzq
   refine zI rfl rfl rfl (zI rfl rfl rfl (zk ?_))
   refine zN (qt (hu2.below hq) zU23 sizeOf76 rfl rfl xb0 xb1) ?_; first | exact rfl | rfl
  refine zp ?_ ?_
  ·intro wq hq hzq
   refine zI rfl rfl rfl (zk ?_)
   refine zN (qg isAgg76 sizeOf76 rfl ((hu2.cells _ _ hzi).below hq) rfl) ?_; first | exact rfl | rfl
  refine zp ?_ ?_
  ·intro wq hq hzq
   refine zk ?_
   refine zN (zh z1 rfl) ?_; first | exact rfl | rfl
  refine zp ?_ ?_
  ·intro wq hq hzq
   refine zI rfl rfl rfl (zk ?_)
   refine zN (zi ((hB4.below hq)) isAgg23 rfl rfl) ?_; first | exact rfl | rfl
  refine zp ?_ ?_
  ·intro wq hq hzq
   refine zk ?_
   refine zN (zh q5 rfl) ?_; first | exact rfl | rfl
  refine zp ?_ ?_
  ·intro wq hq hzq
   refine zI rfl rfl rfl (zk ?_)
   refine zN (zi ((hBs1x6.below hq)) isAgg3 rfl rfl) ?_; first | exact rfl | rfl
  refine zp ?_ ?_
  ·intro wq hq hzq
   refine zI rfl rfl rfl (zI rfl rfl rfl (zk ?_))
   refine zN (qt (hu2.below hq) zU23 sizeOf76 rfl rfl xc0 xc1) ?_; first | exact rfl | rfl
  refine zp ?_ ?_
  ·intro wq hq hzq
   refine zI rfl rfl rfl (zk ?_)
   refine zN (qg isAgg76 sizeOf76 rfl ((hu2.cells _ _ hui).below hq) rfl) ?_; first | exact rfl | rfl
  refine zp ?_ ?_
  ·intro wq hq hzq
   refine zk ?_;exact GEx_allocL (ds := []) (v := undef) (cs := [.int .u8 0, .int .i64 0, .int .i64 0, .int .i64 0, .int .i64 0]) hzq (Ex_alloc zeroValue76 rfl)
  refine zp ?_ ?_
  ·intro wq hq hzq
   refine zk ?_;exact GEx_allocL (ds := []) (v := undef) (cs := [.int .u8 0, .int .i64 0, .int .i64 0, .int .i64 0, .int .i64 0]) hzq (Ex_alloc zeroValue76 rfl)
  refine zp ?_ ?_
  ·intro wq hq hzq
   refine zk ?_;exact GEx_allocL (ds := []) (v := undef) (cs := [.int .u8 0, .int .i64 0, .int .i64 0, .int .i64 0, .int .i64 0]) hzq (Ex_alloc zeroValue76 rfl)
  refine zp ?_ ?_
  ·intro wq hq hzq
   refine jm rfl rfl rfl ?_; intro v11 lo11 hi11 hle11 hR11;refine zI rfl rfl rfl (zk ?_);exact GEx_stF hR11 rfl rfl rfl rfl sizeOf76 rfl rfl rfl (by decide)
  refine zp ?_ ?_
  ·intro wq hq hzq
   refine jm rfl rfl rfl ?_; intro v12 lo12 hi12 hle12 hR12;refine zI rfl rfl rfl (zk ?_);exact GEx_stF hR12 rfl rfl rfl rfl sizeOf76 rfl rfl rfl (by decide)
  refine zp ?_ ?_
  ·intro wq hq hzq
   refine jm rfl rfl rfl ?_; intro v13 lo13 hi13 hle13 hR13;refine zI rfl rfl rfl (zk ?_);exact GEx_stF hR13 rfl rfl rfl rfl sizeOf76 rfl rfl rfl (by decide)
  exact qW
 ·intro wa2 hba2 hzz2
  refine zG rfl ?_;refine zG rfl ?_;refine zG rfl ?_;refine zG rfl ?_;refine zG rfl ?_;refine zG rfl ?_;refine zG rfl ?_;refine zG rfl ?_;refine zG rfl ?_;refine zG rfl ?_;refine zG rfl ?_;refine zG rfl ?_;refine zG rfl ?_;refine zG rfl ?_;refine zG rfl ?_;refine zG rfl ?_;refine zG rfl ?_;refine zG rfl ?_;refine je rfl ?_; intro v11 lo11 hi11 hR11 hlB11 hlh11 hhw11 hdj11;refine je rfl ?_; intro v12 lo12 hi12 hR12 hlB12 hlh12 hhw12 hdj12;refine je rfl ?_; intro v13 lo13 hi13 hR13 hlB13 hlh13 hhw13 hdj13;refine GFin_sv rfl ?_; intro hs2x21 _; simp only [List.nil_append, List.cons_append, List.map_cons, List.map_nil, List.getD_cons_succ, List.getD_cons_zero, List.getElem?_cons_succ, List.getElem?_cons_zero] at hs2x21;refine GFin_sv rfl ?_; intro hs2x22 _; simp only [List.nil_append, List.cons_append, List.map_cons, List.map_nil, List.getD_cons_succ, List.getD_cons_zero, List.getElem?_cons_succ, List.getElem?_cons_zero] at hs2x22;refine GFin_sv rfl ?_; intro hs2x23 _; simp only [List.nil_append, List.cons_append, List.map_cons, List.map_nil, List.getD_cons_succ, List.getD_cons_zero, List.getElem?_cons_succ, List.getElem?_cons_zero] at hs2x23;refine qZ ?_
  simp only [List.drop_succ_cons, List.drop_zero]
  replace hb0 := btr hb0 hba2;replace hu2 := hu2.below hba2;replace hT := hT.below hba2;replace hB4 := hB4.below hba2;replace hB8 := hB8.below hba2;replace hBs1x6 := hBs1x6.below hba2;have hB10 := hBs1x6;clear hBs1x6
  have ne_b10_8 : ¬ b10 = b8 := by omega
  obtain ⟨b11, rfl, hlo11, _, _, _⟩ := hR11;obtain ⟨c11, hv11, hB11⟩ := hs2x21;replace hv11 : Value.pointer (some ⟨b11, 0, none⟩) = .pointer (some ⟨c11, 0, none⟩) := hv11;cases hv11
  have ne_b11_8 : ¬ b11 = b8 := by omega
  obtain ⟨b12, rfl, hlo12, _, _, _⟩ := hR12;obtain ⟨c12, hv12, hB12⟩ := hs2x22;replace hv12 : Value.pointer (some ⟨b12, 0, none⟩) = .pointer (some ⟨c12, 0, none⟩) := hv12;cases hv12
  have ne_b12_8 : ¬ b12 = b8 := by omega
  obtain ⟨b13, rfl, hlo13, _, _, _⟩ := hR13;obtain ⟨c13, hv13, hB13⟩ := hs2x23;replace hv13 : Value.pointer (some ⟨b13, 0, none⟩) = .pointer (some ⟨c13, 0, none⟩) := hv13;cases hv13
  have ne_b13_8 : ¬ b13 = b8 := by omega
  refine zd ?_;refine zb ?_;refine zg ?_;refine za ?_;refine SQ (zh qc rfl) ?_;refine SQ (zi (hB10) isAgg5 rfl rfl) ?_;refine SQ (Rq_geq rfl rfl) ?_;refine SQ (zf rfl) ?_;refine qM (r := ?r42n2) 4 46 42 rfl ?_ ?_ ?_; rotate_left
  ·intro g42 K42
   have g42' := g42; try simp only [dd] at g42'
   have hm42 := Below.refl (wa2).heap.size wa2;refine zv 42 rfl rfl g42 (SQ (zh qc rfl) (zv 42 rfl rfl g42 (SQ (zi (hB10) isAgg5 rfl rfl) (zv 42 rfl rfl g42 (SQ (js rfl rfl) (SQ (zA rfl (fun _ => rfl) (fun h => absurd (g42.symm.trans h) (by decide))) ?_))))));exact K42 _ _ hm42 (by repeat (first | exact Sub.refl | refine Sub.shadow ?_ | refine Sub.same ?_ | refine Sub.push rfl ?_))
  ·intro g42 K42
   have g42' := g42; try simp only [dd] at g42'
   have hm42 := Below.refl (wa2).heap.size wa2;refine zB 42 rfl rfl g42 rfl (zB 42 rfl rfl g42 rfl (zB 42 rfl rfl g42 rfl (SQ (zA rfl (fun h => absurd (g42.symm.trans h) (by decide)) (fun _ => rfl)) ?_)));exact K42 _ _ hm42 (by repeat (first | exact Sub.refl | refine Sub.shadow ?_ | refine Sub.same ?_ | refine Sub.push rfl ?_))
  intro wm42 hbm42;replace hb0 := btr hb0 hbm42;replace hB4 := hB4.below hbm42;replace hB8 := hB8.below hbm42;replace hB10 := hB10.below hbm42;replace hB11 := hB11.below hbm42;replace hB12 := hB12.below hbm42;replace hB13 := hB13.below hbm42;replace hu2 := hu2.below hbm42;replace hT := hT.below hbm42
  simp only [List.drop_succ_cons, List.drop_zero]
  refine SQ (ze rfl) (zd (zb (zg (zg (za (SQ (zf rfl) (zd (zb (zL (zg (za (SQ (zO rfl rfl) (SQ (ze rfl) (zd (zb ?_)))))))))))))));refine zw rfl ?_ ?_
  ·intro g48
   try simp only [dd] at g48
   refine zg ?_;refine za ?_;refine SQ (zh qc rfl) ?_;refine SQ (zi (hB10) isAgg5 rfl rfl) ?_;refine SQ (Rq_geq rfl rfl) ?_;refine SQ (zf rfl) ?_;refine qM (r := ?r53n3) 4 57 53 rfl ?_ ?_ ?_; rotate_left
   ·intro g53 K53
    have g53' := g53; try simp only [dd] at g53'
    have hm53 := Below.refl (wm42).heap.size wm42;refine zv 53 rfl rfl g53 (SQ (zh qc rfl) (zv 53 rfl rfl g53 (SQ (zi (hB10) isAgg5 rfl rfl) (zv 53 rfl rfl g53 (SQ (js rfl rfl) (SQ (zA rfl (fun _ => rfl) (fun h => absurd (g53.symm.trans h) (by decide))) ?_))))));exact K53 _ _ hm53 (by repeat (first | exact Sub.refl | refine Sub.shadow ?_ | refine Sub.same ?_ | refine Sub.push rfl ?_))
   ·intro g53 K53
    have g53' := g53; try simp only [dd] at g53'
    have hm53 := Below.refl (wm42).heap.size wm42;refine zB 53 rfl rfl g53 rfl (zB 53 rfl rfl g53 rfl (zB 53 rfl rfl g53 rfl (SQ (zA rfl (fun h => absurd (g53.symm.trans h) (by decide)) (fun _ => rfl)) ?_)));exact K53 _ _ hm53 (by repeat (first | exact Sub.refl | refine Sub.shadow ?_ | refine Sub.same ?_ | refine Sub.push rfl ?_))
   intro wm53 hbm53;replace hb0 := btr hb0 hbm53;replace hB4 := hB4.below hbm53;replace hB8 := hB8.below hbm53;replace hB10 := hB10.below hbm53;replace hu2 := hu2.below hbm53
   simp only [List.drop_succ_cons, List.drop_zero]
   refine zd (zb ?_);refine zw rfl ?_ ?_
   ·intro g57
    try simp only [dd] at g57
    refine zg (za ?_)
    first | refine SQ (zC (hB4) isAgg26 sizeOf26 rfl rfl) ?_ | refine SQ (zD (hB4) isAgg26 sizeOf26 rfl rfl rfl) ?_
    first | refine SQ (zC (hB10) isAgg76 sizeOf76 rfl rfl) ?_ | refine SQ (zD (hB10) isAgg76 sizeOf76 rfl rfl rfl) ?_
    refine zF rfl call64 rfl (f64_c (⟨⟨_, _, _, rfl, hu1.below hb0, (hu2), hu3.below hb0⟩⟩ : CoS _ _ C) hck h0 h1 hx (by omega) (by omega)) ?_;intro w60 hb60;replace hb0 := btr hb0 hb60;replace hB8 := hB8.below hb60;refine SQ (zK rfl rfl) ?_;refine SQ (zK rfl rfl) ?_;refine zm (hB8) rfl rfl rfl rfl sizeOf95 rfl rfl ?_;intro ws7x5 hchs7x5 hBs7x5;replace hb0 := bchg hb0 hchs7x5 hle8;clear hB8;refine SQ (ze rfl) ?_;refine zd ?_;refine zb ?_;refine zu ?_;refine zt ?_;refine zl ?_;refine qa rfl rfl (.cellW rfl (hBs7x5) isAgg95 sizeOf95 rfl) (.tmp rfl) ?_;exact ⟨by rw [tryX, if_pos (by omega), if_pos (by omega)]; rfl, hb0⟩
   ·intro g57
    try simp only [dd] at g57
    refine zH ?_;refine zQ ?_;refine zb ?_;refine zg ?_;refine za ?_;refine SQ (qj build95_) ?_;refine zm (hB8) rfl rfl rfl rfl sizeOf95 rfl rfl ?_;intro ws40x1 hchs40x1 hBs40x1;replace hb0 := bchg hb0 hchs40x1 hle8;clear hB8;refine SQ (ze rfl) ?_;refine zd ?_;refine zb ?_;refine zu ?_;refine qa rfl rfl (.cellW rfl (hBs40x1) isAgg95 sizeOf95 rfl) (.tmp rfl) ?_;exact ⟨by rw [tryX, if_pos (by omega), if_neg (by omega)]; rfl, hb0⟩
  ·intro g48
   try simp only [dd] at g48
   refine zg (za (SQ (zO rfl rfl) (SQ (ze rfl) (zd (zb ?_)))));refine zw rfl ?_ ?_
   ·intro g63
    try simp only [dd] at g63
    refine zg ?_;refine jW 15 [[], [0], [1], [], [3], [], [5], [6], [4, 7], [8], [], [10], [11], [9, 12], [2]] [StBE b8 95 6] (BsB b8 95 6 wm42) [gdet [] ?a9_0n4, gdet [0] ?a9_1n4, gdet [1] ?a9_2n4, gdet [] ?a9_3n4, gop true [3] (.bool (twoB x)), gop (true && ((twoB x) == false)) [] ?a9_5n4, gop (true && ((twoB x) == false)) [5] ?a9_6n4, gop (true && ((twoB x) == false)) [6] ?a9_7n4, gdet [4, 7] ?a9_8n4, gop true [8] (.bool ((twoB x || decide (x.code = 17)))), gop (true && (((twoB x || decide (x.code = 17))) == true)) [] ?a9_10n4, gop (true && (((twoB x || decide (x.code = 17))) == true)) [10] ?a9_11n4, gop (true && (((twoB x || decide (x.code = 17))) == true)) [11] ?a9_12n4, gdet [9, 12] ?a9_13n4, gst 0 [2] (fun _ w => Blk w b8 (encD ⟨true, x.a, o0⟩) 95)] mixed (by kernel_rfl) rfl ⟨.inl ⟨rfl, rfl⟩, .inl ⟨rfl, rfl⟩, .inl ⟨rfl, rfl⟩, .inl ⟨rfl, rfl⟩, .inl ⟨rfl, rfl⟩, .inr ⟨4, false, (twoB x), true, _, _, _, 69, rfl, rfl, rfl, rfl, by kernel_rfl⟩, .inr ⟨4, false, (twoB x), true, _, _, _, 69, rfl, rfl, rfl, rfl, by kernel_rfl⟩, .inr ⟨4, false, (twoB x), true, _, _, _, 69, rfl, rfl, rfl, rfl, by kernel_rfl⟩, .inl ⟨rfl, rfl⟩, .inl ⟨rfl, rfl⟩, .inr ⟨9, true, ((twoB x || decide (x.code = 17))), true, _, _, _, 74, rfl, rfl, rfl, rfl, by kernel_rfl⟩, .inr ⟨9, true, ((twoB x || decide (x.code = 17))), true, _, _, _, 74, rfl, rfl, rfl, rfl, by kernel_rfl⟩, .inr ⟨9, true, ((twoB x || decide (x.code = 17))), true, _, _, _, 74, rfl, rfl, rfl, rfl, by kernel_rfl⟩, .inl ⟨rfl, rfl⟩, .inl ⟨rfl, rfl⟩, trivial⟩ (stB_ok) (GStab.of rfl ?_) (BsB.of hB8 rfl) (fun h => h.drew) ?_ ?_; rotate_left 12
    ·skip
     refine zJ ?_;refine zJ ?_;refine zJ ?_;refine zJ ?_;refine zU ?_;refine zU ?_;refine zU ?_;refine zU ?_;refine zJ ?_;refine zU ?_;refine zU ?_;refine zU ?_;refine zU ?_;refine zJ ?_;refine jn jI ?_;exact q4
    ·refine zp ?_ ?_
     ·intro wq hq hzq
      refine zk ?_
      refine zN (zh qs rfl) ?_; first | exact rfl | rfl
     refine zp ?_ ?_
     ·intro wq hq hzq
      refine zI rfl rfl rfl (zk ?_)
      refine zN (zi ((hB10.chg hq.1 ne_b10_8)) isAgg3 rfl rfl) ?_; first | exact rfl | rfl
     refine zp ?_ ?_
     ·intro wq hq hzq
      refine zI rfl rfl rfl (zk ?_)
      refine zN (qK jf rfl rfl ) ?_; first | exact rfl | rfl
     refine zp ?_ ?_
     ·intro wq hq hzq
      refine zk ?_
      refine zN (zf rfl) ?_; first | exact rfl | rfl
     refine zp ?_ ?_
     ·intro wq hq hzq
      refine zI rfl rfl rfl (zk ?_)
      refine z3 (zf rfl) rfl ?_; first | exact rfl | rfl
     refine zY ?_ ?_
     ·intro hon wq hq hzq
      replace hon : (true && ((twoB x) == false)) = true := hon;refine zk ?_
      refine z3 (zh qc rfl) hon ?_; first | exact rfl | rfl
     refine zY ?_ ?_
     ·intro hon wq hq hzq
      replace hon : (true && ((twoB x) == false)) = true := hon;refine z6 rfl rfl rfl hon ?_; intro _;refine zk ?_
      refine z3 (zi ((hB10.chg hq.1 ne_b10_8)) isAgg5 rfl rfl) hon ?_; first | exact rfl | rfl
     refine zY ?_ ?_
     ·intro hon wq hq hzq
      replace hon : (true && ((twoB x) == false)) = true := hon;refine z6 rfl rfl rfl hon ?_; intro _;refine zk ?_
      refine z3 (zO rfl rfl) hon ?_; first | exact rfl | rfl
     refine zp ?_ ?_
     ·intro wq hq hzq
      refine z6 rfl rfl rfl rfl ?_; intro _;refine qT rfl rfl rfl ?_; intro _;refine zk ?_
      refine zN (Rq_or rfl rfl (fun h => jv rfl h)) ?_; first | exact rfl | rfl
     refine zp ?_ ?_
     ·intro wq hq hzq
      refine zI rfl rfl rfl (zk ?_)
      refine z3 (zf rfl) rfl ?_; first | exact rfl | rfl
     refine zY ?_ ?_
     ·intro hon wq hq hzq
      replace hon : (true && (((twoB x || decide (x.code = 17))) == true)) = true := hon;refine zk ?_
      refine z3 (zh qc rfl) hon ?_; first | exact rfl | rfl
     refine zY ?_ ?_
     ·intro hon wq hq hzq
      replace hon : (true && (((twoB x || decide (x.code = 17))) == true)) = true := hon;refine z6 rfl rfl rfl hon ?_; intro _;refine zk ?_
      refine z3 (zi ((hB11.chg hq.1 ne_b11_8)) isAgg5 rfl rfl) hon ?_; first | exact rfl | rfl
     refine zY ?_ ?_
     ·intro hon wq hq hzq
      replace hon : (true && (((twoB x || decide (x.code = 17))) == true)) = true := hon;refine z6 rfl rfl rfl hon ?_; intro _;refine zk ?_
      refine z3 (zO rfl rfl) hon ?_; first | exact rfl | rfl
     refine zp ?_ ?_
     ·intro wq hq hzq
      refine z6 rfl rfl rfl rfl ?_; intro _;refine qT rfl rfl rfl ?_; intro _;refine zk ?_
      refine zN (jy rfl rfl (fun h => jv rfl h)) ?_; first | exact rfl | rfl
     refine zp ?_ ?_
     ·intro wq hq hzq
      refine zI rfl rfl rfl (zk ?_);exact jZ hq.2 rfl rfl rfl rfl sizeOf95 rfl rfl
     exact qW
    ·intro wa9 hba9 hzz9
     refine zG rfl (zG rfl (zG rfl (zG rfl (zW rfl ?_)))); intro _;refine zW rfl ?_; intro _;refine zW rfl ?_; intro _;refine zW rfl ?_; intro _;refine zG rfl (zW rfl ?_); intro _;refine zW rfl ?_; intro _;refine zW rfl ?_; intro _;refine zW rfl ?_; intro _;refine zG rfl (jC rfl ?_); intro hs9x14 _; replace hs9x14 := id hs9x14;refine qZ ?_
     simp only [List.drop_succ_cons, List.drop_zero]
     replace hb0 := bchg hb0 hba9.1 hle8;refine SQ (ze rfl) ?_;refine zd ?_;refine zb ?_;refine zu ?_;refine zt ?_;refine zl ?_;refine qa rfl rfl (.cellW rfl (hs9x14) isAgg95 sizeOf95 rfl) (.tmp rfl) ?_;exact ⟨by rw [tryX, if_neg (by omega), if_pos (by omega)]; rfl, hb0⟩
   ·intro g63
    try simp only [dd] at g63
    refine zg (za (SQ (zO rfl rfl) (SQ (ze rfl) (zd (zb ?_)))));refine zw rfl ?_ ?_
    ·intro g79
     try simp only [dd] at g79
     refine zg ?_;refine zg ?_;refine za ?_;refine SQ (zh qc rfl) ?_;refine SQ (zi (hB10) isAgg5 rfl rfl) ?_;refine SQ (zO rfl rfl) ?_;refine SQ (zf rfl) ?_;refine qM (r := ?r84n5) 3 87 84 rfl ?_ ?_ ?_; rotate_left
     ·intro g84 K84
      have g84' := g84; try simp only [dd] at g84'
      have hm84 := Below.refl (wm42).heap.size wm42;refine zv 84 rfl rfl g84 ?_
      first | refine SQ (zC (hB11) isAgg76 sizeOf76 rfl rfl) ?_ | refine SQ (zD (hB11) isAgg76 sizeOf76 rfl rfl rfl) ?_
      refine zv 84 rfl rfl g84 (zF rfl call65 rfl (f65_c _ _ _) ?_);intro w86 hb86;replace hb0 := btr hb0 hb86;replace hm84 := btr hm84 hb86;refine SQ (zA rfl (fun _ => rfl) (fun h => absurd (g84.symm.trans h) (by decide))) ?_;exact K84 _ _ hm84 (by repeat (first | exact Sub.refl | refine Sub.shadow ?_ | refine Sub.same ?_ | refine Sub.push rfl ?_))
     ·intro g84 K84
      have g84' := g84; try simp only [dd] at g84'
      have hm84 := Below.refl (wm42).heap.size wm42;refine zB 84 rfl rfl g84 rfl (zB 84 rfl rfl g84 rfl (SQ (zA rfl (fun h => absurd (g84.symm.trans h) (by decide)) (fun _ => rfl)) ?_));exact K84 _ _ hm84 (by repeat (first | exact Sub.refl | refine Sub.shadow ?_ | refine Sub.same ?_ | refine Sub.push rfl ?_))
     intro wm84 hbm84;replace hb0 := btr hb0 hbm84;replace hB8 := hB8.below hbm84;replace hB10 := hB10.below hbm84;replace hB11 := hB11.below hbm84
     simp only [List.drop_succ_cons, List.drop_zero]
     refine zd (zb ?_);refine zw rfl ?_ ?_
     ·intro g87
      try simp only [dd] at g87
      refine zg ?_;refine za ?_;refine SQ (zh q5 rfl) ?_;refine SQ (zi (hB10) isAgg3 rfl rfl) ?_;refine SQ (qK jf rfl rfl ) ?_;refine zm (hB8) rfl rfl rfl rfl sizeOf95 rfl rfl ?_;intro ws12x3 hchs12x3 hBs12x3;replace hb0 := bchg hb0 hchs12x3 hle8;clear hB8;refine SQ (ze rfl) ?_;refine zd ?_;refine zb ?_;refine zu ?_;refine zl ?_;refine zt ?_;refine zl ?_;refine qa rfl rfl (.cellW rfl (hBs12x3) isAgg95 sizeOf95 rfl) (.tmp rfl) ?_;exact ⟨by rw [tryX, if_neg (by omega), if_neg (by omega), if_pos (by omega), if_pos g87]; rfl, hb0⟩
     ·intro g87
      try simp only [dd] at g87
      refine zH ?_;refine zb ?_;refine zg ?_;refine jW 12 [[], [0], [1], [], [3], [4], [5], [], [7], [8], [6, 9], [2]] [StBE b8 95 6] (BsB b8 95 6 wm84) [gdet [] ?a13_0n6, gdet [0] ?a13_1n6, gdet [1] ?a13_2n6, gdet [] ?a13_3n6, gdet [3] ?a13_4n6, gdet [4] ?a13_5n6, gop true [5] (.bool (decide (x.code = 17))), gop (true && ((decide (x.code = 17)) == true)) [] ?a13_7n6, gop (true && ((decide (x.code = 17)) == true)) [7] ?a13_8n6, gop (true && ((decide (x.code = 17)) == true)) [8] ?a13_9n6, gdet [6, 9] ?a13_10n6, gst 0 [2] (fun _ w => Blk w b8 (encD ⟨true, x.b, o0⟩) 95)] mixed (by kernel_rfl) rfl ⟨.inl ⟨rfl, rfl⟩, .inl ⟨rfl, rfl⟩, .inl ⟨rfl, rfl⟩, .inl ⟨rfl, rfl⟩, .inl ⟨rfl, rfl⟩, .inl ⟨rfl, rfl⟩, .inl ⟨rfl, rfl⟩, .inr ⟨6, true, (decide (x.code = 17)), true, _, _, _, 97, rfl, rfl, rfl, rfl, by kernel_rfl⟩, .inr ⟨6, true, (decide (x.code = 17)), true, _, _, _, 97, rfl, rfl, rfl, rfl, by kernel_rfl⟩, .inr ⟨6, true, (decide (x.code = 17)), true, _, _, _, 97, rfl, rfl, rfl, rfl, by kernel_rfl⟩, .inl ⟨rfl, rfl⟩, .inl ⟨rfl, rfl⟩, trivial⟩ (stB_ok) (GStab.of rfl ?_) (BsB.of hB8 rfl) (fun h => h.drew) ?_ ?_; rotate_left 10
      ·skip
       refine zJ ?_;refine zJ ?_;refine zJ ?_;refine zJ ?_;refine zJ ?_;refine zJ ?_;refine zU ?_;refine zU ?_;refine zU ?_;refine zU ?_;refine zJ ?_;refine jn jI ?_;exact q4
      ·refine zp ?_ ?_
       ·intro wq hq hzq
        refine zk ?_
        refine zN (zh qE rfl) ?_; first | exact rfl | rfl
       refine zp ?_ ?_
       ·intro wq hq hzq
        refine zI rfl rfl rfl (zk ?_)
        refine zN (zi ((hB10.chg hq.1 ne_b10_8)) isAgg3 rfl rfl) ?_; first | exact rfl | rfl
       refine zp ?_ ?_
       ·intro wq hq hzq
        refine zI rfl rfl rfl (zk ?_)
        refine zN (qK jf rfl rfl ) ?_; first | exact rfl | rfl
       refine zp ?_ ?_
       ·intro wq hq hzq
        refine zk ?_
        refine zN (zh qc rfl) ?_; first | exact rfl | rfl
       refine zp ?_ ?_
       ·intro wq hq hzq
        refine zI rfl rfl rfl (zk ?_)
        refine zN (zi ((hB10.chg hq.1 ne_b10_8)) isAgg5 rfl rfl) ?_; first | exact rfl | rfl
       refine zp ?_ ?_
       ·intro wq hq hzq
        refine zI rfl rfl rfl (zk ?_)
        refine zN (zO rfl rfl) ?_; first | exact rfl | rfl
       refine zp ?_ ?_
       ·intro wq hq hzq
        refine zI rfl rfl rfl (zk ?_)
        refine z3 (zf rfl) rfl ?_; first | exact rfl | rfl
       refine zY ?_ ?_
       ·intro hon wq hq hzq
        replace hon : (true && ((decide (x.code = 17)) == true)) = true := hon;refine zk ?_
        refine z3 (zh qc rfl) hon ?_; first | exact rfl | rfl
       refine zY ?_ ?_
       ·intro hon wq hq hzq
        replace hon : (true && ((decide (x.code = 17)) == true)) = true := hon;refine z6 rfl rfl rfl hon ?_; intro _;refine zk ?_
        refine z3 (zi ((hB11.chg hq.1 ne_b11_8)) isAgg5 rfl rfl) hon ?_; first | exact rfl | rfl
       refine zY ?_ ?_
       ·intro hon wq hq hzq
        replace hon : (true && ((decide (x.code = 17)) == true)) = true := hon;refine z6 rfl rfl rfl hon ?_; intro _;refine zk ?_
        refine z3 (zO rfl rfl) hon ?_; first | exact rfl | rfl
       refine zp ?_ ?_
       ·intro wq hq hzq
        refine z6 rfl rfl rfl rfl ?_; intro _;refine qT rfl rfl rfl ?_; intro _;refine zk ?_
        refine zN (jy rfl rfl (fun h => jv rfl h)) ?_; first | exact rfl | rfl
       refine zp ?_ ?_
       ·intro wq hq hzq
        refine zI rfl rfl rfl (zk ?_);exact jZ hq.2 rfl rfl rfl rfl sizeOf95 rfl rfl
       exact qW
      ·intro wa13 hba13 hzz13
       refine zG rfl (zG rfl (zG rfl (zG rfl (zG rfl (zG rfl (zW rfl ?_)))))); intro _;refine zW rfl ?_; intro _;refine zW rfl ?_; intro _;refine zW rfl ?_; intro _;refine zG rfl (jC rfl ?_); intro hs13x11 _; replace hs13x11 := id hs13x11;refine qZ ?_
       simp only [List.drop_succ_cons, List.drop_zero]
       replace hb0 := bchg hb0 hba13.1 hle8;refine SQ (ze rfl) ?_;refine zd ?_;refine zb ?_;refine zu ?_;refine zt ?_;refine zl ?_;refine qa rfl rfl (.cellW rfl (hs13x11) isAgg95 sizeOf95 rfl) (.tmp rfl) ?_;exact ⟨by rw [tryX, if_neg (by omega), if_neg (by omega), if_pos (by omega), if_neg (fun h => by have h9 := g87 h.1; rw [h.2] at h9; cases h9)]; rfl, hb0⟩
    ·intro g79
     try simp only [dd] at g79
     refine zg (za (SQ (zO rfl rfl) (SQ (ze rfl) (zd (zb ?_)))));refine zw rfl ?_ ?_
     ·intro g102
      try simp only [dd] at g102
      refine zg ?_;refine zg ?_;refine za ?_;refine SQ (zh qc rfl) ?_;refine SQ (zi (hB10) isAgg5 rfl rfl) ?_;refine SQ (zO rfl rfl) ?_;refine SQ (zf rfl) ?_;refine qM (r := ?r107n7) 3 110 107 rfl ?_ ?_ ?_; rotate_left
      ·intro g107 K107
       have g107' := g107; try simp only [dd] at g107'
       have hm107 := Below.refl (wm42).heap.size wm42;refine zv 107 rfl rfl g107 ?_
       first | refine SQ (zC (hB11) isAgg76 sizeOf76 rfl rfl) ?_ | refine SQ (zD (hB11) isAgg76 sizeOf76 rfl rfl rfl) ?_
       refine zv 107 rfl rfl g107 (zF rfl call65 rfl (f65_c _ _ _) ?_);intro w109 hb109;replace hb0 := btr hb0 hb109;replace hm107 := btr hm107 hb109;refine SQ (zA rfl (fun _ => rfl) (fun h => absurd (g107.symm.trans h) (by decide))) ?_;exact K107 _ _ hm107 (by repeat (first | exact Sub.refl | refine Sub.shadow ?_ | refine Sub.same ?_ | refine Sub.push rfl ?_))
      ·intro g107 K107
       have g107' := g107; try simp only [dd] at g107'
       have hm107 := Below.refl (wm42).heap.size wm42;refine zB 107 rfl rfl g107 rfl (zB 107 rfl rfl g107 rfl (SQ (zA rfl (fun h => absurd (g107.symm.trans h) (by decide)) (fun _ => rfl)) ?_));exact K107 _ _ hm107 (by repeat (first | exact Sub.refl | refine Sub.shadow ?_ | refine Sub.same ?_ | refine Sub.push rfl ?_))
      intro wm107 hbm107;replace hb0 := btr hb0 hbm107;replace hB8 := hB8.below hbm107;replace hB10 := hB10.below hbm107;replace hB11 := hB11.below hbm107
      simp only [List.drop_succ_cons, List.drop_zero]
      refine zd (zb ?_);refine zw rfl ?_ ?_
      ·intro g110
       try simp only [dd] at g110
       refine zg ?_;refine za ?_;refine SQ (zh qs rfl) ?_;refine SQ (zi (hB10) isAgg3 rfl rfl) ?_;refine SQ (qK jf rfl rfl ) ?_;refine zm (hB8) rfl rfl rfl rfl sizeOf95 rfl rfl ?_;intro ws16x3 hchs16x3 hBs16x3;replace hb0 := bchg hb0 hchs16x3 hle8;clear hB8;refine SQ (ze rfl) ?_;refine zd ?_;refine zb ?_;refine zu ?_;refine zl ?_;refine zt ?_;refine zl ?_;refine qa rfl rfl (.cellW rfl (hBs16x3) isAgg95 sizeOf95 rfl) (.tmp rfl) ?_;exact ⟨by rw [tryX, if_neg (by omega), if_neg (by omega), if_neg (by omega), if_pos (by omega), if_pos g110]; rfl, hb0⟩
      ·intro g110
       try simp only [dd] at g110
       refine zH ?_;refine zb ?_;refine zg ?_;refine jW 12 [[], [0], [1], [], [3], [4], [5], [], [7], [8], [6, 9], [2]] [StBE b8 95 6] (BsB b8 95 6 wm107) [gdet [] ?a17_0n8, gdet [0] ?a17_1n8, gdet [1] ?a17_2n8, gdet [] ?a17_3n8, gdet [3] ?a17_4n8, gdet [4] ?a17_5n8, gop true [5] (.bool (decide (x.code = 15))), gop (true && ((decide (x.code = 15)) == true)) [] ?a17_7n8, gop (true && ((decide (x.code = 15)) == true)) [7] ?a17_8n8, gop (true && ((decide (x.code = 15)) == true)) [8] ?a17_9n8, gdet [6, 9] ?a17_10n8, gst 0 [2] (fun _ w => Blk w b8 (encD ⟨true, x.b, o0⟩) 95)] mixed (by kernel_rfl) rfl ⟨.inl ⟨rfl, rfl⟩, .inl ⟨rfl, rfl⟩, .inl ⟨rfl, rfl⟩, .inl ⟨rfl, rfl⟩, .inl ⟨rfl, rfl⟩, .inl ⟨rfl, rfl⟩, .inl ⟨rfl, rfl⟩, .inr ⟨6, true, (decide (x.code = 15)), true, _, _, _, 120, rfl, rfl, rfl, rfl, by kernel_rfl⟩, .inr ⟨6, true, (decide (x.code = 15)), true, _, _, _, 120, rfl, rfl, rfl, rfl, by kernel_rfl⟩, .inr ⟨6, true, (decide (x.code = 15)), true, _, _, _, 120, rfl, rfl, rfl, rfl, by kernel_rfl⟩, .inl ⟨rfl, rfl⟩, .inl ⟨rfl, rfl⟩, trivial⟩ (stB_ok) (GStab.of rfl ?_) (BsB.of hB8 rfl) (fun h => h.drew) ?_ ?_; rotate_left 10
       ·skip
        refine zJ ?_;refine zJ ?_;refine zJ ?_;refine zJ ?_;refine zJ ?_;refine zJ ?_;refine zU ?_;refine zU ?_;refine zU ?_;refine zU ?_;refine zJ ?_;refine jn jI ?_;exact q4
       ·refine zp ?_ ?_
        ·intro wq hq hzq
         refine zk ?_
         refine zN (zh qE rfl) ?_; first | exact rfl | rfl
        refine zp ?_ ?_
        ·intro wq hq hzq
         refine zI rfl rfl rfl (zk ?_)
         refine zN (zi ((hB10.chg hq.1 ne_b10_8)) isAgg3 rfl rfl) ?_; first | exact rfl | rfl
        refine zp ?_ ?_
        ·intro wq hq hzq
         refine zI rfl rfl rfl (zk ?_)
         refine zN (qK jf rfl rfl ) ?_; first | exact rfl | rfl
        refine zp ?_ ?_
        ·intro wq hq hzq
         refine zk ?_
         refine zN (zh qc rfl) ?_; first | exact rfl | rfl
        refine zp ?_ ?_
        ·intro wq hq hzq
         refine zI rfl rfl rfl (zk ?_)
         refine zN (zi ((hB10.chg hq.1 ne_b10_8)) isAgg5 rfl rfl) ?_; first | exact rfl | rfl
        refine zp ?_ ?_
        ·intro wq hq hzq
         refine zI rfl rfl rfl (zk ?_)
         refine zN (zO rfl rfl) ?_; first | exact rfl | rfl
        refine zp ?_ ?_
        ·intro wq hq hzq
         refine zI rfl rfl rfl (zk ?_)
         refine z3 (zf rfl) rfl ?_; first | exact rfl | rfl
        refine zY ?_ ?_
        ·intro hon wq hq hzq
         replace hon : (true && ((decide (x.code = 15)) == true)) = true := hon;refine zk ?_
         refine z3 (zh qc rfl) hon ?_; first | exact rfl | rfl
        refine zY ?_ ?_
        ·intro hon wq hq hzq
         replace hon : (true && ((decide (x.code = 15)) == true)) = true := hon;refine z6 rfl rfl rfl hon ?_; intro _;refine zk ?_
         refine z3 (zi ((hB11.chg hq.1 ne_b11_8)) isAgg5 rfl rfl) hon ?_; first | exact rfl | rfl
        refine zY ?_ ?_
        ·intro hon wq hq hzq
         replace hon : (true && ((decide (x.code = 15)) == true)) = true := hon;refine z6 rfl rfl rfl hon ?_; intro _;refine zk ?_
         refine z3 (zO rfl rfl) hon ?_; first | exact rfl | rfl
        refine zp ?_ ?_
        ·intro wq hq hzq
         refine z6 rfl rfl rfl rfl ?_; intro _;refine qT rfl rfl rfl ?_; intro _;refine zk ?_
         refine zN (jy rfl rfl (fun h => jv rfl h)) ?_; first | exact rfl | rfl
        refine zp ?_ ?_
        ·intro wq hq hzq
         refine zI rfl rfl rfl (zk ?_);exact jZ hq.2 rfl rfl rfl rfl sizeOf95 rfl rfl
        exact qW
       ·intro wa17 hba17 hzz17
        refine zG rfl (zG rfl (zG rfl (zG rfl (zG rfl (zG rfl (zW rfl ?_)))))); intro _;refine zW rfl ?_; intro _;refine zW rfl ?_; intro _;refine zW rfl ?_; intro _;refine zG rfl (jC rfl ?_); intro hs17x11 _; replace hs17x11 := id hs17x11;refine qZ ?_
        simp only [List.drop_succ_cons, List.drop_zero]
        replace hb0 := bchg hb0 hba17.1 hle8;refine SQ (ze rfl) ?_;refine zd ?_;refine zb ?_;refine zu ?_;refine zt ?_;refine zl ?_;refine qa rfl rfl (.cellW rfl (hs17x11) isAgg95 sizeOf95 rfl) (.tmp rfl) ?_;exact ⟨by rw [tryX, if_neg (by omega), if_neg (by omega), if_neg (by omega), if_pos (by omega), if_neg (fun h => by have h9 := g110 h.1; rw [h.2] at h9; cases h9)]; rfl, hb0⟩
     ·intro g102
      try simp only [dd] at g102
      refine zg (za (SQ (zO rfl rfl) (SQ (ze rfl) (zd (zb ?_)))));refine zw rfl ?_ ?_
      ·intro g125
       try simp only [dd] at g125
       refine zg ?_;refine zg ?_;refine za ?_;refine SQ (zh qc rfl) ?_;refine SQ (zi (hB10) isAgg5 rfl rfl) ?_;refine SQ (zO rfl rfl) ?_;refine SQ (zf rfl) ?_;refine qM (r := ?r130n9) 3 133 130 rfl ?_ ?_ ?_; rotate_left
       ·intro g130 K130
        have g130' := g130; try simp only [dd] at g130'
        have hm130 := Below.refl (wm42).heap.size wm42;refine zv 130 rfl rfl g130 ?_
        first | refine SQ (zC (hB11) isAgg76 sizeOf76 rfl rfl) ?_ | refine SQ (zD (hB11) isAgg76 sizeOf76 rfl rfl rfl) ?_
        refine zv 130 rfl rfl g130 (zF rfl call65 rfl (f65_c _ _ _) ?_);intro w132 hb132;replace hb0 := btr hb0 hb132;replace hm130 := btr hm130 hb132;refine SQ (zA rfl (fun _ => rfl) (fun h => absurd (g130.symm.trans h) (by decide))) ?_;exact K130 _ _ hm130 (by repeat (first | exact Sub.refl | refine Sub.shadow ?_ | refine Sub.same ?_ | refine Sub.push rfl ?_))
       ·intro g130 K130
        have g130' := g130; try simp only [dd] at g130'
        have hm130 := Below.refl (wm42).heap.size wm42;refine zB 130 rfl rfl g130 rfl (zB 130 rfl rfl g130 rfl (SQ (zA rfl (fun h => absurd (g130.symm.trans h) (by decide)) (fun _ => rfl)) ?_));exact K130 _ _ hm130 (by repeat (first | exact Sub.refl | refine Sub.shadow ?_ | refine Sub.same ?_ | refine Sub.push rfl ?_))
       intro wm130 hbm130;replace hb0 := btr hb0 hbm130;replace hB8 := hB8.below hbm130;replace hB10 := hB10.below hbm130;replace hB11 := hB11.below hbm130
       simp only [List.drop_succ_cons, List.drop_zero]
       refine zd (zb ?_);refine zw rfl ?_ ?_
       ·intro g133
        try simp only [dd] at g133
        refine zg ?_;refine za ?_;refine SQ (zh qE rfl) ?_;refine SQ (zi (hB10) isAgg3 rfl rfl) ?_;refine SQ (qK jf rfl rfl ) ?_;refine zm (hB8) rfl rfl rfl rfl sizeOf95 rfl rfl ?_;intro ws20x3 hchs20x3 hBs20x3;replace hb0 := bchg hb0 hchs20x3 hle8;clear hB8;refine SQ (ze rfl) ?_;refine zd ?_;refine zb ?_;refine zu ?_;refine zl ?_;refine zt ?_;refine zl ?_;refine qa rfl rfl (.cellW rfl (hBs20x3) isAgg95 sizeOf95 rfl) (.tmp rfl) ?_;exact ⟨by rw [tryX, if_neg (by omega), if_neg (by omega), if_neg (by omega), if_neg (by omega), if_pos (by omega), if_pos g133]; rfl, hb0⟩
       ·intro g133
        try simp only [dd] at g133
        refine zH ?_;refine zb ?_;refine zg ?_;refine jW 11 [[], [0], [], [2], [3], [4], [], [6], [7], [5, 8], [1]] [StBE b8 95 6] (BsB b8 95 6 wm130) [gdet [] ?a21_0n10, gdet [0] ?a21_1n10, gdet [] ?a21_2n10, gdet [2] ?a21_3n10, gdet [3] ?a21_4n10, gop true [4] (.bool (decide (x.code = 16))), gop (true && ((decide (x.code = 16)) == true)) [] ?a21_6n10, gop (true && ((decide (x.code = 16)) == true)) [6] ?a21_7n10, gop (true && ((decide (x.code = 16)) == true)) [7] ?a21_8n10, gdet [5, 8] ?a21_9n10, gst 0 [1] (fun _ w => Blk w b8 (encD ⟨true, -1, ⟨1, 0, 0, 0, 1⟩⟩) 95)] mixed (by kernel_rfl) rfl ⟨.inl ⟨rfl, rfl⟩, .inl ⟨rfl, rfl⟩, .inl ⟨rfl, rfl⟩, .inl ⟨rfl, rfl⟩, .inl ⟨rfl, rfl⟩, .inl ⟨rfl, rfl⟩, .inr ⟨5, true, (decide (x.code = 16)), true, _, _, _, 142, rfl, rfl, rfl, rfl, by kernel_rfl⟩, .inr ⟨5, true, (decide (x.code = 16)), true, _, _, _, 142, rfl, rfl, rfl, rfl, by kernel_rfl⟩, .inr ⟨5, true, (decide (x.code = 16)), true, _, _, _, 142, rfl, rfl, rfl, rfl, by kernel_rfl⟩, .inl ⟨rfl, rfl⟩, .inl ⟨rfl, rfl⟩, trivial⟩ (stB_ok) (GStab.of rfl ?_) (BsB.of hB8 rfl) (fun h => h.drew) ?_ ?_; rotate_left 9
        ·skip
         refine zJ ?_;refine zJ ?_;refine zJ ?_;refine zJ ?_;refine zJ ?_;refine zU ?_;refine zU ?_;refine zU ?_;refine zU ?_;refine zJ ?_;refine jn jI ?_;exact q4
        ·refine zp ?_ ?_
         ·intro wq hq hzq
          refine zk ?_
          refine zN (qA qP rfl rfl rfl rfl ) ?_; first | exact rfl | rfl
         refine zp ?_ ?_
         ·intro wq hq hzq
          refine zI rfl rfl rfl (zk ?_)
          refine zN (jO (Zc (-1) ⟨1, 0, 0, 0, 1⟩) rfl) ?_; first | exact rfl | rfl
         refine zp ?_ ?_
         ·intro wq hq hzq
          refine zk ?_
          refine zN (zh qc rfl) ?_; first | exact rfl | rfl
         refine zp ?_ ?_
         ·intro wq hq hzq
          refine zI rfl rfl rfl (zk ?_)
          refine zN (zi ((hB10.chg hq.1 ne_b10_8)) isAgg5 rfl rfl) ?_; first | exact rfl | rfl
         refine zp ?_ ?_
         ·intro wq hq hzq
          refine zI rfl rfl rfl (zk ?_)
          refine zN (zO rfl rfl) ?_; first | exact rfl | rfl
         refine zp ?_ ?_
         ·intro wq hq hzq
          refine zI rfl rfl rfl (zk ?_)
          refine z3 (zf rfl) rfl ?_; first | exact rfl | rfl
         refine zY ?_ ?_
         ·intro hon wq hq hzq
          replace hon : (true && ((decide (x.code = 16)) == true)) = true := hon;refine zk ?_
          refine z3 (zh qc rfl) hon ?_; first | exact rfl | rfl
         refine zY ?_ ?_
         ·intro hon wq hq hzq
          replace hon : (true && ((decide (x.code = 16)) == true)) = true := hon;refine z6 rfl rfl rfl hon ?_; intro _;refine zk ?_
          refine z3 (zi ((hB11.chg hq.1 ne_b11_8)) isAgg5 rfl rfl) hon ?_; first | exact rfl | rfl
         refine zY ?_ ?_
         ·intro hon wq hq hzq
          replace hon : (true && ((decide (x.code = 16)) == true)) = true := hon;refine z6 rfl rfl rfl hon ?_; intro _;refine zk ?_
          refine z3 (zO rfl rfl) hon ?_; first | exact rfl | rfl
         refine zp ?_ ?_
         ·intro wq hq hzq
          refine z6 rfl rfl rfl rfl ?_; intro _;refine qT rfl rfl rfl ?_; intro _;refine zk ?_
          refine zN (jy rfl rfl (fun h => jv rfl h)) ?_; first | exact rfl | rfl
         refine zp ?_ ?_
         ·intro wq hq hzq
          refine zI rfl rfl rfl (zk ?_);exact jZ hq.2 rfl rfl rfl rfl sizeOf95 rfl rfl
         exact qW
        ·intro wa21 hba21 hzz21
         refine zG rfl (zG rfl (zG rfl (zG rfl (zG rfl (zW rfl ?_))))); intro _;refine zW rfl ?_; intro _;refine zW rfl ?_; intro _;refine zW rfl ?_; intro _;refine zG rfl (jC rfl ?_); intro hs21x10 _; replace hs21x10 := id hs21x10;refine qZ ?_
         simp only [List.drop_succ_cons, List.drop_zero]
         replace hb0 := bchg hb0 hba21.1 hle8;refine SQ (ze rfl) ?_;refine zd ?_;refine zb ?_;refine zu ?_;refine zt ?_;refine zl ?_;refine qa rfl rfl (.cellW rfl (hs21x10) isAgg95 sizeOf95 rfl) (.tmp rfl) ?_;exact ⟨by rw [tryX, if_neg (by omega), if_neg (by omega), if_neg (by omega), if_neg (by omega), if_pos (by omega), if_neg (fun h => by have h9 := g133 h.1; rw [h.2] at h9; cases h9)]; rfl, hb0⟩
      ·intro g125
       try simp only [dd] at g125
       refine zg (za (SQ (zO rfl rfl) (SQ (ze rfl) (zd (zb ?_)))));refine zw rfl ?_ ?_
       ·intro g147
        try simp only [dd] at g147
        refine zg ?_;refine zg ?_;refine za ?_;refine SQ (zh qc rfl) ?_;refine SQ (zi (hB10) isAgg5 rfl rfl) ?_;refine SQ (zO rfl rfl) ?_;refine SQ (zf rfl) ?_;refine qC (r := ?r152n11) 4 156 152 rfl ?_ ?_ ?_; rotate_left
        ·intro g152 K152
         have g152' := g152; try simp only [dd] at g152'
         have hm152 := Below.refl (wm42).heap.size wm42;refine zv 152 rfl rfl g152 (SQ (zh qc rfl) (zv 152 rfl rfl g152 (SQ (zi (hB10) isAgg5 rfl rfl) (zv 152 rfl rfl g152 (SQ (zO rfl rfl) (SQ (zA rfl (fun h => absurd (g152.symm.trans h) (by decide)) (fun _ => rfl)) ?_))))));exact K152 _ _ hm152 (by repeat (first | exact Sub.refl | refine Sub.shadow ?_ | refine Sub.same ?_ | refine Sub.push rfl ?_))
        ·intro g152 K152
         have g152' := g152; try simp only [dd] at g152'
         have hm152 := Below.refl (wm42).heap.size wm42;refine zB 152 rfl rfl g152 rfl (zB 152 rfl rfl g152 rfl (zB 152 rfl rfl g152 rfl (SQ (zA rfl (fun _ => rfl) (fun h => absurd (g152.symm.trans h) (by decide))) ?_)));exact K152 _ _ hm152 (by repeat (first | exact Sub.refl | refine Sub.shadow ?_ | refine Sub.same ?_ | refine Sub.push rfl ?_))
        intro wm152 hbm152;replace hb0 := btr hb0 hbm152;replace hB8 := hB8.below hbm152;replace hB10 := hB10.below hbm152;replace hB11 := hB11.below hbm152;replace hB12 := hB12.below hbm152
        simp only [List.drop_succ_cons, List.drop_zero]
        refine SQ (zf rfl) ?_;refine qM (r := ?r157n12) 3 160 157 rfl ?_ ?_ ?_; rotate_left
        ·intro g157 K157
         have g157' := g157; try simp only [dd] at g157'
         have hm157 := Below.refl (wm152).heap.size wm152;refine zv 157 rfl rfl g157 ?_
         first | refine SQ (zC (hB12) isAgg76 sizeOf76 rfl rfl) ?_ | refine SQ (zD (hB12) isAgg76 sizeOf76 rfl rfl rfl) ?_
         refine zv 157 rfl rfl g157 (zF rfl call65 rfl (f65_c _ _ _) ?_);intro w159 hb159;replace hb0 := btr hb0 hb159;replace hm157 := btr hm157 hb159;refine SQ (zA rfl (fun _ => rfl) (fun h => absurd (g157.symm.trans h) (by decide))) ?_;exact K157 _ _ hm157 (by repeat (first | exact Sub.refl | refine Sub.shadow ?_ | refine Sub.same ?_ | refine Sub.push rfl ?_))
        ·intro g157 K157
         have g157' := g157; try simp only [dd] at g157'
         have hm157 := Below.refl (wm152).heap.size wm152;refine zB 157 rfl rfl g157 rfl (zB 157 rfl rfl g157 rfl (SQ (zA rfl (fun h => absurd (g157.symm.trans h) (by decide)) (fun _ => rfl)) ?_));exact K157 _ _ hm157 (by repeat (first | exact Sub.refl | refine Sub.shadow ?_ | refine Sub.same ?_ | refine Sub.push rfl ?_))
        intro wm157 hbm157;replace hb0 := btr hb0 hbm157;replace hB8 := hB8.below hbm157;replace hB10 := hB10.below hbm157;replace hB11 := hB11.below hbm157;replace hB12 := hB12.below hbm157
        simp only [List.drop_succ_cons, List.drop_zero]
        refine SQ (zf rfl) ?_;refine qC (r := ?r161n13) 13 174 161 rfl ?_ ?_ ?_; rotate_left
        ·intro g161 K161
         have g161' := g161; try simp only [dd] at g161'
         have hm161 := Below.refl (wm157).heap.size wm157;refine zv 161 rfl rfl g161 ?_;refine SQ (zh qc rfl) ?_;refine zv 161 rfl rfl g161 ?_;refine SQ (zi (hB10) isAgg5 rfl rfl) ?_;refine zv 161 rfl rfl g161 ?_;refine SQ (zO rfl rfl) ?_;refine zv 161 rfl rfl g161 ?_;refine SQ (zf rfl) ?_;refine qC (r := ?r165n14) 4 169 165 rfl ?_ ?_ ?_; rotate_left
         ·intro g165 K165
          have g165' := g165; try simp only [dd] at g165'
          have hm165 := Below.refl (wm157).heap.size wm157;refine zv 165 rfl rfl g165 (SQ (zh qc rfl) (zv 165 rfl rfl g165 (SQ (zi (hB10) isAgg5 rfl rfl) (zv 165 rfl rfl g165 (SQ (zO rfl rfl) (zv 161 rfl rfl g161 (SQ (zA rfl (fun h => absurd (g165.symm.trans h) (by decide)) (fun _ => rfl)) ?_)))))));exact K165 _ _ hm165 (by repeat (first | exact Sub.refl | refine Sub.shadow ?_ | refine Sub.same ?_ | refine Sub.push rfl ?_))
         ·intro g165 K165
          have g165' := g165; try simp only [dd] at g165'
          have hm165 := Below.refl (wm157).heap.size wm157;refine zB 165 rfl rfl g165 rfl (zB 165 rfl rfl g165 rfl (zB 165 rfl rfl g165 rfl (zv 161 rfl rfl g161 (SQ (zA rfl (fun _ => rfl) (fun h => absurd (g165.symm.trans h) (by decide))) ?_))));exact K165 _ _ hm165 (by repeat (first | exact Sub.refl | refine Sub.shadow ?_ | refine Sub.same ?_ | refine Sub.push rfl ?_))
         intro wm165 hbm165;replace hb0 := btr hb0 hbm165;replace hm161 := btr hm161 hbm165;replace hB12 := hB12.below hbm165
         simp only [List.drop_succ_cons, List.drop_zero]
         refine zv 161 rfl rfl g161 ?_;refine SQ (zf rfl) ?_;refine qM (r := ?r170n15) 3 173 170 rfl ?_ ?_ ?_; rotate_left
         ·intro g170 K170
          have g170' := g170; try simp only [dd] at g170'
          have hm170 := Below.refl (wm165).heap.size wm165;refine zv 170 rfl rfl g170 ?_
          first | refine SQ (zC (hB12) isAgg76 sizeOf76 rfl rfl) ?_ | refine SQ (zD (hB12) isAgg76 sizeOf76 rfl rfl rfl) ?_
          refine zv 170 rfl rfl g170 (zF rfl call65 rfl (f65_c _ _ _) ?_);intro w172 hb172;replace hb0 := btr hb0 hb172;replace hm161 := btr hm161 hb172;replace hm170 := btr hm170 hb172;refine zv 161 rfl rfl g161 (SQ (zA rfl (fun _ => rfl) (fun h => absurd (g170.symm.trans h) (by decide))) ?_);exact K170 _ _ hm170 (by repeat (first | exact Sub.refl | refine Sub.shadow ?_ | refine Sub.same ?_ | refine Sub.push rfl ?_))
         ·intro g170 K170
          have g170' := g170; try simp only [dd] at g170'
          have hm170 := Below.refl (wm165).heap.size wm165;refine zB 170 rfl rfl g170 rfl (zB 170 rfl rfl g170 rfl (zv 161 rfl rfl g161 (SQ (zA rfl (fun h => absurd (g170.symm.trans h) (by decide)) (fun _ => rfl)) ?_)));exact K170 _ _ hm170 (by repeat (first | exact Sub.refl | refine Sub.shadow ?_ | refine Sub.same ?_ | refine Sub.push rfl ?_))
         intro wm170 hbm170;replace hb0 := btr hb0 hbm170;replace hm161 := btr hm161 hbm170
         simp only [List.drop_succ_cons, List.drop_zero]
         refine SQ (zA rfl (fun h => absurd (g161.symm.trans h) (by decide)) (fun _ => rfl)) ?_;exact K161 _ _ hm161 (by repeat (first | exact Sub.refl | refine Sub.shadow ?_ | refine Sub.same ?_ | refine Sub.push rfl ?_))
        ·intro g161 K161
         have g161' := g161; try simp only [dd] at g161'
         have hm161 := Below.refl (wm157).heap.size wm157;refine zB 161 rfl rfl g161 rfl (zB 161 rfl rfl g161 rfl (zB 161 rfl rfl g161 rfl (zB 161 rfl rfl g161 rfl (jX 165 rfl rfl rfl (jX 165 rfl rfl rfl (jX 165 rfl rfl rfl (zB 161 rfl rfl g161 rfl (zB 161 rfl rfl g161 rfl (jX 170 rfl rfl rfl (jX 170 rfl rfl rfl (zB 161 rfl rfl g161 rfl (SQ (zA rfl (fun _ => rfl) (fun h => absurd (g161.symm.trans h) (by decide))) ?_))))))))))));exact K161 _ _ hm161 (by repeat (first | exact Sub.refl | refine Sub.shadow ?_ | refine Sub.same ?_ | refine Sub.push rfl ?_))
        intro wm161 hbm161;replace hb0 := btr hb0 hbm161;replace hB8 := hB8.below hbm161;replace hB10 := hB10.below hbm161;replace hB11 := hB11.below hbm161
        simp only [List.drop_succ_cons, List.drop_zero]
        refine zd (zb ?_);refine zw rfl ?_ ?_
        ·intro g174
         try simp only [dd] at g174
         refine zg (za (SQ (zh qs rfl) (SQ (zi (hB10) isAgg3 rfl rfl) (SQ (qK jf rfl rfl ) (zm (hB8) rfl rfl rfl rfl sizeOf95 rfl rfl ?_)))));intro ws24x3 hchs24x3 hBs24x3;replace hb0 := bchg hb0 hchs24x3 hle8;clear hB8;refine SQ (ze rfl) (zd (zb (zu (zl (zt (zl (qa rfl rfl (.cellW rfl (hBs24x3) isAgg95 sizeOf95 rfl) (.tmp rfl) ?_)))))))
         have hun : unitA x y z = true := by unfold unitA; simp only [dd]; exact g174
         exact ⟨by rw [tryX, if_neg (by omega), if_neg (by omega), if_neg (by omega), if_neg (by omega), if_neg (by omega), if_pos (by omega), if_pos hun]; rfl, hb0⟩
        ·intro g174
         try simp only [dd] at g174
         refine zH ?_;refine zb ?_;refine zg ?_;refine jW 20 [[], [0], [1], [], [3], [4], [5], [], [7], [6, 8], [9], [], [11], [12], [13], [], [15], [14, 16], [10, 17], [2]] [StBE b8 95 6] (BsB b8 95 6 wm161) [gdet [] ?a25_0n16, gdet [0] ?a25_1n16, gdet [1] ?a25_2n16, gdet [] ?a25_3n16, gdet [3] ?a25_4n16, gdet [4] ?a25_5n16, gop true [5] (.bool (decide (x.code = 7))), gop (true && ((decide (x.code = 7)) == true)) [] ?a25_7n16, gop (true && ((decide (x.code = 7)) == true)) [7] ?a25_8n16, gdet [6, 8] ?a25_9n16, gop true [9] (.bool ((decide (x.code = 7) && constB y 0))), gop (true && (((decide (x.code = 7) && constB y 0)) == false)) [] ?a25_11n16, gop (true && (((decide (x.code = 7) && constB y 0)) == false)) [11] ?a25_12n16, gop (true && (((decide (x.code = 7) && constB y 0)) == false)) [12] ?a25_13n16, gop (true && (((decide (x.code = 7) && constB y 0)) == false)) [13] (.bool (decide (x.code = 9))), gop ((true && (((decide (x.code = 7) && constB y 0)) == false)) && ((decide (x.code = 9)) == true)) [] ?a25_15n16, gop ((true && (((decide (x.code = 7) && constB y 0)) == false)) && ((decide (x.code = 9)) == true)) [15] ?a25_16n16, gop (true && (((decide (x.code = 7) && constB y 0)) == false)) [14, 16] ?a25_17n16, gdet [10, 17] ?a25_18n16, gst 0 [2] (fun _ w => Blk w b8 (encD ⟨true, x.b, o0⟩) 95)] mixed (by kernel_rfl) rfl ⟨.inl ⟨rfl, rfl⟩, .inl ⟨rfl, rfl⟩, .inl ⟨rfl, rfl⟩, .inl ⟨rfl, rfl⟩, .inl ⟨rfl, rfl⟩, .inl ⟨rfl, rfl⟩, .inl ⟨rfl, rfl⟩, .inr ⟨6, true, (decide (x.code = 7)), true, _, _, _, 184, rfl, rfl, rfl, rfl, by kernel_rfl⟩, .inr ⟨6, true, (decide (x.code = 7)), true, _, _, _, 184, rfl, rfl, rfl, rfl, by kernel_rfl⟩, .inl ⟨rfl, rfl⟩, .inl ⟨rfl, rfl⟩, .inr ⟨10, false, ((decide (x.code = 7) && constB y 0)), true, _, _, _, 188, rfl, rfl, rfl, rfl, by kernel_rfl⟩, .inr ⟨10, false, ((decide (x.code = 7) && constB y 0)), true, _, _, _, 188, rfl, rfl, rfl, rfl, by kernel_rfl⟩, .inr ⟨10, false, ((decide (x.code = 7) && constB y 0)), true, _, _, _, 188, rfl, rfl, rfl, rfl, by kernel_rfl⟩, .inr ⟨10, false, ((decide (x.code = 7) && constB y 0)), true, _, _, _, 188, rfl, rfl, rfl, rfl, by kernel_rfl⟩, .inr ⟨14, true, (decide (x.code = 9)), (true && (((decide (x.code = 7) && constB y 0)) == false)), _, _, _, 192, rfl, rfl, rfl, rfl, by kernel_rfl⟩, .inr ⟨14, true, (decide (x.code = 9)), (true && (((decide (x.code = 7) && constB y 0)) == false)), _, _, _, 192, rfl, rfl, rfl, rfl, by kernel_rfl⟩, .inr ⟨10, false, ((decide (x.code = 7) && constB y 0)), true, _, _, _, 188, rfl, rfl, rfl, rfl, by kernel_rfl⟩, .inl ⟨rfl, rfl⟩, .inl ⟨rfl, rfl⟩, trivial⟩ (stB_ok) (GStab.of rfl ?_) (BsB.of hB8 rfl) (fun h => h.drew) ?_ ?_; rotate_left 16
         ·skip
          refine zJ ?_;refine zJ ?_;refine zJ ?_;refine zJ ?_;refine zJ ?_;refine zJ ?_;refine zU ?_;refine zU ?_;refine zU ?_;refine zJ ?_;refine zU ?_;refine zU ?_;refine zU ?_;refine zU ?_;refine zU ?_;refine zU ?_;refine zU ?_;refine zU ?_;refine zJ ?_;refine jn jI ?_;exact q4
         ·refine zp ?_ ?_
          ·intro wq hq hzq
           refine zk ?_
           refine zN (zh qE rfl) ?_; first | exact rfl | rfl
          refine zp ?_ ?_
          ·intro wq hq hzq
           refine zI rfl rfl rfl (zk ?_)
           refine zN (zi ((hB10.chg hq.1 ne_b10_8)) isAgg3 rfl rfl) ?_; first | exact rfl | rfl
          refine zp ?_ ?_
          ·intro wq hq hzq
           refine zI rfl rfl rfl (zk ?_)
           refine zN (qK jf rfl rfl ) ?_; first | exact rfl | rfl
          refine zp ?_ ?_
          ·intro wq hq hzq
           refine zk ?_
           refine zN (zh qc rfl) ?_; first | exact rfl | rfl
          refine zp ?_ ?_
          ·intro wq hq hzq
           refine zI rfl rfl rfl (zk ?_)
           refine zN (zi ((hB10.chg hq.1 ne_b10_8)) isAgg5 rfl rfl) ?_; first | exact rfl | rfl
          refine zp ?_ ?_
          ·intro wq hq hzq
           refine zI rfl rfl rfl (zk ?_)
           refine zN (zO rfl rfl) ?_; first | exact rfl | rfl
          refine zp ?_ ?_
          ·intro wq hq hzq
           refine zI rfl rfl rfl (zk ?_)
           refine z3 (zf rfl) rfl ?_; first | exact rfl | rfl
          refine zY ?_ ?_
          ·intro hon wq hq hzq
           replace hon : (true && ((decide (x.code = 7)) == true)) = true := hon;refine zk ?_
           first | (refine z3 (zC ((hB11.chg hq.1 ne_b11_8)) isAgg76 sizeOf76 rfl rfl) hon ?_; first | exact rfl | rfl) | (refine z3 (zD ((hB11.chg hq.1 ne_b11_8)) isAgg76 sizeOf76 rfl rfl rfl) hon ?_; first | exact rfl | rfl)
          refine zY ?_ ?_
          ·intro hon wq hq hzq
           replace hon : (true && ((decide (x.code = 7)) == true)) = true := hon;refine z6 rfl rfl rfl hon ?_; intro _;refine zk ?_
           refine j9 rfl call65 (f65_c _ _ _) hon ?_; first | exact rfl | rfl
          refine zp ?_ ?_
          ·intro wq hq hzq
           refine z6 rfl rfl rfl rfl ?_; intro _;refine qT rfl rfl rfl ?_; intro _;refine zk ?_
           refine zN (jy rfl rfl (fun h => jv rfl h)) ?_; first | exact rfl | rfl
          refine zp ?_ ?_
          ·intro wq hq hzq
           refine zI rfl rfl rfl (zk ?_)
           refine z3 (zf rfl) rfl ?_; first | exact rfl | rfl
          refine zY ?_ ?_
          ·intro hon wq hq hzq
           replace hon : (true && (((decide (x.code = 7) && constB y 0)) == false)) = true := hon;refine zk ?_
           refine z3 (zh qc rfl) hon ?_; first | exact rfl | rfl
          refine zY ?_ ?_
          ·intro hon wq hq hzq
           replace hon : (true && (((decide (x.code = 7) && constB y 0)) == false)) = true := hon;refine z6 rfl rfl rfl hon ?_; intro _;refine zk ?_
           refine z3 (zi ((hB10.chg hq.1 ne_b10_8)) isAgg5 rfl rfl) hon ?_; first | exact rfl | rfl
          refine zY ?_ ?_
          ·intro hon wq hq hzq
           replace hon : (true && (((decide (x.code = 7) && constB y 0)) == false)) = true := hon;refine z6 rfl rfl rfl hon ?_; intro _;refine zk ?_
           refine z3 (zO rfl rfl) hon ?_; first | exact rfl | rfl
          refine zY ?_ ?_
          ·intro hon wq hq hzq
           replace hon : (true && (((decide (x.code = 7) && constB y 0)) == false)) = true := hon;refine z6 rfl rfl rfl hon ?_; intro _;refine zk ?_
           refine z3 (zf rfl) hon ?_; first | exact rfl | rfl
          refine zY ?_ ?_
          ·intro hon wq hq hzq
           replace hon : ((true && (((decide (x.code = 7) && constB y 0)) == false)) && ((decide (x.code = 9)) == true)) = true := hon;refine zk ?_
           first | (refine z3 (zC ((hB11.chg hq.1 ne_b11_8)) isAgg76 sizeOf76 rfl rfl) hon ?_; first | exact rfl | rfl) | (refine z3 (zD ((hB11.chg hq.1 ne_b11_8)) isAgg76 sizeOf76 rfl rfl rfl) hon ?_; first | exact rfl | rfl)
          refine zY ?_ ?_
          ·intro hon wq hq hzq
           replace hon : ((true && (((decide (x.code = 7) && constB y 0)) == false)) && ((decide (x.code = 9)) == true)) = true := hon;refine z6 rfl rfl rfl hon ?_; intro _;refine zk ?_
           refine j9 rfl call65 (f65_c _ _ _) hon ?_; first | exact rfl | rfl
          refine zY ?_ ?_
          ·intro hon wq hq hzq
           replace hon : (true && (((decide (x.code = 7) && constB y 0)) == false)) = true := hon;refine z6 rfl rfl rfl hon ?_; intro _;refine qT rfl rfl rfl ?_; intro _;refine zk ?_
           refine z3 (jy rfl rfl (fun h => jv hon h)) hon ?_; first | exact rfl | rfl
          refine zp ?_ ?_
          ·intro wq hq hzq
           refine z6 rfl rfl rfl rfl ?_; intro _;refine qT rfl rfl rfl ?_; intro _;refine zk ?_
           refine zN (Rq_or rfl rfl (fun h => jv rfl h)) ?_; first | exact rfl | rfl
          refine zp ?_ ?_
          ·intro wq hq hzq
           refine zI rfl rfl rfl (zk ?_);exact jZ hq.2 rfl rfl rfl rfl sizeOf95 rfl rfl
          exact qW
         ·intro wa25 hba25 hzz25
          refine zG rfl (zG rfl (zG rfl (zG rfl (zG rfl (zG rfl (zW rfl ?_)))))); intro _;refine zW rfl ?_; intro _;refine zW rfl ?_; intro _;refine zG rfl (zW rfl ?_); intro _;refine zW rfl ?_; intro _;refine zW rfl ?_; intro _;refine zW rfl ?_; intro _;refine zW rfl ?_; intro _;refine zW rfl ?_; intro _;refine zW rfl ?_; intro _;refine zW rfl ?_; intro _;refine zG rfl (jC rfl ?_); intro hs25x19 _; replace hs25x19 := id hs25x19;refine qZ ?_
          simp only [List.drop_succ_cons, List.drop_zero]
          replace hb0 := bchg hb0 hba25.1 hle8;refine SQ (ze rfl) (zd (zb (zu (zt (zl (qa rfl rfl (.cellW rfl (hs25x19) isAgg95 sizeOf95 rfl) (.tmp rfl) ?_))))))
          have hun : unitA x y z = false := by unfold unitA; simp only [dd]; exact g174
          exact ⟨by rw [tryX, if_neg (by omega), if_neg (by omega), if_neg (by omega), if_neg (by omega), if_neg (by omega), if_pos (by omega), if_neg (by rw [hun]; decide)]; rfl, hb0⟩
       ·intro g147
        try simp only [dd] at g147
        refine zg (za (SQ (zO rfl rfl) (SQ (ze rfl) (zd (zb ?_)))));refine zw rfl ?_ ?_
        ·intro g197
         try simp only [dd] at g197
         refine zg ?_;refine jW 29 [[], [0], [1], [], [3], [4], [5], [], [7], [8], [6, 9], [10], [], [12], [13], [14], [], [16], [17], [15, 18], [19], [], [], [22], [21, 23], [24], [20, 25], [11, 26], [2]] [StBE b8 95 6] (BsB b8 95 6 wm42) [gdet [] ?a27_0n17, gdet [0] ?a27_1n17, gdet [1] ?a27_2n17, gdet [] ?a27_3n17, gdet [3] ?a27_4n17, gdet [4] ?a27_5n17, gop true [5] (.bool (decide (x.code = 5))), gop (true && ((decide (x.code = 5)) == true)) [] ?a27_7n17, gop (true && ((decide (x.code = 5)) == true)) [7] ?a27_8n17, gop (true && ((decide (x.code = 5)) == true)) [8] ?a27_9n17, gdet [6, 9] ?a27_10n17, gop true [10] (.bool ((decide (x.code = 5) && decide (y.code = 5)))), gop (true && (((decide (x.code = 5) && decide (y.code = 5))) == false)) [] ?a27_12n17, gop (true && (((decide (x.code = 5) && decide (y.code = 5))) == false)) [12] ?a27_13n17, gop (true && (((decide (x.code = 5) && decide (y.code = 5))) == false)) [13] ?a27_14n17, gop (true && (((decide (x.code = 5) && decide (y.code = 5))) == false)) [14] (.bool (decide (x.code = 6))), gop ((true && (((decide (x.code = 5) && decide (y.code = 5))) == false)) && ((decide (x.code = 6)) == true)) [] ?a27_16n17, gop ((true && (((decide (x.code = 5) && decide (y.code = 5))) == false)) && ((decide (x.code = 6)) == true)) [16] ?a27_17n17, gop ((true && (((decide (x.code = 5) && decide (y.code = 5))) == false)) && ((decide (x.code = 6)) == true)) [17] ?a27_18n17, gop (true && (((decide (x.code = 5) && decide (y.code = 5))) == false)) [15, 18] ?a27_19n17, gop (true && (((decide (x.code = 5) && decide (y.code = 5))) == false)) [19] (.bool ((decide (x.code = 6) && decide (y.code = 6)))), gop ((true && (((decide (x.code = 5) && decide (y.code = 5))) == false)) && (((decide (x.code = 6) && decide (y.code = 6))) == true)) [] ?a27_21n17, gop ((true && (((decide (x.code = 5) && decide (y.code = 5))) == false)) && (((decide (x.code = 6) && decide (y.code = 6))) == true)) [] ?a27_22n17, gop ((true && (((decide (x.code = 5) && decide (y.code = 5))) == false)) && (((decide (x.code = 6) && decide (y.code = 6))) == true)) [22] ?a27_23n17, gop ((true && (((decide (x.code = 5) && decide (y.code = 5))) == false)) && (((decide (x.code = 6) && decide (y.code = 6))) == true)) [21, 23] ?a27_24n17, gop ((true && (((decide (x.code = 5) && decide (y.code = 5))) == false)) && (((decide (x.code = 6) && decide (y.code = 6))) == true)) [24] ?a27_25n17, gop (true && (((decide (x.code = 5) && decide (y.code = 5))) == false)) [20, 25] ?a27_26n17, gdet [11, 26] ?a27_27n17, gst 0 [2] (fun _ w => Blk w b8 (encD ⟨true, y.a, o0⟩) 95)] mixed (by kernel_rfl) rfl ⟨.inl ⟨rfl, rfl⟩, .inl ⟨rfl, rfl⟩, .inl ⟨rfl, rfl⟩, .inl ⟨rfl, rfl⟩, .inl ⟨rfl, rfl⟩, .inl ⟨rfl, rfl⟩, .inl ⟨rfl, rfl⟩, .inr ⟨6, true, (decide (x.code = 5)), true, _, _, _, 205, rfl, rfl, rfl, rfl, by kernel_rfl⟩, .inr ⟨6, true, (decide (x.code = 5)), true, _, _, _, 205, rfl, rfl, rfl, rfl, by kernel_rfl⟩, .inr ⟨6, true, (decide (x.code = 5)), true, _, _, _, 205, rfl, rfl, rfl, rfl, by kernel_rfl⟩, .inl ⟨rfl, rfl⟩, .inl ⟨rfl, rfl⟩, .inr ⟨11, false, ((decide (x.code = 5) && decide (y.code = 5))), true, _, _, _, 210, rfl, rfl, rfl, rfl, by kernel_rfl⟩, .inr ⟨11, false, ((decide (x.code = 5) && decide (y.code = 5))), true, _, _, _, 210, rfl, rfl, rfl, rfl, by kernel_rfl⟩, .inr ⟨11, false, ((decide (x.code = 5) && decide (y.code = 5))), true, _, _, _, 210, rfl, rfl, rfl, rfl, by kernel_rfl⟩, .inr ⟨11, false, ((decide (x.code = 5) && decide (y.code = 5))), true, _, _, _, 210, rfl, rfl, rfl, rfl, by kernel_rfl⟩, .inr ⟨15, true, (decide (x.code = 6)), (true && (((decide (x.code = 5) && decide (y.code = 5))) == false)), _, _, _, 214, rfl, rfl, rfl, rfl, by kernel_rfl⟩, .inr ⟨15, true, (decide (x.code = 6)), (true && (((decide (x.code = 5) && decide (y.code = 5))) == false)), _, _, _, 214, rfl, rfl, rfl, rfl, by kernel_rfl⟩, .inr ⟨15, true, (decide (x.code = 6)), (true && (((decide (x.code = 5) && decide (y.code = 5))) == false)), _, _, _, 214, rfl, rfl, rfl, rfl, by kernel_rfl⟩, .inr ⟨11, false, ((decide (x.code = 5) && decide (y.code = 5))), true, _, _, _, 210, rfl, rfl, rfl, rfl, by kernel_rfl⟩, .inr ⟨11, false, ((decide (x.code = 5) && decide (y.code = 5))), true, _, _, _, 210, rfl, rfl, rfl, rfl, by kernel_rfl⟩, .inr ⟨20, true, ((decide (x.code = 6) && decide (y.code = 6))), (true && (((decide (x.code = 5) && decide (y.code = 5))) == false)), _, _, _, 219, rfl, rfl, rfl, rfl, by kernel_rfl⟩, .inr ⟨20, true, ((decide (x.code = 6) && decide (y.code = 6))), (true && (((decide (x.code = 5) && decide (y.code = 5))) == false)), _, _, _, 219, rfl, rfl, rfl, rfl, by kernel_rfl⟩, .inr ⟨20, true, ((decide (x.code = 6) && decide (y.code = 6))), (true && (((decide (x.code = 5) && decide (y.code = 5))) == false)), _, _, _, 219, rfl, rfl, rfl, rfl, by kernel_rfl⟩, .inr ⟨20, true, ((decide (x.code = 6) && decide (y.code = 6))), (true && (((decide (x.code = 5) && decide (y.code = 5))) == false)), _, _, _, 219, rfl, rfl, rfl, rfl, by kernel_rfl⟩, .inr ⟨20, true, ((decide (x.code = 6) && decide (y.code = 6))), (true && (((decide (x.code = 5) && decide (y.code = 5))) == false)), _, _, _, 219, rfl, rfl, rfl, rfl, by kernel_rfl⟩, .inr ⟨11, false, ((decide (x.code = 5) && decide (y.code = 5))), true, _, _, _, 210, rfl, rfl, rfl, rfl, by kernel_rfl⟩, .inl ⟨rfl, rfl⟩, .inl ⟨rfl, rfl⟩, trivial⟩ (stB_ok) (GStab.of rfl ?_) (BsB.of hB8 rfl) (fun h => h.drew) ?_ ?_; rotate_left 24
         ·skip
          refine zJ ?_;refine zJ ?_;refine zJ ?_;refine zJ ?_;refine zJ ?_;refine zJ ?_;refine zU ?_;refine zU ?_;refine zU ?_;refine zU ?_;refine zJ ?_;refine zU ?_;refine zU ?_;refine zU ?_;refine zU ?_;refine zU ?_;refine zU ?_;refine zU ?_;refine zU ?_;refine zU ?_;refine zU ?_;refine zU ?_;refine zU ?_;refine zU ?_;refine zU ?_;refine zU ?_;refine zU ?_;refine zJ ?_;refine jn jI ?_;exact q4
         ·refine zp ?_ ?_
          ·intro wq hq hzq
           refine zk ?_
           refine zN (zh qs rfl) ?_; first | exact rfl | rfl
          refine zp ?_ ?_
          ·intro wq hq hzq
           refine zI rfl rfl rfl (zk ?_)
           refine zN (zi ((hB11.chg hq.1 ne_b11_8)) isAgg3 rfl rfl) ?_; first | exact rfl | rfl
          refine zp ?_ ?_
          ·intro wq hq hzq
           refine zI rfl rfl rfl (zk ?_)
           refine zN (qK jf rfl rfl ) ?_; first | exact rfl | rfl
          refine zp ?_ ?_
          ·intro wq hq hzq
           refine zk ?_
           refine zN (zh qc rfl) ?_; first | exact rfl | rfl
          refine zp ?_ ?_
          ·intro wq hq hzq
           refine zI rfl rfl rfl (zk ?_)
           refine zN (zi ((hB10.chg hq.1 ne_b10_8)) isAgg5 rfl rfl) ?_; first | exact rfl | rfl
          refine zp ?_ ?_
          ·intro wq hq hzq
           refine zI rfl rfl rfl (zk ?_)
           refine zN (zO rfl rfl) ?_; first | exact rfl | rfl
          refine zp ?_ ?_
          ·intro wq hq hzq
           refine zI rfl rfl rfl (zk ?_)
           refine z3 (zf rfl) rfl ?_; first | exact rfl | rfl
          refine zY ?_ ?_
          ·intro hon wq hq hzq
           replace hon : (true && ((decide (x.code = 5)) == true)) = true := hon;refine zk ?_
           refine z3 (zh qc rfl) hon ?_; first | exact rfl | rfl
          refine zY ?_ ?_
          ·intro hon wq hq hzq
           replace hon : (true && ((decide (x.code = 5)) == true)) = true := hon;refine z6 rfl rfl rfl hon ?_; intro _;refine zk ?_
           refine z3 (zi ((hB11.chg hq.1 ne_b11_8)) isAgg5 rfl rfl) hon ?_; first | exact rfl | rfl
          refine zY ?_ ?_
          ·intro hon wq hq hzq
           replace hon : (true && ((decide (x.code = 5)) == true)) = true := hon;refine z6 rfl rfl rfl hon ?_; intro _;refine zk ?_
           refine z3 (zO rfl rfl) hon ?_; first | exact rfl | rfl
          refine zp ?_ ?_
          ·intro wq hq hzq
           refine z6 rfl rfl rfl rfl ?_; intro _;refine qT rfl rfl rfl ?_; intro _;refine zk ?_
           refine zN (jy rfl rfl (fun h => jv rfl h)) ?_; first | exact rfl | rfl
          refine zp ?_ ?_
          ·intro wq hq hzq
           refine zI rfl rfl rfl (zk ?_)
           refine z3 (zf rfl) rfl ?_; first | exact rfl | rfl
          refine zY ?_ ?_
          ·intro hon wq hq hzq
           replace hon : (true && (((decide (x.code = 5) && decide (y.code = 5))) == false)) = true := hon;refine zk ?_
           refine z3 (zh qc rfl) hon ?_; first | exact rfl | rfl
          refine zY ?_ ?_
          ·intro hon wq hq hzq
           replace hon : (true && (((decide (x.code = 5) && decide (y.code = 5))) == false)) = true := hon;refine z6 rfl rfl rfl hon ?_; intro _;refine zk ?_
           refine z3 (zi ((hB10.chg hq.1 ne_b10_8)) isAgg5 rfl rfl) hon ?_; first | exact rfl | rfl
          refine zY ?_ ?_
          ·intro hon wq hq hzq
           replace hon : (true && (((decide (x.code = 5) && decide (y.code = 5))) == false)) = true := hon;refine z6 rfl rfl rfl hon ?_; intro _;refine zk ?_
           refine z3 (zO rfl rfl) hon ?_; first | exact rfl | rfl
          refine zY ?_ ?_
          ·intro hon wq hq hzq
           replace hon : (true && (((decide (x.code = 5) && decide (y.code = 5))) == false)) = true := hon;refine z6 rfl rfl rfl hon ?_; intro _;refine zk ?_
           refine z3 (zf rfl) hon ?_; first | exact rfl | rfl
          refine zY ?_ ?_
          ·intro hon wq hq hzq
           replace hon : ((true && (((decide (x.code = 5) && decide (y.code = 5))) == false)) && ((decide (x.code = 6)) == true)) = true := hon;refine zk ?_
           refine z3 (zh qc rfl) hon ?_; first | exact rfl | rfl
          refine zY ?_ ?_
          ·intro hon wq hq hzq
           replace hon : ((true && (((decide (x.code = 5) && decide (y.code = 5))) == false)) && ((decide (x.code = 6)) == true)) = true := hon;refine z6 rfl rfl rfl hon ?_; intro _;refine zk ?_
           refine z3 (zi ((hB11.chg hq.1 ne_b11_8)) isAgg5 rfl rfl) hon ?_; first | exact rfl | rfl
          refine zY ?_ ?_
          ·intro hon wq hq hzq
           replace hon : ((true && (((decide (x.code = 5) && decide (y.code = 5))) == false)) && ((decide (x.code = 6)) == true)) = true := hon;refine z6 rfl rfl rfl hon ?_; intro _;refine zk ?_
           refine z3 (zO rfl rfl) hon ?_; first | exact rfl | rfl
          refine zY ?_ ?_
          ·intro hon wq hq hzq
           replace hon : (true && (((decide (x.code = 5) && decide (y.code = 5))) == false)) = true := hon;refine z6 rfl rfl rfl hon ?_; intro _;refine qT rfl rfl rfl ?_; intro _;refine zk ?_
           refine z3 (jy rfl rfl (fun h => jv hon h)) hon ?_; first | exact rfl | rfl
          refine zY ?_ ?_
          ·intro hon wq hq hzq
           replace hon : (true && (((decide (x.code = 5) && decide (y.code = 5))) == false)) = true := hon;refine z6 rfl rfl rfl hon ?_; intro _;refine zk ?_
           refine z3 (zf rfl) hon ?_; first | exact rfl | rfl
          refine zY ?_ ?_
          ·intro hon wq hq hzq
           replace hon : ((true && (((decide (x.code = 5) && decide (y.code = 5))) == false)) && (((decide (x.code = 6) && decide (y.code = 6))) == true)) = true := hon;refine zk ?_
           refine z3 (zf rfl) hon ?_; first | exact rfl | rfl
          refine zY ?_ ?_
          ·intro hon wq hq hzq
           replace hon : ((true && (((decide (x.code = 5) && decide (y.code = 5))) == false)) && (((decide (x.code = 6) && decide (y.code = 6))) == true)) = true := hon;refine zk ?_
           refine z3 (zh qs rfl) hon ?_; first | exact rfl | rfl
          refine zY ?_ ?_
          ·intro hon wq hq hzq
           replace hon : ((true && (((decide (x.code = 5) && decide (y.code = 5))) == false)) && (((decide (x.code = 6) && decide (y.code = 6))) == true)) = true := hon;refine z6 rfl rfl rfl hon ?_; intro _;refine zk ?_
           refine z3 (zi ((hB11.chg hq.1 ne_b11_8)) isAgg3 rfl rfl) hon ?_; first | exact rfl | rfl
          refine zY ?_ ?_
          ·intro hon wq hq hzq
           replace hon : ((true && (((decide (x.code = 5) && decide (y.code = 5))) == false)) && (((decide (x.code = 6) && decide (y.code = 6))) == true)) = true := hon;refine z6 rfl rfl rfl hon ?_; intro _;refine z6 rfl rfl rfl hon ?_; intro _;refine zk ?_
           refine z3 (qt (hT.chg hq.1 ne_hT_b8) zU54 sizeOf4 rfl rfl ya0 (by rw [hltr]; exact ya1)) hon ?_; first | exact rfl | rfl
          refine zY ?_ ?_
          ·intro hon wq hq hzq
           replace hon : ((true && (((decide (x.code = 5) && decide (y.code = 5))) == false)) && (((decide (x.code = 6) && decide (y.code = 6))) == true)) = true := hon;refine z6 rfl rfl rfl hon ?_; intro _;refine zk ?_
           refine z3 (qd isAgg4 rfl (((hT.chg hq.1 ne_hT_b8).cells _ _ htya).cell 0 rfl)) hon ?_; first | exact rfl | rfl
          refine zY ?_ ?_
          ·intro hon wq hq hzq
           replace hon : (true && (((decide (x.code = 5) && decide (y.code = 5))) == false)) = true := hon;refine z6 rfl rfl rfl hon ?_; intro _;refine qT rfl rfl rfl ?_; intro _;refine zk ?_
           refine z3 (jy rfl rfl (fun h => jv hon h)) hon ?_; first | exact rfl | rfl
          refine zp ?_ ?_
          ·intro wq hq hzq
           refine z6 rfl rfl rfl rfl ?_; intro _;refine qT rfl rfl rfl ?_; intro _;refine zk ?_
           refine zN (Rq_or rfl rfl (fun h => jv rfl h)) ?_; first | exact rfl | rfl
          refine zp ?_ ?_
          ·intro wq hq hzq
           refine zI rfl rfl rfl (zk ?_);exact jZ hq.2 rfl rfl rfl rfl sizeOf95 rfl rfl
          exact qW
         ·intro wa27 hba27 hzz27
          refine zG rfl (zG rfl (zG rfl (zG rfl (zG rfl (zG rfl (zW rfl ?_)))))); intro _;refine zW rfl ?_; intro _;refine zW rfl ?_; intro _;refine zW rfl ?_; intro _;refine zG rfl (zW rfl ?_); intro _;refine zW rfl ?_; intro _;refine zW rfl ?_; intro _;refine zW rfl ?_; intro _;refine zW rfl ?_; intro _;refine zW rfl ?_; intro _;refine zW rfl ?_; intro _;refine zW rfl ?_; intro _;refine zW rfl ?_; intro _;refine zW rfl ?_; intro _;refine zW rfl ?_; intro _;refine zW rfl ?_; intro _;refine zW rfl ?_; intro _;refine zW rfl ?_; intro _;refine zW rfl ?_; intro _;refine zW rfl ?_; intro _;refine zG rfl (jC rfl ?_); intro hs27x28 _; replace hs27x28 := id hs27x28;refine qZ ?_
          simp only [List.drop_succ_cons, List.drop_zero]
          replace hb0 := bchg hb0 hba27.1 hle8;refine SQ (ze rfl) ?_;refine zd ?_;refine zb ?_;refine zu ?_;refine zt ?_;refine zl ?_;refine qa rfl rfl (.cellW rfl (hs27x28) isAgg95 sizeOf95 rfl) (.tmp rfl) ?_;exact ⟨by rw [tryX, if_neg (by omega), if_neg (by omega), if_neg (by omega), if_neg (by omega), if_neg (by omega), if_neg (by omega), if_pos (by omega)]; rfl, hb0⟩
        ·intro g197
         try simp only [dd] at g197
         refine zg (za (SQ (zO rfl rfl) (SQ (ze rfl) (zd (zb ?_)))));refine zw rfl ?_ ?_
         ·intro g227
          try simp only [dd] at g227
          refine zg ?_;refine jW 22 [[], [0], [1], [], [3], [4], [5], [], [], [8], [7, 9], [10], [6, 11], [12], [], [14], [13, 15], [16], [], [18], [17, 19], [2]] [StBE b8 95 6] (BsB b8 95 6 wm42) [gdet [] ?a29_0n18, gdet [0] ?a29_1n18, gdet [1] ?a29_2n18, gdet [] ?a29_3n18, gdet [3] ?a29_4n18, gdet [4] ?a29_5n18, gop true [5] (.bool (decide (x.code = 17))), gop (true && ((decide (x.code = 17)) == true)) [] ?a29_7n18, gop (true && ((decide (x.code = 17)) == true)) [] ?a29_8n18, gop (true && ((decide (x.code = 17)) == true)) [8] ?a29_9n18, gop (true && ((decide (x.code = 17)) == true)) [7, 9] ?a29_10n18, gop (true && ((decide (x.code = 17)) == true)) [10] ?a29_11n18, gdet [6, 11] ?a29_12n18, gop true [12] (.bool ((decide (x.code = 17) && getB (truthsR C.ops) x.a))), gop (true && (((decide (x.code = 17) && getB (truthsR C.ops) x.a)) == true)) [] ?a29_14n18, gop (true && (((decide (x.code = 17) && getB (truthsR C.ops) x.a)) == true)) [14] ?a29_15n18, gdet [13, 15] ?a29_16n18, gop true [16] (.bool (((decide (x.code = 17) && getB (truthsR C.ops) x.a) && constB z 1))), gop (true && ((((decide (x.code = 17) && getB (truthsR C.ops) x.a) && constB z 1)) == true)) [] ?a29_18n18, gop (true && ((((decide (x.code = 17) && getB (truthsR C.ops) x.a) && constB z 1)) == true)) [18] ?a29_19n18, gdet [17, 19] ?a29_20n18, gst 0 [2] (fun _ w => Blk w b8 (encD ⟨true, x.a, o0⟩) 95)] mixed (by kernel_rfl) rfl ⟨.inl ⟨rfl, rfl⟩, .inl ⟨rfl, rfl⟩, .inl ⟨rfl, rfl⟩, .inl ⟨rfl, rfl⟩, .inl ⟨rfl, rfl⟩, .inl ⟨rfl, rfl⟩, .inl ⟨rfl, rfl⟩, .inr ⟨6, true, (decide (x.code = 17)), true, _, _, _, 235, rfl, rfl, rfl, rfl, by kernel_rfl⟩, .inr ⟨6, true, (decide (x.code = 17)), true, _, _, _, 235, rfl, rfl, rfl, rfl, by kernel_rfl⟩, .inr ⟨6, true, (decide (x.code = 17)), true, _, _, _, 235, rfl, rfl, rfl, rfl, by kernel_rfl⟩, .inr ⟨6, true, (decide (x.code = 17)), true, _, _, _, 235, rfl, rfl, rfl, rfl, by kernel_rfl⟩, .inr ⟨6, true, (decide (x.code = 17)), true, _, _, _, 235, rfl, rfl, rfl, rfl, by kernel_rfl⟩, .inl ⟨rfl, rfl⟩, .inl ⟨rfl, rfl⟩, .inr ⟨13, true, ((decide (x.code = 17) && getB (truthsR C.ops) x.a)), true, _, _, _, 242, rfl, rfl, rfl, rfl, by kernel_rfl⟩, .inr ⟨13, true, ((decide (x.code = 17) && getB (truthsR C.ops) x.a)), true, _, _, _, 242, rfl, rfl, rfl, rfl, by kernel_rfl⟩, .inl ⟨rfl, rfl⟩, .inl ⟨rfl, rfl⟩, .inr ⟨17, true, (((decide (x.code = 17) && getB (truthsR C.ops) x.a) && constB z 1)), true, _, _, _, 246, rfl, rfl, rfl, rfl, by kernel_rfl⟩, .inr ⟨17, true, (((decide (x.code = 17) && getB (truthsR C.ops) x.a) && constB z 1)), true, _, _, _, 246, rfl, rfl, rfl, rfl, by kernel_rfl⟩, .inl ⟨rfl, rfl⟩, .inl ⟨rfl, rfl⟩, trivial⟩ (stB_ok) (GStab.of rfl ?_) (BsB.of hB8 rfl) (fun h => h.drew) ?_ ?_; rotate_left 18
          ·skip
           refine zJ ?_;refine zJ ?_;refine zJ ?_;refine zJ ?_;refine zJ ?_;refine zJ ?_;refine zU ?_;refine zU ?_;refine zU ?_;refine zU ?_;refine zU ?_;refine zU ?_;refine zJ ?_;refine zU ?_;refine zU ?_;refine zU ?_;refine zJ ?_;refine zU ?_;refine zU ?_;refine zU ?_;refine zJ ?_;refine jn jI ?_;exact q4
          ·refine zp ?_ ?_
           ·intro wq hq hzq
            refine zk ?_
            refine zN (zh qs rfl) ?_; first | exact rfl | rfl
           refine zp ?_ ?_
           ·intro wq hq hzq
            refine zI rfl rfl rfl (zk ?_)
            refine zN (zi ((hB10.chg hq.1 ne_b10_8)) isAgg3 rfl rfl) ?_; first | exact rfl | rfl
           refine zp ?_ ?_
           ·intro wq hq hzq
            refine zI rfl rfl rfl (zk ?_)
            refine zN (qK jf rfl rfl ) ?_; first | exact rfl | rfl
           refine zp ?_ ?_
           ·intro wq hq hzq
            refine zk ?_
            refine zN (zh qc rfl) ?_; first | exact rfl | rfl
           refine zp ?_ ?_
           ·intro wq hq hzq
            refine zI rfl rfl rfl (zk ?_)
            refine zN (zi ((hB10.chg hq.1 ne_b10_8)) isAgg5 rfl rfl) ?_; first | exact rfl | rfl
           refine zp ?_ ?_
           ·intro wq hq hzq
            refine zI rfl rfl rfl (zk ?_)
            refine zN (zO rfl rfl) ?_; first | exact rfl | rfl
           refine zp ?_ ?_
           ·intro wq hq hzq
            refine zI rfl rfl rfl (zk ?_)
            refine z3 (zf rfl) rfl ?_; first | exact rfl | rfl
           refine zY ?_ ?_
           ·intro hon wq hq hzq
            replace hon : (true && ((decide (x.code = 17)) == true)) = true := hon;refine zk ?_
            refine z3 (zf rfl) hon ?_; first | exact rfl | rfl
           refine zY ?_ ?_
           ·intro hon wq hq hzq
            replace hon : (true && ((decide (x.code = 17)) == true)) = true := hon;refine zk ?_
            refine z3 (zh qs rfl) hon ?_; first | exact rfl | rfl
           refine zY ?_ ?_
           ·intro hon wq hq hzq
            replace hon : (true && ((decide (x.code = 17)) == true)) = true := hon;refine z6 rfl rfl rfl hon ?_; intro _;refine zk ?_
            refine z3 (zi ((hB10.chg hq.1 ne_b10_8)) isAgg3 rfl rfl) hon ?_; first | exact rfl | rfl
           refine zY ?_ ?_
           ·intro hon wq hq hzq
            replace hon : (true && ((decide (x.code = 17)) == true)) = true := hon;refine z6 rfl rfl rfl hon ?_; intro _;refine z6 rfl rfl rfl hon ?_; intro _;refine zk ?_
            refine z3 (qt (hT.chg hq.1 ne_hT_b8) zU54 sizeOf4 rfl rfl xa0 (by rw [hltr]; exact xa1)) hon ?_; first | exact rfl | rfl
           refine zY ?_ ?_
           ·intro hon wq hq hzq
            replace hon : (true && ((decide (x.code = 17)) == true)) = true := hon;refine z6 rfl rfl rfl hon ?_; intro _;refine zk ?_
            refine z3 (qd isAgg4 rfl (((hT.chg hq.1 ne_hT_b8).cells _ _ hta).cell 0 rfl)) hon ?_; first | exact rfl | rfl
           refine zp ?_ ?_
           ·intro wq hq hzq
            refine z6 rfl rfl rfl rfl ?_; intro _;refine qT rfl rfl rfl ?_; intro _;refine zk ?_
            refine zN (jy rfl rfl (fun h => jv rfl h)) ?_; first | exact rfl | rfl
           refine zp ?_ ?_
           ·intro wq hq hzq
            refine zI rfl rfl rfl (zk ?_)
            refine z3 (zf rfl) rfl ?_; first | exact rfl | rfl
           refine zY ?_ ?_
           ·intro hon wq hq hzq
            replace hon : (true && (((decide (x.code = 17) && getB (truthsR C.ops) x.a)) == true)) = true := hon;refine zk ?_
            first | (refine z3 (zC ((hB12.chg hq.1 ne_b12_8)) isAgg76 sizeOf76 rfl rfl) hon ?_; first | exact rfl | rfl) | (refine z3 (zD ((hB12.chg hq.1 ne_b12_8)) isAgg76 sizeOf76 rfl rfl rfl) hon ?_; first | exact rfl | rfl)
           refine zY ?_ ?_
           ·intro hon wq hq hzq
            replace hon : (true && (((decide (x.code = 17) && getB (truthsR C.ops) x.a)) == true)) = true := hon;refine z6 rfl rfl rfl hon ?_; intro _;refine zk ?_
            refine j9 rfl call65 (f65_c _ _ _) hon ?_; first | exact rfl | rfl
           refine zp ?_ ?_
           ·intro wq hq hzq
            refine z6 rfl rfl rfl rfl ?_; intro _;refine qT rfl rfl rfl ?_; intro _;refine zk ?_
            refine zN (jy rfl rfl (fun h => jv rfl h)) ?_; first | exact rfl | rfl
           refine zp ?_ ?_
           ·intro wq hq hzq
            refine zI rfl rfl rfl (zk ?_)
            refine z3 (zf rfl) rfl ?_; first | exact rfl | rfl
           refine zY ?_ ?_
           ·intro hon wq hq hzq
            replace hon : (true && ((((decide (x.code = 17) && getB (truthsR C.ops) x.a) && constB z 1)) == true)) = true := hon;refine zk ?_
            first | (refine z3 (zC ((hB13.chg hq.1 ne_b13_8)) isAgg76 sizeOf76 rfl rfl) hon ?_; first | exact rfl | rfl) | (refine z3 (zD ((hB13.chg hq.1 ne_b13_8)) isAgg76 sizeOf76 rfl rfl rfl) hon ?_; first | exact rfl | rfl)
           refine zY ?_ ?_
           ·intro hon wq hq hzq
            replace hon : (true && ((((decide (x.code = 17) && getB (truthsR C.ops) x.a) && constB z 1)) == true)) = true := hon;refine z6 rfl rfl rfl hon ?_; intro _;refine zk ?_
            refine j9 rfl call65 (f65_c _ _ _) hon ?_; first | exact rfl | rfl
           refine zp ?_ ?_
           ·intro wq hq hzq
            refine z6 rfl rfl rfl rfl ?_; intro _;refine qT rfl rfl rfl ?_; intro _;refine zk ?_
            refine zN (jy rfl rfl (fun h => jv rfl h)) ?_; first | exact rfl | rfl
           refine zp ?_ ?_
           ·intro wq hq hzq
            refine zI rfl rfl rfl (zk ?_);exact jZ hq.2 rfl rfl rfl rfl sizeOf95 rfl rfl
           exact qW
          ·intro wa29 hba29 hzz29
           refine zG rfl (zG rfl (zG rfl (zG rfl (zG rfl (zG rfl (zW rfl ?_)))))); intro _;refine zW rfl ?_; intro _;refine zW rfl ?_; intro _;refine zW rfl ?_; intro _;refine zW rfl ?_; intro _;refine zW rfl ?_; intro _;refine zG rfl (zW rfl ?_); intro _;refine zW rfl ?_; intro _;refine zW rfl ?_; intro _;refine zG rfl (zW rfl ?_); intro _;refine zW rfl ?_; intro _;refine zW rfl ?_; intro _;refine zG rfl (jC rfl ?_); intro hs29x21 _; replace hs29x21 := id hs29x21;refine qZ ?_
           simp only [List.drop_succ_cons, List.drop_zero]
           replace hb0 := bchg hb0 hba29.1 hle8;refine SQ (ze rfl) ?_;refine zd ?_;refine zb ?_;refine zu ?_;refine zt ?_;refine zl ?_;refine qa rfl rfl (.cellW rfl (hs29x21) isAgg95 sizeOf95 rfl) (.tmp rfl) ?_;exact ⟨by rw [tryX, if_neg (by omega), if_neg (by omega), if_neg (by omega), if_neg (by omega), if_neg (by omega), if_neg (by omega), if_neg (by omega), if_pos (by omega)]; rfl, hb0⟩
         ·intro g227
          try simp only [dd] at g227
          refine zg (za (SQ (zO rfl rfl) (SQ (ze rfl) (zd (zb ?_)))));refine zw rfl ?_ ?_
          ·intro g250
           try simp only [dd] at g250
           refine zg ?_;refine jW 16 [[], [0], [1], [2], [], [4], [5], [6], [], [8], [7, 9], [10], [], [12], [11, 13], [3]] [StBE b8 95 6] (BsB b8 95 6 wm42) [gdet [] ?a31_0n19, gdet [0] ?a31_1n19, gdet [1] ?a31_2n19, gdet [2] ?a31_3n19, gdet [] ?a31_4n19, gdet [4] ?a31_5n19, gdet [5] ?a31_6n19, gop true [6] (.bool (decide (x.code = 17))), gop (true && ((decide (x.code = 17)) == true)) [] ?a31_8n19, gop (true && ((decide (x.code = 17)) == true)) [8] ?a31_9n19, gdet [7, 9] ?a31_10n19, gop true [10] (.bool ((decide (x.code = 17) && constB z 0))), gop (true && (((decide (x.code = 17) && constB z 0)) == true)) [] ?a31_12n19, gop (true && (((decide (x.code = 17) && constB z 0)) == true)) [12] ?a31_13n19, gdet [11, 13] ?a31_14n19, gst 0 [3] (fun _ w => Blk w b8 (encD ⟨true, -1, ⟨6, x.a, 0, 0, 0⟩⟩) 95)] mixed (by kernel_rfl) rfl ⟨.inl ⟨rfl, rfl⟩, .inl ⟨rfl, rfl⟩, .inl ⟨rfl, rfl⟩, .inl ⟨rfl, rfl⟩, .inl ⟨rfl, rfl⟩, .inl ⟨rfl, rfl⟩, .inl ⟨rfl, rfl⟩, .inl ⟨rfl, rfl⟩, .inr ⟨7, true, (decide (x.code = 17)), true, _, _, _, 259, rfl, rfl, rfl, rfl, by kernel_rfl⟩, .inr ⟨7, true, (decide (x.code = 17)), true, _, _, _, 259, rfl, rfl, rfl, rfl, by kernel_rfl⟩, .inl ⟨rfl, rfl⟩, .inl ⟨rfl, rfl⟩, .inr ⟨11, true, ((decide (x.code = 17) && constB z 0)), true, _, _, _, 263, rfl, rfl, rfl, rfl, by kernel_rfl⟩, .inr ⟨11, true, ((decide (x.code = 17) && constB z 0)), true, _, _, _, 263, rfl, rfl, rfl, rfl, by kernel_rfl⟩, .inl ⟨rfl, rfl⟩, .inl ⟨rfl, rfl⟩, trivial⟩ (stB_ok) (GStab.of rfl ?_) (BsB.of hB8 rfl) (fun h => h.drew) ?_ ?_; rotate_left 13
           ·skip
            refine zJ ?_;refine zJ ?_;refine zJ ?_;refine zJ ?_;refine zJ ?_;refine zJ ?_;refine zJ ?_;refine zU ?_;refine zU ?_;refine zU ?_;refine zJ ?_;refine zU ?_;refine zU ?_;refine zU ?_;refine zJ ?_;refine jn jI ?_;exact q4
           ·refine zp ?_ ?_
            ·intro wq hq hzq
             refine zk ?_
             refine zN (zh qs rfl) ?_; first | exact rfl | rfl
            refine zp ?_ ?_
            ·intro wq hq hzq
             refine zI rfl rfl rfl (zk ?_)
             refine zN (zi ((hB10.chg hq.1 ne_b10_8)) isAgg3 rfl rfl) ?_; first | exact rfl | rfl
            refine zp ?_ ?_
            ·intro wq hq hzq
             refine zI rfl rfl rfl (zk ?_)
             refine zN (qA build76_0_1 rfl rfl rfl rfl ) ?_; first | exact rfl | rfl
            refine zp ?_ ?_
            ·intro wq hq hzq
             refine zI rfl rfl rfl (zk ?_)
             refine zN (jO (Zc (-1) ⟨6, x.a, 0, 0, 0⟩) rfl) ?_; first | exact rfl | rfl
            refine zp ?_ ?_
            ·intro wq hq hzq
             refine zk ?_
             refine zN (zh qc rfl) ?_; first | exact rfl | rfl
            refine zp ?_ ?_
            ·intro wq hq hzq
             refine zI rfl rfl rfl (zk ?_)
             refine zN (zi ((hB10.chg hq.1 ne_b10_8)) isAgg5 rfl rfl) ?_; first | exact rfl | rfl
            refine zp ?_ ?_
            ·intro wq hq hzq
             refine zI rfl rfl rfl (zk ?_)
             refine zN (zO rfl rfl) ?_; first | exact rfl | rfl
            refine zp ?_ ?_
            ·intro wq hq hzq
             refine zI rfl rfl rfl (zk ?_)
             refine z3 (zf rfl) rfl ?_; first | exact rfl | rfl
            refine zY ?_ ?_
            ·intro hon wq hq hzq
             replace hon : (true && ((decide (x.code = 17)) == true)) = true := hon;refine zk ?_
             first | (refine z3 (zC ((hB12.chg hq.1 ne_b12_8)) isAgg76 sizeOf76 rfl rfl) hon ?_; first | exact rfl | rfl) | (refine z3 (zD ((hB12.chg hq.1 ne_b12_8)) isAgg76 sizeOf76 rfl rfl rfl) hon ?_; first | exact rfl | rfl)
            refine zY ?_ ?_
            ·intro hon wq hq hzq
             replace hon : (true && ((decide (x.code = 17)) == true)) = true := hon;refine z6 rfl rfl rfl hon ?_; intro _;refine zk ?_
             refine j9 rfl call65 (f65_c _ _ _) hon ?_; first | exact rfl | rfl
            refine zp ?_ ?_
            ·intro wq hq hzq
             refine z6 rfl rfl rfl rfl ?_; intro _;refine qT rfl rfl rfl ?_; intro _;refine zk ?_
             refine zN (jy rfl rfl (fun h => jv rfl h)) ?_; first | exact rfl | rfl
            refine zp ?_ ?_
            ·intro wq hq hzq
             refine zI rfl rfl rfl (zk ?_)
             refine z3 (zf rfl) rfl ?_; first | exact rfl | rfl
            refine zY ?_ ?_
            ·intro hon wq hq hzq
             replace hon : (true && (((decide (x.code = 17) && constB z 0)) == true)) = true := hon;refine zk ?_
             first | (refine z3 (zC ((hB13.chg hq.1 ne_b13_8)) isAgg76 sizeOf76 rfl rfl) hon ?_; first | exact rfl | rfl) | (refine z3 (zD ((hB13.chg hq.1 ne_b13_8)) isAgg76 sizeOf76 rfl rfl rfl) hon ?_; first | exact rfl | rfl)
            refine zY ?_ ?_
            ·intro hon wq hq hzq
             replace hon : (true && (((decide (x.code = 17) && constB z 0)) == true)) = true := hon;refine z6 rfl rfl rfl hon ?_; intro _;refine zk ?_
             refine j9 rfl call65 (f65_c _ _ _) hon ?_; first | exact rfl | rfl
            refine zp ?_ ?_
            ·intro wq hq hzq
             refine z6 rfl rfl rfl rfl ?_; intro _;refine qT rfl rfl rfl ?_; intro _;refine zk ?_
             refine zN (jy rfl rfl (fun h => jv rfl h)) ?_; first | exact rfl | rfl
            refine zp ?_ ?_
            ·intro wq hq hzq
             refine zI rfl rfl rfl (zk ?_);exact jZ hq.2 rfl rfl rfl rfl sizeOf95 rfl rfl
            exact qW
           ·intro wa31 hba31 hzz31
            refine zG rfl (zG rfl (zG rfl (zG rfl (zG rfl (zG rfl (zG rfl (zW rfl ?_))))))); intro _;refine zW rfl ?_; intro _;refine zW rfl ?_; intro _;refine zG rfl (zW rfl ?_); intro _;refine zW rfl ?_; intro _;refine zW rfl ?_; intro _;refine zG rfl (jC rfl ?_); intro hs31x15 _; replace hs31x15 := id hs31x15;refine qZ ?_
            simp only [List.drop_succ_cons, List.drop_zero]
            replace hb0 := bchg hb0 hba31.1 hle8;refine SQ (ze rfl) ?_;refine zd ?_;refine zb ?_;refine zu ?_;refine zt ?_;refine zl ?_;refine qa rfl rfl (.cellW rfl (hs31x15) isAgg95 sizeOf95 rfl) (.tmp rfl) ?_;exact ⟨by rw [tryX, if_neg (by omega), if_neg (by omega), if_neg (by omega), if_neg (by omega), if_neg (by omega), if_neg (by omega), if_neg (by omega), if_neg (by omega), if_pos (by omega)]; rfl, hb0⟩
          ·intro g250
           try simp only [dd] at g250
           refine zg (za (SQ (zO rfl rfl) (SQ (ze rfl) (zd (zb ?_)))));refine zw rfl ?_ ?_
           ·intro g267
            try simp only [dd] at g267
            refine zg ?_;refine jW 26 [[], [0], [1], [], [3], [], [5], [4, 6], [7], [], [9], [10], [11], [], [13], [14], [15], [], [], [18], [17, 19], [20], [16, 21], [12, 22], [8, 23], [2]] [StBE b8 95 6] (BsB b8 95 6 wm42) [gdet [] ?a33_0n20, gdet [0] ?a33_1n20, gdet [1] ?a33_2n20, gdet [] ?a33_3n20, gdet [3] ?a33_4n20, gdet [] ?a33_5n20, gdet [5] ?a33_6n20, gdet [4, 6] ?a33_7n20, gop true [7] (.bool (decide (x.a = x.b))), gop (true && ((decide (x.a = x.b)) == true)) [] ?a33_9n20, gop (true && ((decide (x.a = x.b)) == true)) [9] ?a33_10n20, gop (true && ((decide (x.a = x.b)) == true)) [10] ?a33_11n20, gop (true && ((decide (x.a = x.b)) == true)) [11] (.bool (decide (x.code = 15))), gop ((true && ((decide (x.a = x.b)) == true)) && ((decide (x.code = 15)) == false)) [] ?a33_13n20, gop ((true && ((decide (x.a = x.b)) == true)) && ((decide (x.code = 15)) == false)) [13] ?a33_14n20, gop ((true && ((decide (x.a = x.b)) == true)) && ((decide (x.code = 15)) == false)) [14] ?a33_15n20, gop ((true && ((decide (x.a = x.b)) == true)) && ((decide (x.code = 15)) == false)) [15] (.bool (decide (x.code = 16))), gop (((true && ((decide (x.a = x.b)) == true)) && ((decide (x.code = 15)) == false)) && ((decide (x.code = 16)) == true)) [] ?a33_17n20, gop (((true && ((decide (x.a = x.b)) == true)) && ((decide (x.code = 15)) == false)) && ((decide (x.code = 16)) == true)) [] ?a33_18n20, gop (((true && ((decide (x.a = x.b)) == true)) && ((decide (x.code = 15)) == false)) && ((decide (x.code = 16)) == true)) [18] ?a33_19n20, gop (((true && ((decide (x.a = x.b)) == true)) && ((decide (x.code = 15)) == false)) && ((decide (x.code = 16)) == true)) [17, 19] ?a33_20n20, gop (((true && ((decide (x.a = x.b)) == true)) && ((decide (x.code = 15)) == false)) && ((decide (x.code = 16)) == true)) [20] ?a33_21n20, gop ((true && ((decide (x.a = x.b)) == true)) && ((decide (x.code = 15)) == false)) [16, 21] ?a33_22n20, gop (true && ((decide (x.a = x.b)) == true)) [12, 22] ?a33_23n20, gdet [8, 23] ?a33_24n20, gst 0 [2] (fun _ w => Blk w b8 (encD ⟨true, x.a, o0⟩) 95)] mixed (by kernel_rfl) rfl ⟨.inl ⟨rfl, rfl⟩, .inl ⟨rfl, rfl⟩, .inl ⟨rfl, rfl⟩, .inl ⟨rfl, rfl⟩, .inl ⟨rfl, rfl⟩, .inl ⟨rfl, rfl⟩, .inl ⟨rfl, rfl⟩, .inl ⟨rfl, rfl⟩, .inl ⟨rfl, rfl⟩, .inr ⟨8, true, (decide (x.a = x.b)), true, _, _, _, 277, rfl, rfl, rfl, rfl, by kernel_rfl⟩, .inr ⟨8, true, (decide (x.a = x.b)), true, _, _, _, 277, rfl, rfl, rfl, rfl, by kernel_rfl⟩, .inr ⟨8, true, (decide (x.a = x.b)), true, _, _, _, 277, rfl, rfl, rfl, rfl, by kernel_rfl⟩, .inr ⟨8, true, (decide (x.a = x.b)), true, _, _, _, 277, rfl, rfl, rfl, rfl, by kernel_rfl⟩, .inr ⟨12, false, (decide (x.code = 15)), (true && ((decide (x.a = x.b)) == true)), _, _, _, 281, rfl, rfl, rfl, rfl, by kernel_rfl⟩, .inr ⟨12, false, (decide (x.code = 15)), (true && ((decide (x.a = x.b)) == true)), _, _, _, 281, rfl, rfl, rfl, rfl, by kernel_rfl⟩, .inr ⟨12, false, (decide (x.code = 15)), (true && ((decide (x.a = x.b)) == true)), _, _, _, 281, rfl, rfl, rfl, rfl, by kernel_rfl⟩, .inr ⟨12, false, (decide (x.code = 15)), (true && ((decide (x.a = x.b)) == true)), _, _, _, 281, rfl, rfl, rfl, rfl, by kernel_rfl⟩, .inr ⟨16, true, (decide (x.code = 16)), ((true && ((decide (x.a = x.b)) == true)) && ((decide (x.code = 15)) == false)), _, _, _, 285, rfl, rfl, rfl, rfl, by kernel_rfl⟩, .inr ⟨16, true, (decide (x.code = 16)), ((true && ((decide (x.a = x.b)) == true)) && ((decide (x.code = 15)) == false)), _, _, _, 285, rfl, rfl, rfl, rfl, by kernel_rfl⟩, .inr ⟨16, true, (decide (x.code = 16)), ((true && ((decide (x.a = x.b)) == true)) && ((decide (x.code = 15)) == false)), _, _, _, 285, rfl, rfl, rfl, rfl, by kernel_rfl⟩, .inr ⟨16, true, (decide (x.code = 16)), ((true && ((decide (x.a = x.b)) == true)) && ((decide (x.code = 15)) == false)), _, _, _, 285, rfl, rfl, rfl, rfl, by kernel_rfl⟩, .inr ⟨16, true, (decide (x.code = 16)), ((true && ((decide (x.a = x.b)) == true)) && ((decide (x.code = 15)) == false)), _, _, _, 285, rfl, rfl, rfl, rfl, by kernel_rfl⟩, .inr ⟨12, false, (decide (x.code = 15)), (true && ((decide (x.a = x.b)) == true)), _, _, _, 281, rfl, rfl, rfl, rfl, by kernel_rfl⟩, .inr ⟨8, true, (decide (x.a = x.b)), true, _, _, _, 277, rfl, rfl, rfl, rfl, by kernel_rfl⟩, .inl ⟨rfl, rfl⟩, .inl ⟨rfl, rfl⟩, trivial⟩ (stB_ok) (GStab.of rfl ?_) (BsB.of hB8 rfl) (fun h => h.drew) ?_ ?_; rotate_left 22
            ·skip
             refine zJ ?_;refine zJ ?_;refine zJ ?_;refine zJ ?_;refine zJ ?_;refine zJ ?_;refine zJ ?_;refine zJ ?_;refine zU ?_;refine zU ?_;refine zU ?_;refine zU ?_;refine zU ?_;refine zU ?_;refine zU ?_;refine zU ?_;refine zU ?_;refine zU ?_;refine zU ?_;refine zU ?_;refine zU ?_;refine zU ?_;refine zU ?_;refine zU ?_;refine zJ ?_;refine jn jI ?_;exact q4
            ·refine zp ?_ ?_
             ·intro wq hq hzq
              refine zk ?_
              refine zN (zh qs rfl) ?_; first | exact rfl | rfl
             refine zp ?_ ?_
             ·intro wq hq hzq
              refine zI rfl rfl rfl (zk ?_)
              refine zN (zi ((hB10.chg hq.1 ne_b10_8)) isAgg3 rfl rfl) ?_; first | exact rfl | rfl
             refine zp ?_ ?_
             ·intro wq hq hzq
              refine zI rfl rfl rfl (zk ?_)
              refine zN (qK jf rfl rfl ) ?_; first | exact rfl | rfl
             refine zp ?_ ?_
             ·intro wq hq hzq
              refine zk ?_
              refine zN (zh qs rfl) ?_; first | exact rfl | rfl
             refine zp ?_ ?_
             ·intro wq hq hzq
              refine zI rfl rfl rfl (zk ?_)
              refine zN (zi ((hB10.chg hq.1 ne_b10_8)) isAgg3 rfl rfl) ?_; first | exact rfl | rfl
             refine zp ?_ ?_
             ·intro wq hq hzq
              refine zk ?_
              refine zN (zh qE rfl) ?_; first | exact rfl | rfl
             refine zp ?_ ?_
             ·intro wq hq hzq
              refine zI rfl rfl rfl (zk ?_)
              refine zN (zi ((hB10.chg hq.1 ne_b10_8)) isAgg3 rfl rfl) ?_; first | exact rfl | rfl
             refine zp ?_ ?_
             ·intro wq hq hzq
              refine zI rfl rfl rfl (zI rfl rfl rfl (zk ?_))
              refine zN (zO rfl rfl) ?_; first | exact rfl | rfl
             refine zp ?_ ?_
             ·intro wq hq hzq
              refine zI rfl rfl rfl (zk ?_)
              refine z3 (zf rfl) rfl ?_; first | exact rfl | rfl
             refine zY ?_ ?_
             ·intro hon wq hq hzq
              replace hon : (true && ((decide (x.a = x.b)) == true)) = true := hon;refine zk ?_
              refine z3 (zh qc rfl) hon ?_; first | exact rfl | rfl
             refine zY ?_ ?_
             ·intro hon wq hq hzq
              replace hon : (true && ((decide (x.a = x.b)) == true)) = true := hon;refine z6 rfl rfl rfl hon ?_; intro _;refine zk ?_
              refine z3 (zi ((hB10.chg hq.1 ne_b10_8)) isAgg5 rfl rfl) hon ?_; first | exact rfl | rfl
             refine zY ?_ ?_
             ·intro hon wq hq hzq
              replace hon : (true && ((decide (x.a = x.b)) == true)) = true := hon;refine z6 rfl rfl rfl hon ?_; intro _;refine zk ?_
              refine z3 (zO rfl rfl) hon ?_; first | exact rfl | rfl
             refine zY ?_ ?_
             ·intro hon wq hq hzq
              replace hon : (true && ((decide (x.a = x.b)) == true)) = true := hon;refine z6 rfl rfl rfl hon ?_; intro _;refine zk ?_
              refine z3 (zf rfl) hon ?_; first | exact rfl | rfl
             refine zY ?_ ?_
             ·intro hon wq hq hzq
              replace hon : ((true && ((decide (x.a = x.b)) == true)) && ((decide (x.code = 15)) == false)) = true := hon;refine zk ?_
              refine z3 (zh qc rfl) hon ?_; first | exact rfl | rfl
             refine zY ?_ ?_
             ·intro hon wq hq hzq
              replace hon : ((true && ((decide (x.a = x.b)) == true)) && ((decide (x.code = 15)) == false)) = true := hon;refine z6 rfl rfl rfl hon ?_; intro _;refine zk ?_
              refine z3 (zi ((hB10.chg hq.1 ne_b10_8)) isAgg5 rfl rfl) hon ?_; first | exact rfl | rfl
             refine zY ?_ ?_
             ·intro hon wq hq hzq
              replace hon : ((true && ((decide (x.a = x.b)) == true)) && ((decide (x.code = 15)) == false)) = true := hon;refine z6 rfl rfl rfl hon ?_; intro _;refine zk ?_
              refine z3 (zO rfl rfl) hon ?_; first | exact rfl | rfl
             refine zY ?_ ?_
             ·intro hon wq hq hzq
              replace hon : ((true && ((decide (x.a = x.b)) == true)) && ((decide (x.code = 15)) == false)) = true := hon;refine z6 rfl rfl rfl hon ?_; intro _;refine zk ?_
              refine z3 (zf rfl) hon ?_; first | exact rfl | rfl
             refine zY ?_ ?_
             ·intro hon wq hq hzq
              replace hon : (((true && ((decide (x.a = x.b)) == true)) && ((decide (x.code = 15)) == false)) && ((decide (x.code = 16)) == true)) = true := hon;refine zk ?_
              refine z3 (zf rfl) hon ?_; first | exact rfl | rfl
             refine zY ?_ ?_
             ·intro hon wq hq hzq
              replace hon : (((true && ((decide (x.a = x.b)) == true)) && ((decide (x.code = 15)) == false)) && ((decide (x.code = 16)) == true)) = true := hon;refine zk ?_
              refine z3 (zh qs rfl) hon ?_; first | exact rfl | rfl
             refine zY ?_ ?_
             ·intro hon wq hq hzq
              replace hon : (((true && ((decide (x.a = x.b)) == true)) && ((decide (x.code = 15)) == false)) && ((decide (x.code = 16)) == true)) = true := hon;refine z6 rfl rfl rfl hon ?_; intro _;refine zk ?_
              refine z3 (zi ((hB10.chg hq.1 ne_b10_8)) isAgg3 rfl rfl) hon ?_; first | exact rfl | rfl
             refine zY ?_ ?_
             ·intro hon wq hq hzq
              replace hon : (((true && ((decide (x.a = x.b)) == true)) && ((decide (x.code = 15)) == false)) && ((decide (x.code = 16)) == true)) = true := hon;refine z6 rfl rfl rfl hon ?_; intro _;refine z6 rfl rfl rfl hon ?_; intro _;refine zk ?_
              refine z3 (qt (hT.chg hq.1 ne_hT_b8) zU54 sizeOf4 rfl rfl xa0 (by rw [hltr]; exact xa1)) hon ?_; first | exact rfl | rfl
             refine zY ?_ ?_
             ·intro hon wq hq hzq
              replace hon : (((true && ((decide (x.a = x.b)) == true)) && ((decide (x.code = 15)) == false)) && ((decide (x.code = 16)) == true)) = true := hon;refine z6 rfl rfl rfl hon ?_; intro _;refine zk ?_
              refine z3 (qd isAgg4 rfl (((hT.chg hq.1 ne_hT_b8).cells _ _ hta).cell 0 rfl)) hon ?_; first | exact rfl | rfl
             refine zY ?_ ?_
             ·intro hon wq hq hzq
              replace hon : ((true && ((decide (x.a = x.b)) == true)) && ((decide (x.code = 15)) == false)) = true := hon;refine z6 rfl rfl rfl hon ?_; intro _;refine qT rfl rfl rfl ?_; intro _;refine zk ?_
              refine z3 (jy rfl rfl (fun h => jv hon h)) hon ?_; first | exact rfl | rfl
             refine zY ?_ ?_
             ·intro hon wq hq hzq
              replace hon : (true && ((decide (x.a = x.b)) == true)) = true := hon;refine z6 rfl rfl rfl hon ?_; intro _;refine qT rfl rfl rfl ?_; intro _;refine zk ?_
              refine z3 (Rq_or rfl rfl (fun h => jv hon h)) hon ?_; first | exact rfl | rfl
             refine zp ?_ ?_
             ·intro wq hq hzq
              refine z6 rfl rfl rfl rfl ?_; intro _;refine qT rfl rfl rfl ?_; intro _;refine zk ?_
              refine zN (jy rfl rfl (fun h => jv rfl h)) ?_; first | exact rfl | rfl
             refine zp ?_ ?_
             ·intro wq hq hzq
              refine zI rfl rfl rfl (zk ?_);exact jZ hq.2 rfl rfl rfl rfl sizeOf95 rfl rfl
             exact qW
            ·intro wa33 hba33 hzz33
             refine zG rfl (zG rfl (zG rfl (zG rfl (zG rfl (zG rfl (zG rfl (zG rfl (zW rfl ?_)))))))); intro _;refine zW rfl ?_; intro _;refine zW rfl ?_; intro _;refine zW rfl ?_; intro _;refine zW rfl ?_; intro _;refine zW rfl ?_; intro _;refine zW rfl ?_; intro _;refine zW rfl ?_; intro _;refine zW rfl ?_; intro _;refine zW rfl ?_; intro _;refine zW rfl ?_; intro _;refine zW rfl ?_; intro _;refine zW rfl ?_; intro _;refine zW rfl ?_; intro _;refine zW rfl ?_; intro _;refine zW rfl ?_; intro _;refine zG rfl (jC rfl ?_); intro hs33x25 _; replace hs33x25 := id hs33x25;refine qZ ?_
             simp only [List.drop_succ_cons, List.drop_zero]
             replace hb0 := bchg hb0 hba33.1 hle8;refine SQ (ze rfl) ?_;refine zd ?_;refine zb ?_;refine zu ?_;refine zt ?_;refine zl ?_;refine qa rfl rfl (.cellW rfl (hs33x25) isAgg95 sizeOf95 rfl) (.tmp rfl) ?_;exact ⟨by rw [tryX, if_neg (by omega), if_neg (by omega), if_neg (by omega), if_neg (by omega), if_neg (by omega), if_neg (by omega), if_neg (by omega), if_neg (by omega), if_neg (by omega), if_pos (by omega)]; rfl, hb0⟩
           ·intro g267
            try simp only [dd] at g267
            refine zg (za (SQ (zO rfl rfl) (SQ (ze rfl) (zd (zb ?_)))));refine zw rfl ?_ ?_
            ·intro g294
             try simp only [dd] at g294
             refine zg (za (SQ (ze rfl) (zd (zb (zL ?_)))));refine qo (α := Nat) (fun k => [(15, .int .i64 (k : Nat)), (3, .int .i64 i), (4, .pointer (some ⟨b4, 0, none⟩)), (8, .pointer (some ⟨b8, 0, none⟩)), (10, .pointer (some ⟨b10, 0, none⟩))]) (fun k w' => (k : Int) ≤ i ∧ (∀ (j : Nat) (q : Ot), j < k → C.ops[j]? = some q → decide (q = x) = false) ∧ Below w.heap.size w w' ∧ Blk w' b4 [uC, uO, uR] 26 ∧ Blk w' b8 [.int .i64 0, .int .u8 0, .int .i64 0, .int .i64 0, .int .i64 0, .int .i64 0] 95 ∧ Blk w' b10 (encO x) 76 ∧ SL w' uO 5 encO C.ops) (fun k => i.toNat - k) (0) (by repeat (first | exact Sub.nil | refine Sub.cons rfl ?_)) ⟨by omega, (fun j q h => by omega), hb0, hB4, hB8, hB10, hu2⟩ ?_;clear hb0;clear hB4;clear hB8;clear hB10;clear hB11;clear hB12;clear hB13;clear hu2;clear hT;rintro k wl0 ⟨hki, hno, hbw, hB4, hB8, hB10, hu2⟩;have hb0 := Below.refl wl0.heap.size wl0;clear hb0;have hb0 := hbw;refine zg (zg (za (SQ (zf rfl) (SQ (zf rfl) (SQ (qi rfl rfl) (zd (zb ?_)))))));refine zw rfl ?_ ?_
             ·intro g298
              try simp only [dd] at g298
              refine zH (zb (zg (zL (zg (qQ (mixed) (by kernel_rfl) ?_)))));refine QS_q (zh z1 rfl) rfl (QS_q (zi (hB4) isAgg23 rfl rfl) rfl (QS_q (zf rfl) rfl ?_));refine z8 (hu2) zU23 sizeOf76 rfl rfl ?_ ?_ rfl ?_
              ·first | omega | exact h0 | exact h1
              ·first | omega | exact h0 | exact h1
              intro x304 hx304 hc304;refine QS_q (qg isAgg76 sizeOf76 rfl ((hc304)) rfl) rfl ?_
              first | refine QS_q (zC (hB10) isAgg76 sizeOf76 rfl rfl) rfl ?_ | refine QS_q (zD (hB10) isAgg76 sizeOf76 rfl rfl rfl) rfl ?_
              refine QS_q (Rq_eqlS (fun w => eq76 _ _ w) eg76 rfl rfl) rfl (q9 ?_);intro wr38 hbr38;replace hb0 := btr hb0 hbr38;replace hB4 := hB4.below hbr38;replace hB8 := hB8.below hbr38;replace hB10 := hB10.below hbr38;replace hu2 := hu2.below hbr38;refine zb ?_;refine zw rfl ?_ ?_
              ·intro g307
               try simp only [dd] at g307
               refine zg (za (SQ (zf rfl) (SQ (qK jf rfl rfl ) (zm (hB8) rfl rfl rfl rfl sizeOf95 rfl rfl ?_))));intro ws39x2 hchs39x2 hBs39x2;replace hb0 := bchg hb0 hchs39x2 hle8;clear hc304;clear hB8;refine SQ (ze rfl) (zd (zb (zu (zt (zl (qn ?_))))));refine zt (zt (zl (qa rfl rfl (.cellW rfl (hBs39x2) isAgg95 sizeOf95 rfl) (.tmp rfl) ?_)))
               have hjx : (C.ops.take i.toNat)[k]? = some x304 := by rw [List.getElem?_take, if_pos (by omega)]; exact hx304
               have hid : idx (fun q => decide (q = x)) (C.ops.take i.toNat) = (k : Int) := idx_found (fun j q hj hq => hno j q hj (by rw [List.getElem?_take] at hq; split at hq; exact hq; cases hq)) hjx (by simpa using g307);exact ⟨by rw [tryX, if_neg (by omega), if_neg (by omega), if_neg (by omega), if_neg (by omega), if_neg (by omega), if_neg (by omega), if_neg (by omega), if_neg (by omega), if_neg (by omega), if_neg (by omega), if_pos (by omega), hid, if_neg (by omega)]; rfl, hb0⟩
              ·intro g307
               try simp only [dd] at g307
               refine zH ?_;refine zQ ?_;refine zb ?_;refine za ?_;refine SQ (zf rfl) ?_;refine SQ (qb rfl rfl (zS (by omega) (by omega))) ?_;refine SQ (ze rfl) ?_;refine zd ?_;refine qh (k + 1) (by repeat (first | exact Sub.nil | refine Sub.cons rfl ?_)) ⟨by omega, (fun j q hj hq => by rcases Nat.lt_succ_iff_lt_or_eq.1 hj with h | rfl; exact hno j q h hq; (have e := Option.some.inj (hq.symm.trans hx304); subst e; simpa using g307)), hb0, hB4, hB8, hB10, hu2⟩ (by omega)
             ·intro g298
              try simp only [dd] at g298
              refine qk ?_;refine z0 ?_;refine z9 ?_;refine zX ?_;refine zQ ?_;refine zb ?_;refine zg ?_;refine za ?_;refine SQ (qj build95_) ?_;refine zm (hB8) rfl rfl rfl rfl sizeOf95 rfl rfl ?_;intro ws40x1 hchs40x1 hBs40x1;replace hb0 := bchg hb0 hchs40x1 hle8;clear hB8;refine SQ (ze rfl) ?_;refine zd ?_;refine zb ?_;refine zu ?_;refine qa rfl rfl (.cellW rfl (hBs40x1) isAgg95 sizeOf95 rfl) (.tmp rfl) ?_;have hid : idx (fun q => decide (q = x)) (C.ops.take i.toNat) = -1 := idx_none (fun j q hq => by rw [List.getElem?_take] at hq; split at hq; exact hno j q (by omega) hq; cases hq);exact ⟨by rw [tryX, if_neg (by omega), if_neg (by omega), if_neg (by omega), if_neg (by omega), if_neg (by omega), if_neg (by omega), if_neg (by omega), if_neg (by omega), if_neg (by omega), if_neg (by omega), if_pos (by omega), hid, if_pos (by omega)]; rfl, hb0⟩
            ·intro g294
             try simp only [dd] at g294
             refine zH ?_;refine zQ ?_;refine zb ?_;refine zg ?_;refine za ?_;refine SQ (qj build95_) ?_;refine zm (hB8) rfl rfl rfl rfl sizeOf95 rfl rfl ?_;intro ws40x1 hchs40x1 hBs40x1;replace hb0 := bchg hb0 hchs40x1 hle8;clear hB8;refine SQ (ze rfl) ?_;refine zd ?_;refine zb ?_;refine zu ?_;refine qa rfl rfl (.cellW rfl (hBs40x1) isAgg95 sizeOf95 rfl) (.tmp rfl) ?_;exact ⟨by rw [tryX, if_neg (by omega), if_neg (by omega), if_neg (by omega), if_neg (by omega), if_neg (by omega), if_neg (by omega), if_neg (by omega), if_neg (by omega), if_neg (by omega), if_neg (by omega), if_neg (by omega)]; rfl, hb0⟩
end Go.Proofs.YtphmoebiobjfhaaGreat
