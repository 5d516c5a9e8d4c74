/- Walks of functions, printed by a program of the author. -/
import Derived.Test.YtphmoebiobjfhaaPl
import Derived.Test.YtphmoebiobjfhaaT19
set_option linter.all false
namespace Go.Proofs.Ytphmoebiobjfhaa
open Go Go.Mi Go.RowKit
theorem f8_c {v : Value} {C : Co} {w : World} (hC : CoS w v C) (p1 : C.ch.length ≤ 100000) (p2 : C.ops.length ≤ 100000) (p3 : C.roots.length ≤ 100000) : Mi.Fn Try.prog 8 #[v] w fun u w' => CoW 59 55 3 w.heap.size C u w' 0 0 := by
 obtain ⟨uC, uO, uR, rfl, hu1, hu2, hu3⟩ := hC.ex;have hb0 := Below.refl w.heap.size w;refine calls_of_W Try.func8 rfl Try.ntmps8 rfl ?_;refine W_seq (W_region (SG_box rfl rfl rfl ?_));intro w1 b1 e1 hb1 hz1 hB1
 have hle1 : w.heap.size ≤ b1 := by have := hb0.size; omega
 replace hb0 := btr hb0 hb1;refine SG_alloc Try.zeroValue29 rfl rfl ?_;intro w2 b2 e2 hb2 hz2 hB2
 have hle2 : w.heap.size ≤ b2 := by have := hb0.size; omega
 have ne_b1_2 : ¬ b1 = b2 := by have := hB1.lt; omega
 replace hb0 := btr hb0 hb2;replace hB1 := hB1.below hb2;refine SG_nil ?_;refine D_then ?_;refine W_seq ?_;refine W_any 13 [[], [], [1], [0, 2], [], [], [5], [4, 6], [], [], [9], [8, 10], [3, 7, 11]] [frs [] (Nul w2.heap.size 59 3 encC), det [] ?a1_1n1, det [1] ?a1_2n1, frs [0, 2] (OsV w2.heap.size 59 3 encC C.ch), frs [] (Nul w2.heap.size 55 5 encO), det [] ?a1_5n1, det [5] ?a1_6n1, frs [4, 6] (OsV w2.heap.size 55 5 encO C.ops), frs [] (Nul w2.heap.size 3 1 encI), det [] ?a1_9n1, det [9] ?a1_10n1, frs [8, 10] (OsV w2.heap.size 3 1 encI C.roots), frs [3, 7, 11] (CoW 59 55 3 w2.heap.size C)] Try.mixed (by kernel_rfl) rfl ⟨Nul.stab, det_stab _ _, det_stab _ _, OsV.stab, Nul.stab, det_stab _ _, det_stab _ _, OsV.stab, Nul.stab, det_stab _ _, det_stab _ _, OsV.stab, CoW.stab, trivial⟩ ?_ ?_; rotate_left 6
 ·refine Obls_cons ?_ ?_
  ·intro wq hbq
   refine Obl_nil ?_;exact Ex_bslice0 (by have := hbq.size; omega) valC (fun _ => rfl) (fun _ => rfl) Try.runUnderlying25 Try.sizeOf59 Try.zeroValue59 (by decide)
  refine Obls_cons ?_ ?_
  ·intro wq hbq
   refine Obl_nil ?_
   refine Ex_q2 (Rq_fieldAddr fa29_0 rfl) ?_; first | exact rfl | rfl
  refine Obls_cons ?_ ?_
  ·intro wq hbq
   refine Obl_det rfl rfl (Obl_nil ?_)
   refine Ex_q2 (Rq_loadB ((hB1).below hbq) Try.isAgg25 rfl rfl) ?_; first | exact rfl | rfl
  refine Obls_cons ?_ ?_
  ·intro wq hbq
   refine Obl_frs rfl rfl ?_; intro v3 lo3 hi3 hle3 hR3;refine Obl_det rfl rfl ?_;refine Obl_nil ?_;exact Ex_append0 (by have := hbq.size; omega) Try.underlying25 info59 rfl hR3 (hu1.below (btr hb0 hbq)) (fun _ _ => rfl) (by omega) (by omega) rfl rfl
  refine Obls_cons ?_ ?_
  ·intro wq hbq
   refine Obl_nil ?_;exact Ex_bslice0 (by have := hbq.size; omega) valO (fun _ => rfl) (fun _ => rfl) Try.runUnderlying26 Try.sizeOf55 Try.zeroValue55 (by decide)
  refine Obls_cons ?_ ?_
  ·intro wq hbq
   refine Obl_nil ?_
   refine Ex_q2 (Rq_fieldAddr fa29_1 rfl) ?_; first | exact rfl | rfl
  refine Obls_cons ?_ ?_
  ·intro wq hbq
   refine Obl_det rfl rfl (Obl_nil ?_)
   refine Ex_q2 (Rq_loadB ((hB1).below hbq) Try.isAgg26 rfl rfl) ?_; first | exact rfl | rfl
  refine Obls_cons ?_ ?_
  ·intro wq hbq
   refine Obl_frs rfl rfl ?_; intro v7 lo7 hi7 hle7 hR7;refine Obl_det rfl rfl ?_;refine Obl_nil ?_;exact Ex_append0 (by have := hbq.size; omega) Try.underlying26 info55 rfl hR7 (hu2.below (btr hb0 hbq)) (fun _ _ => rfl) (by omega) (by omega) rfl rfl
  refine Obls_cons ?_ ?_
  ·intro wq hbq
   refine Obl_nil ?_;exact Ex_bslice0 (by have := hbq.size; omega) valI (fun _ => rfl) (fun _ => rfl) Try.runUnderlying27 Try.sizeOf3 Try.zeroValue3 (by decide)
  refine Obls_cons ?_ ?_
  ·intro wq hbq
   refine Obl_nil ?_
   refine Ex_q2 (Rq_fieldAddr fa29_2 rfl) ?_; first | exact rfl | rfl
  refine Obls_cons ?_ ?_
  ·intro wq hbq
   refine Obl_det rfl rfl (Obl_nil ?_)
   refine Ex_q2 (Rq_loadB ((hB1).below hbq) Try.isAgg27 rfl rfl) ?_; first | exact rfl | rfl
  refine Obls_cons ?_ ?_
  ·intro wq hbq
   refine Obl_frs rfl rfl ?_; intro v11 lo11 hi11 hle11 hR11;refine Obl_det rfl rfl ?_;refine Obl_nil ?_;exact Ex_append0 (by have := hbq.size; omega) Try.underlying27 info3 rfl hR11 (hu3.below (btr hb0 hbq)) (fun _ _ => rfl) (by omega) (by omega) rfl rfl
  refine Obls_cons ?_ ?_
  ·intro wq hbq
   refine Obl_frs rfl rfl ?_; intro v6 lo6 hi6 hle6 hR6;refine Obl_frs rfl rfl ?_; intro v10 lo10 hi10 hle10 hR10;refine Obl_frs rfl rfl ?_; intro v14 lo14 hi14 hle14 hR14;refine Obl_nil ?_;obtain ⟨g1, a1, n1, c1, rfl⟩ := hR6; obtain ⟨g2, a2, n2, c2, rfl⟩ := hR10; obtain ⟨g3, a3, n3, c3, rfl⟩ := hR14;exact Ex_qR (Rq_build3 build29_0_1_2 rfl rfl rfl rfl rfl rfl) (fun _ _ => ⟨a1, n1, c1, a2, n2, c2, a3, n3, c3, rfl, g1, g2, g3⟩)
  exact Obls_nil
 ·intro wa1 hba1
  replace hb0 := btr hb0 hba1;replace hB2 := hB2.below hba1;refine Fin_frs rfl ?_; intro v3 lo3 hi3 hR3 hlB3 hlh3 hhw3 hdj3;refine Fin_det rfl (Fin_det rfl (Fin_frs rfl ?_)); intro v6 lo6 hi6 hR6 hlB6 hlh6 hhw6 hdj6;refine Fin_frs rfl ?_; intro v7 lo7 hi7 hR7 hlB7 hlh7 hhw7 hdj7;refine Fin_det rfl (Fin_det rfl (Fin_frs rfl ?_)); intro v10 lo10 hi10 hR10 hlB10 hlh10 hhw10 hdj10;refine Fin_frs rfl ?_; intro v11 lo11 hi11 hR11 hlB11 hlh11 hhw11 hdj11;refine Fin_det rfl (Fin_det rfl (Fin_frs rfl ?_)); intro v14 lo14 hi14 hR14 hlB14 hlh14 hhw14 hdj14;refine Fin_frs rfl ?_; intro v15 lo15 hi15 hR15 hlB15 hlh15 hhw15 hdj15;refine Fin_nil ?_
  simp only [List.drop_succ_cons, List.drop_zero]
  obtain ⟨a1, n1, c1, a2, n2, c2, a3, n3, c3, rfl, hs1, hs2, hs3⟩ := hR15
  have ne_hs1_b2 : ∀ k, Value.ownBlock (.slice a1 n1 c1) = some k → ¬ k = b2 := fun k e => by have := (hs1.lt e).1; omega
  have ne_hs2_b2 : ∀ k, Value.ownBlock (.slice a2 n2 c2) = some k → ¬ k = b2 := fun k e => by have := (hs2.lt e).1; omega
  have ne_hs3_b2 : ∀ k, Value.ownBlock (.slice a3 n3 c3) = some k → ¬ k = b2 := fun k e => by have := (hs3.lt e).1; omega
  refine SG_storeW (hB2) rfl rfl rfl rfl Try.sizeOf29 rfl rfl ?_;intro ws1x13 hchs1x13 hBs1x13;replace hb0 := bchg hb0 hchs1x13 hle2;replace hs1 := hs1.chg hchs1x13 (fun k e e2 => by first | exact ne_hs1_b2 k e e2 | (have := hs1.lt e; have := ne_hs1_b2; omega));replace hs2 := hs2.chg hchs1x13 (fun k e e2 => by first | exact ne_hs2_b2 k e e2 | (have := hs2.lt e; have := ne_hs2_b2; omega));replace hs3 := hs3.chg hchs1x13 (fun k e e2 => by first | exact ne_hs3_b2 k e e2 | (have := hs3.lt e; have := ne_hs3_b2; omega));clear hB2;refine SG_nil ?_;refine D_then ?_;refine W_ret ?_;refine D_bodyR1 rfl rfl (.cellW rfl (hBs1x13) Try.isAgg29 Try.sizeOf29 rfl) ?_;have hz := (btr hb1 hb2).size;exact ⟨_, rfl, hb0, a1, n1, c1, a2, n2, c2, a3, n3, c3, rfl, hs1.le hz, hs2.le hz, hs3.le hz⟩
theorem f10_c {v : Value} {C : Co} {w : World} (hC : CoS w v C) (hck : checkR C = 0) : Pure Try.prog 10 #[v] w (.int .i64 (refsR C)) := by
 obtain ⟨uC, uO, uR, rfl, hu1, hu2, hu3⟩ := hC.ex;obtain ⟨hlen, hrts, hops⟩ := check_ok hck;have hb0 := Below.refl w.heap.size w;refine calls_of_W Try.func10 rfl Try.ntmps10 rfl ?_;refine W_seq (W_region (SG_box rfl rfl rfl ?_));intro w1 b1 e1 hb1 hz1 hB1
 have hle1 : w.heap.size ≤ b1 := by have := hb0.size; omega
 replace hb0 := btr hb0 hb1;refine SG_q (Rq_assign rfl) rfl (SG_nil (D_then (W_seq (W_region (SG_q (Rq_assign rfl) rfl (SG_nil (D_then (W_seq (W_seq (W_region (SG_q (Rq_assign rfl) rfl (SG_nil (D_then (W_block ?_))))))))))))));refine W_loop (α := Nat × Int) (fun x => [(4, .int .i64 (x.1 : Nat)), (3, .int .i64 x.2), (1, .pointer (some ⟨b1, 0, none⟩))]) (fun x w' => Below w.heap.size w w' ∧ (x.1 ≤ C.ops.length ∧ x.2 = osum C.ops x.1) ∧ Blk w' b1 [uC, uO, uR] 29) (fun x => C.ops.length - x.1) ((0, 0)) (by repeat (first | exact Sub.nil | refine Sub.cons rfl ?_)) ⟨hb0, ⟨Nat.zero_le _, rfl⟩, hB1⟩ ?_;clear hb0;clear hB1;rintro x wl0 ⟨hb0, ⟨hxi, hxs⟩, hB1⟩;refine W_seq (W_seq (W_region (SG_q (Rq_move rfl) rfl (SG_q (Rq_fieldAddr fa29_1 rfl) rfl (SG_q (Rq_loadB (hB1) Try.isAgg26 rfl rfl) rfl ?_)))))
 first | refine SG_q (Rq_len ((hu1).below hb0) Try.runUnderlying26 rfl) rfl ?_ | refine SG_q (Rq_len ((hu2).below hb0) Try.runUnderlying26 rfl) rfl ?_ | refine SG_q (Rq_len ((hu3).below hb0) Try.runUnderlying26 rfl) rfl ?_
 refine SG_q (Rq_lss rfl rfl) rfl (SG_nil (D_then ?_));refine W_cond rfl ?_ ?_
 ·intro g11
  try simp only [dd] at g11
  obtain ⟨y, hy⟩ : ∃ y, C.ops[x.1]? = some y := ⟨_, List.getElem?_eq_getElem (show x.1 < C.ops.length by omega)⟩
  obtain ⟨⟨c1, c2, _⟩, ya, yb, yc, _⟩ := opnd_iff.1 (hops _ _ hy);have hcase := arN_case c1 c2;have hsm := opsum_code c1 c2;have hp1 := refs_part hck x.1 0; have hp2 := refs_part hck (x.1 + 1) 0; have hp3 : rsum C.roots 0 = 0 := rfl;rw [osum_succ hy] at hp2;refine W_skip (D_then (W_seq (W_block (W_seq (W_region (SG_q (Rq_fieldAddr fa29_1 rfl) rfl (SG_q (Rq_loadB (hB1) Try.isAgg26 rfl rfl) rfl (SG_q (Rq_move rfl) rfl ?_))))))))
  first | refine SG_index ((hu1).below hb0) Try.runUnderlying26 Try.sizeOf55 rfl rfl ?_ ?_ rfl ?_ | refine SG_index ((hu2).below hb0) Try.runUnderlying26 Try.sizeOf55 rfl rfl ?_ ?_ rfl ?_ | refine SG_index ((hu3).below hb0) Try.runUnderlying26 Try.sizeOf55 rfl rfl ?_ ?_ rfl ?_
  ·omega
  ·omega
  intro x17 hx17 hc17;have ex17 := Option.some.inj ((hy).symm.trans hx17); subst ex17;refine SG_q (Rq_loadA Try.isAgg55 Try.sizeOf55 rfl ((hc17)) rfl) rfl (SG_alloc Try.zeroValue55 rfl rfl ?_);intro w5 b5 e5 hb5 hz5 hB5
  have hle5 : w.heap.size ≤ b5 := by have := hb0.size; omega
  have ne_b1_5 : ¬ b1 = b5 := by have := hB1.lt; omega
  replace hb0 := btr hb0 hb5;replace hB1 := hB1.below hb5;refine SG_storeW (hB5) rfl rfl rfl rfl Try.sizeOf55 rfl rfl ?_;intro ws5x6 hchs5x6 hBs5x6;replace hb0 := bchg hb0 hchs5x6 hle5;replace hB1 := hB1.chg hchs5x6 ne_b1_5;clear hc17;clear hB5;refine SG_nil (D_then (W_seq (W_seq (W_region (SG_q (Rq_fieldAddr fa55_0 rfl) rfl (SG_q (Rq_loadB (hBs5x6) Try.isAgg5 rfl rfl) rfl (SG_q (Rq_geq rfl rfl) rfl (SG_nil (D_then ?_)))))))));refine W_cond rfl ?_ ?_
  ·intro g21
   try simp only [dd] at g21
   refine W_region (SG_q (Rq_move rfl) rfl (SG_q (Rq_fieldAddr fa55_1 rfl) rfl (SG_q (Rq_loadB (hBs5x6) Try.isAgg3 rfl rfl) rfl (SG_q (Rq_add rfl rfl (wrap_i64 (by omega) (by omega))) rfl (SG_q (Rq_add rfl rfl (wrap_i64 (by omega) (by omega))) rfl (SG_q (Rq_assign rfl) rfl (SG_nil (D_then (W_seq (W_seq (W_region (SG_q (Rq_fieldAddr fa55_0 rfl) rfl (SG_q (Rq_loadB (hBs5x6) Try.isAgg5 rfl rfl) rfl (SG_q (Rq_geq rfl rfl) rfl (SG_nil (D_then ?_))))))))))))))));refine W_cond rfl ?_ ?_
   ·intro g29
    try simp only [dd] at g29
    refine W_region (SG_q (Rq_move rfl) rfl (SG_q (Rq_fieldAddr fa55_2 rfl) rfl (SG_q (Rq_loadB (hBs5x6) Try.isAgg3 rfl rfl) rfl (SG_q (Rq_add rfl rfl (wrap_i64 (by omega) (by omega))) rfl (SG_q (Rq_add rfl rfl (wrap_i64 (by omega) (by omega))) rfl (SG_q (Rq_assign rfl) rfl (SG_nil (D_then (W_seq (W_region (SG_q (Rq_fieldAddr fa55_0 rfl) rfl (SG_q (Rq_loadB (hBs5x6) Try.isAgg5 rfl rfl) rfl (SG_q (Rq_eql rfl rfl) rfl (SG_nil (D_then ?_)))))))))))))));refine W_cond rfl ?_ ?_
    ·intro g37
     try simp only [dd] at g37
     refine W_region ?_;refine SG_q (Rq_move rfl) rfl ?_;refine SG_q (Rq_fieldAddr fa55_3 rfl) rfl ?_;refine SG_q (Rq_loadB (hBs5x6) Try.isAgg3 rfl rfl) rfl ?_;refine SG_q (Rq_add rfl rfl (wrap_i64 (by omega) (by omega))) rfl ?_;refine SG_q (Rq_add rfl rfl (wrap_i64 (by omega) (by omega))) rfl ?_;refine SG_q (Rq_assign rfl) rfl ?_;refine SG_nil ?_;refine D_block ?_;refine D_then ?_;refine W_region ?_;refine SG_q (Rq_move rfl) rfl ?_;refine SG_q (Rq_add rfl rfl (wrap_i64 (by omega) (by omega))) rfl ?_;refine SG_q (Rq_assign rfl) rfl ?_;refine SG_nil ?_;refine D_loop ((x.1 + 1, _)) (by repeat (first | exact Sub.nil | refine Sub.cons rfl ?_)) ⟨hb0, ⟨by dsimp only; omega, by dsimp only; rw [osum_succ hy]; first | omega | (rw [show opsum y = 0 by omega, Int.add_zero]; exact hxs)⟩, hB1⟩ (by dsimp only; omega)
    ·intro g37
     try simp only [dd] at g37
     refine W_skip ?_;refine D_block ?_;refine D_then ?_;refine W_region ?_;refine SG_q (Rq_move rfl) rfl ?_;refine SG_q (Rq_add rfl rfl (wrap_i64 (by omega) (by omega))) rfl ?_;refine SG_q (Rq_assign rfl) rfl ?_;refine SG_nil ?_;refine D_loop ((x.1 + 1, _)) (by repeat (first | exact Sub.nil | refine Sub.cons rfl ?_)) ⟨hb0, ⟨by dsimp only; omega, by dsimp only; rw [osum_succ hy]; first | omega | (rw [show opsum y = 0 by omega, Int.add_zero]; exact hxs)⟩, hB1⟩ (by dsimp only; omega)
   ·intro g29
    try simp only [dd] at g29
    refine W_skip (D_then (W_seq (W_region (SG_q (Rq_fieldAddr fa55_0 rfl) rfl (SG_q (Rq_loadB (hBs5x6) Try.isAgg5 rfl rfl) rfl (SG_q (Rq_eql rfl rfl) rfl (SG_nil (D_then ?_))))))));refine W_cond rfl ?_ ?_
    ·intro g37
     try simp only [dd] at g37
     refine W_region ?_;refine SG_q (Rq_move rfl) rfl ?_;refine SG_q (Rq_fieldAddr fa55_3 rfl) rfl ?_;refine SG_q (Rq_loadB (hBs5x6) Try.isAgg3 rfl rfl) rfl ?_;refine SG_q (Rq_add rfl rfl (wrap_i64 (by omega) (by omega))) rfl ?_;refine SG_q (Rq_add rfl rfl (wrap_i64 (by omega) (by omega))) rfl ?_;refine SG_q (Rq_assign rfl) rfl ?_;refine SG_nil ?_;refine D_block ?_;refine D_then ?_;refine W_region ?_;refine SG_q (Rq_move rfl) rfl ?_;refine SG_q (Rq_add rfl rfl (wrap_i64 (by omega) (by omega))) rfl ?_;refine SG_q (Rq_assign rfl) rfl ?_;refine SG_nil ?_;refine D_loop ((x.1 + 1, _)) (by repeat (first | exact Sub.nil | refine Sub.cons rfl ?_)) ⟨hb0, ⟨by dsimp only; omega, by dsimp only; rw [osum_succ hy]; first | omega | (rw [show opsum y = 0 by omega, Int.add_zero]; exact hxs)⟩, hB1⟩ (by dsimp only; omega)
    ·intro g37
     try simp only [dd] at g37
     refine W_skip ?_;refine D_block ?_;refine D_then ?_;refine W_region ?_;refine SG_q (Rq_move rfl) rfl ?_;refine SG_q (Rq_add rfl rfl (wrap_i64 (by omega) (by omega))) rfl ?_;refine SG_q (Rq_assign rfl) rfl ?_;refine SG_nil ?_;refine D_loop ((x.1 + 1, _)) (by repeat (first | exact Sub.nil | refine Sub.cons rfl ?_)) ⟨hb0, ⟨by dsimp only; omega, by dsimp only; rw [osum_succ hy]; first | omega | (rw [show opsum y = 0 by omega, Int.add_zero]; exact hxs)⟩, hB1⟩ (by dsimp only; omega)
  ·intro g21
   try simp only [dd] at g21
   refine W_skip (D_then (W_seq (W_seq (W_region (SG_q (Rq_fieldAddr fa55_0 rfl) rfl (SG_q (Rq_loadB (hBs5x6) Try.isAgg5 rfl rfl) rfl (SG_q (Rq_geq rfl rfl) rfl (SG_nil (D_then ?_)))))))));refine W_cond rfl ?_ ?_
   ·intro g29
    try simp only [dd] at g29
    refine W_region (SG_q (Rq_move rfl) rfl (SG_q (Rq_fieldAddr fa55_2 rfl) rfl (SG_q (Rq_loadB (hBs5x6) Try.isAgg3 rfl rfl) rfl (SG_q (Rq_add rfl rfl (wrap_i64 (by omega) (by omega))) rfl (SG_q (Rq_add rfl rfl (wrap_i64 (by omega) (by omega))) rfl (SG_q (Rq_assign rfl) rfl (SG_nil (D_then (W_seq (W_region (SG_q (Rq_fieldAddr fa55_0 rfl) rfl (SG_q (Rq_loadB (hBs5x6) Try.isAgg5 rfl rfl) rfl (SG_q (Rq_eql rfl rfl) rfl (SG_nil (D_then ?_)))))))))))))));refine W_cond rfl ?_ ?_
    ·intro g37
     try simp only [dd] at g37
     refine W_region ?_;refine SG_q (Rq_move rfl) rfl ?_;refine SG_q (Rq_fieldAddr fa55_3 rfl) rfl ?_;refine SG_q (Rq_loadB (hBs5x6) Try.isAgg3 rfl rfl) rfl ?_;refine SG_q (Rq_add rfl rfl (wrap_i64 (by omega) (by omega))) rfl ?_;refine SG_q (Rq_add rfl rfl (wrap_i64 (by omega) (by omega))) rfl ?_;refine SG_q (Rq_assign rfl) rfl ?_;refine SG_nil ?_;refine D_block ?_;refine D_then ?_;refine W_region ?_;refine SG_q (Rq_move rfl) rfl ?_;refine SG_q (Rq_add rfl rfl (wrap_i64 (by omega) (by omega))) rfl ?_;refine SG_q (Rq_assign rfl) rfl ?_;refine SG_nil ?_;refine D_loop ((x.1 + 1, _)) (by repeat (first | exact Sub.nil | refine Sub.cons rfl ?_)) ⟨hb0, ⟨by dsimp only; omega, by dsimp only; rw [osum_succ hy]; first | omega | (rw [show opsum y = 0 by omega, Int.add_zero]; exact hxs)⟩, hB1⟩ (by dsimp only; omega)
    ·intro g37
     try simp only [dd] at g37
     refine W_skip ?_;refine D_block ?_;refine D_then ?_;refine W_region ?_;refine SG_q (Rq_move rfl) rfl ?_;refine SG_q (Rq_add rfl rfl (wrap_i64 (by omega) (by omega))) rfl ?_;refine SG_q (Rq_assign rfl) rfl ?_;refine SG_nil ?_;refine D_loop ((x.1 + 1, _)) (by repeat (first | exact Sub.nil | refine Sub.cons rfl ?_)) ⟨hb0, ⟨by dsimp only; omega, by dsimp only; rw [osum_succ hy]; first | omega | (rw [show opsum y = 0 by omega, Int.add_zero]; exact hxs)⟩, hB1⟩ (by dsimp only; omega)
   ·intro g29
    try simp only [dd] at g29
    refine W_skip (D_then (W_seq (W_region (SG_q (Rq_fieldAddr fa55_0 rfl) rfl (SG_q (Rq_loadB (hBs5x6) Try.isAgg5 rfl rfl) rfl (SG_q (Rq_eql rfl rfl) rfl (SG_nil (D_then ?_))))))));refine W_cond rfl ?_ ?_
    ·intro g37
     try simp only [dd] at g37
     refine W_region ?_;refine SG_q (Rq_move rfl) rfl ?_;refine SG_q (Rq_fieldAddr fa55_3 rfl) rfl ?_;refine SG_q (Rq_loadB (hBs5x6) Try.isAgg3 rfl rfl) rfl ?_;refine SG_q (Rq_add rfl rfl (wrap_i64 (by omega) (by omega))) rfl ?_;refine SG_q (Rq_add rfl rfl (wrap_i64 (by omega) (by omega))) rfl ?_;refine SG_q (Rq_assign rfl) rfl ?_;refine SG_nil ?_;refine D_block ?_;refine D_then ?_;refine W_region ?_;refine SG_q (Rq_move rfl) rfl ?_;refine SG_q (Rq_add rfl rfl (wrap_i64 (by omega) (by omega))) rfl ?_;refine SG_q (Rq_assign rfl) rfl ?_;refine SG_nil ?_;refine D_loop ((x.1 + 1, _)) (by repeat (first | exact Sub.nil | refine Sub.cons rfl ?_)) ⟨hb0, ⟨by dsimp only; omega, by dsimp only; rw [osum_succ hy]; first | omega | (rw [show opsum y = 0 by omega, Int.add_zero]; exact hxs)⟩, hB1⟩ (by dsimp only; omega)
    ·intro g37
     try simp only [dd] at g37
     refine W_skip ?_;refine D_block ?_;refine D_then ?_;refine W_region ?_;refine SG_q (Rq_move rfl) rfl ?_;refine SG_q (Rq_add rfl rfl (wrap_i64 (by omega) (by omega))) rfl ?_;refine SG_q (Rq_assign rfl) rfl ?_;refine SG_nil ?_;refine D_loop ((x.1 + 1, _)) (by repeat (first | exact Sub.nil | refine Sub.cons rfl ?_)) ⟨hb0, ⟨by dsimp only; omega, by dsimp only; rw [osum_succ hy]; first | omega | (rw [show opsum y = 0 by omega, Int.add_zero]; exact hxs)⟩, hB1⟩ (by dsimp only; omega)
 ·intro g11
  try simp only [dd] at g11
  refine W_exit ?_;refine D_then_exit ?_;refine D_loop_exit ?_;refine D_block_exit ?_;refine D_then ?_;refine W_seq ?_;refine W_seq ?_;refine W_region ?_;refine SG_q (Rq_assign rfl) rfl ?_;refine SG_nil ?_;refine D_then ?_;refine W_block ?_;refine W_loop (α := Nat × Int) (fun x => [(6, .int .i64 (x.1 : Nat)), (3, .int .i64 x.2), (1, .pointer (some ⟨b1, 0, none⟩))]) (fun x w' => Below w.heap.size w w' ∧ (x.1 ≤ C.roots.length ∧ x.2 = osum C.ops C.ops.length + rsum C.roots x.1) ∧ Blk w' b1 [uC, uO, uR] 29) (fun x => C.roots.length - x.1) ((0, x.2)) (by repeat (first | exact Sub.nil | refine Sub.cons rfl ?_)) ⟨hb0, ⟨Nat.zero_le _, by dsimp only; rw [hxs, show x.1 = C.ops.length by omega]; exact (Int.add_zero _).symm⟩, hB1⟩ ?_;clear hb0;clear hB1;rintro x wl1 ⟨hb0, ⟨hxi, hxs⟩, hB1⟩;refine W_seq ?_;refine W_seq ?_;refine W_region ?_;refine SG_q (Rq_move rfl) rfl ?_;refine SG_q (Rq_fieldAddr fa29_2 rfl) rfl ?_;refine SG_q (Rq_loadB (hB1) Try.isAgg27 rfl rfl) rfl ?_
  first | refine SG_q (Rq_len ((hu1).below hb0) Try.runUnderlying27 rfl) rfl ?_ | refine SG_q (Rq_len ((hu2).below hb0) Try.runUnderlying27 rfl) rfl ?_ | refine SG_q (Rq_len ((hu3).below hb0) Try.runUnderlying27 rfl) rfl ?_
  refine SG_q (Rq_lss rfl rfl) rfl (SG_nil (D_then ?_));refine W_cond rfl ?_ ?_
  ·intro g47
   try simp only [dd] at g47
   obtain ⟨m, hm⟩ : ∃ m, C.roots[x.1]? = some m := ⟨_, List.getElem?_eq_getElem (show x.1 < C.roots.length by omega)⟩
   have hmr := hrts m (List.mem_of_getElem? hm);have hp1 := refs_part hck C.ops.length x.1; have hp2 := refs_part hck C.ops.length (x.1 + 1);rw [rsum_succ hm] at hp2;refine W_skip (D_then (W_seq (W_block (W_region (SG_q (Rq_move rfl) rfl (SG_q (Rq_fieldAddr fa29_2 rfl) rfl (SG_q (Rq_loadB (hB1) Try.isAgg27 rfl rfl) rfl (SG_q (Rq_move rfl) rfl ?_))))))))
   first | refine SG_index ((hu1).below hb0) Try.runUnderlying27 Try.sizeOf3 rfl rfl ?_ ?_ rfl ?_ | refine SG_index ((hu2).below hb0) Try.runUnderlying27 Try.sizeOf3 rfl rfl ?_ ?_ rfl ?_ | refine SG_index ((hu3).below hb0) Try.runUnderlying27 Try.sizeOf3 rfl rfl ?_ ?_ rfl ?_
   ·omega
   ·omega
   intro x54 hx54 hc54;have ex54 := Option.some.inj ((hm).symm.trans hx54); subst ex54;refine SG_q (Rq_load Try.isAgg3 rfl ((hc54).cell 0 rfl)) rfl ?_;refine SG_q (Rq_add rfl rfl (wrap_i64 (by omega) (by omega))) rfl ?_;refine SG_q (Rq_add rfl rfl (wrap_i64 (by omega) (by omega))) rfl ?_;refine SG_q (Rq_assign rfl) rfl ?_;refine SG_nil ?_;refine D_block ?_;refine D_then ?_;refine W_region ?_;refine SG_q (Rq_move rfl) rfl ?_;refine SG_q (Rq_add rfl rfl (wrap_i64 (by omega) (by omega))) rfl ?_;refine SG_q (Rq_assign rfl) rfl ?_;refine SG_nil ?_;refine D_loop ((x.1 + 1, _)) (by repeat (first | exact Sub.nil | refine Sub.cons rfl ?_)) ⟨hb0, ⟨by dsimp only; omega, by dsimp only; rw [rsum_succ hm]; omega⟩, hB1⟩ (by dsimp only; omega)
  ·intro g47
   try simp only [dd] at g47
   refine W_exit (D_then_exit (D_loop_exit ?_));refine D_block_exit (D_then (W_seq (W_region (SG_q (Rq_move rfl) rfl (SG_q (Rq_assign rfl) rfl (SG_nil (D_then (W_ret (D_body1 rfl rfl rfl ?_)))))))));exact ⟨by rw [refs_all, hxs, show x.1 = C.roots.length by omega], hb0⟩
theorem f18_c {u v : Value} {P Q : Co} {w : World} (hP : CoS w u P) (hQ : CoS w v Q) (p1 : P.ch.length ≤ 100000) (p2 : P.ops.length ≤ 100000) (p3 : P.roots.length ≤ 100000) : Pure Try.prog 18 #[u, v] w (.bool (decide (P = Q))) := by
 obtain ⟨uC, uO, uR, rfl, hu1, hu2, hu3⟩ := hP.ex;obtain ⟨vC, vO, vR, rfl, hv1, hv2, hv3⟩ := hQ.ex;have hb0 := Below.refl w.heap.size w;refine calls_of_W Try.func18 rfl Try.ntmps18 rfl ?_;refine W_seq (W_region (SG_box rfl rfl rfl ?_));intro w2 b2 e2 hb2 hz2 hB2
 have hle2 : w.heap.size ≤ b2 := by have := hb0.size; omega
 replace hb0 := btr hb0 hb2;refine SG_box rfl rfl rfl ?_;intro w3 b3 e3 hb3 hz3 hB3
 have hle3 : w.heap.size ≤ b3 := by have := hb0.size; omega
 have ne_b2_3 : ¬ b2 = b3 := by have := hB2.lt; omega
 replace hb0 := btr hb0 hb3;replace hB2 := hB2.below hb3;refine SG_q (Rq_assign rfl) rfl (SG_nil (D_then (W_seq (W_seq (W_region (SG_q (Rq_fieldAddr fa29_0 rfl) rfl (SG_q (Rq_loadB (hB2) Try.isAgg25 rfl rfl) rfl ?_)))))))
 first | refine SG_q (Rq_len ((hu1).below hb0) Try.runUnderlying25 rfl) rfl ?_ | refine SG_q (Rq_len ((hu2).below hb0) Try.runUnderlying25 rfl) rfl ?_ | refine SG_q (Rq_len ((hu3).below hb0) Try.runUnderlying25 rfl) rfl ?_ | refine SG_q (Rq_len ((hv1).below hb0) Try.runUnderlying25 rfl) rfl ?_ | refine SG_q (Rq_len ((hv2).below hb0) Try.runUnderlying25 rfl) rfl ?_ | refine SG_q (Rq_len ((hv3).below hb0) Try.runUnderlying25 rfl) rfl ?_
 refine SG_q (Rq_fieldAddr fa29_0 rfl) rfl (SG_q (Rq_loadB (hB3) Try.isAgg25 rfl rfl) rfl ?_)
 first | refine SG_q (Rq_len ((hu1).below hb0) Try.runUnderlying25 rfl) rfl ?_ | refine SG_q (Rq_len ((hu2).below hb0) Try.runUnderlying25 rfl) rfl ?_ | refine SG_q (Rq_len ((hu3).below hb0) Try.runUnderlying25 rfl) rfl ?_ | refine SG_q (Rq_len ((hv1).below hb0) Try.runUnderlying25 rfl) rfl ?_ | refine SG_q (Rq_len ((hv2).below hb0) Try.runUnderlying25 rfl) rfl ?_ | refine SG_q (Rq_len ((hv3).below hb0) Try.runUnderlying25 rfl) rfl ?_
 refine SG_q (Rq_neq rfl rfl) rfl ?_;refine SG_q (Rq_move rfl) rfl ?_;refine SG_or (r := ?r15n1) 8 23 15 rfl ?_ ?_ ?_; rotate_left
 ·intro g15 K15
  have g15' := g15; try simp only [dd] at g15'
  have hm15 := Below.refl (w3).heap.size w3;refine SG_yes 15 rfl rfl g15 (SG_q (Rq_fieldAddr fa29_1 rfl) rfl (SG_yes 15 rfl rfl g15 (SG_q (Rq_loadB (hB2) Try.isAgg26 rfl rfl) rfl (SG_yes 15 rfl rfl g15 ?_))))
  first | refine SG_q (Rq_len ((hu1).below hb0) Try.runUnderlying26 rfl) rfl ?_ | refine SG_q (Rq_len ((hu2).below hb0) Try.runUnderlying26 rfl) rfl ?_ | refine SG_q (Rq_len ((hu3).below hb0) Try.runUnderlying26 rfl) rfl ?_ | refine SG_q (Rq_len ((hv1).below hb0) Try.runUnderlying26 rfl) rfl ?_ | refine SG_q (Rq_len ((hv2).below hb0) Try.runUnderlying26 rfl) rfl ?_ | refine SG_q (Rq_len ((hv3).below hb0) Try.runUnderlying26 rfl) rfl ?_
  refine SG_yes 15 rfl rfl g15 (SG_q (Rq_fieldAddr fa29_1 rfl) rfl (SG_yes 15 rfl rfl g15 (SG_q (Rq_loadB (hB3) Try.isAgg26 rfl rfl) rfl (SG_yes 15 rfl rfl g15 ?_))))
  first | refine SG_q (Rq_len ((hu1).below hb0) Try.runUnderlying26 rfl) rfl ?_ | refine SG_q (Rq_len ((hu2).below hb0) Try.runUnderlying26 rfl) rfl ?_ | refine SG_q (Rq_len ((hu3).below hb0) Try.runUnderlying26 rfl) rfl ?_ | refine SG_q (Rq_len ((hv1).below hb0) Try.runUnderlying26 rfl) rfl ?_ | refine SG_q (Rq_len ((hv2).below hb0) Try.runUnderlying26 rfl) rfl ?_ | refine SG_q (Rq_len ((hv3).below hb0) Try.runUnderlying26 rfl) rfl ?_
  refine SG_yes 15 rfl rfl g15 (SG_q (Rq_neq rfl rfl) rfl (SG_q (Rq_pick rfl (fun h => absurd (g15.symm.trans h) (by decide)) (fun _ => rfl)) rfl ?_));exact K15 _ _ hm15 (by repeat (first | exact Sub.refl | refine Sub.shadow ?_ | refine Sub.same ?_ | refine Sub.push rfl ?_))
 ·intro g15 K15
  have g15' := g15; try simp only [dd] at g15'
  have hm15 := Below.refl (w3).heap.size w3;refine SG_no 15 rfl rfl g15 rfl (SG_no 15 rfl rfl g15 rfl (SG_no 15 rfl rfl g15 rfl (SG_no 15 rfl rfl g15 rfl (SG_no 15 rfl rfl g15 rfl (SG_no 15 rfl rfl g15 rfl (SG_no 15 rfl rfl g15 rfl (SG_q (Rq_pick rfl (fun _ => rfl) (fun h => absurd (g15.symm.trans h) (by decide))) rfl ?_)))))));exact K15 _ _ hm15 (by repeat (first | exact Sub.refl | refine Sub.shadow ?_ | refine Sub.same ?_ | refine Sub.push rfl ?_))
 intro wm15 hbm15;replace hb0 := btr hb0 hbm15;replace hB2 := hB2.below hbm15;replace hB3 := hB3.below hbm15
 simp only [List.drop_succ_cons, List.drop_zero]
 refine SG_q (Rq_move rfl) rfl ?_;refine SG_or (r := ?r24n2) 8 32 24 rfl ?_ ?_ ?_; rotate_left
 ·intro g24 K24
  have g24' := g24; try simp only [dd] at g24'
  have hm24 := Below.refl (wm15).heap.size wm15;refine SG_yes 24 rfl rfl g24 (SG_q (Rq_fieldAddr fa29_2 rfl) rfl (SG_yes 24 rfl rfl g24 (SG_q (Rq_loadB (hB2) Try.isAgg27 rfl rfl) rfl (SG_yes 24 rfl rfl g24 ?_))))
  first | refine SG_q (Rq_len ((hu1).below hb0) Try.runUnderlying27 rfl) rfl ?_ | refine SG_q (Rq_len ((hu2).below hb0) Try.runUnderlying27 rfl) rfl ?_ | refine SG_q (Rq_len ((hu3).below hb0) Try.runUnderlying27 rfl) rfl ?_ | refine SG_q (Rq_len ((hv1).below hb0) Try.runUnderlying27 rfl) rfl ?_ | refine SG_q (Rq_len ((hv2).below hb0) Try.runUnderlying27 rfl) rfl ?_ | refine SG_q (Rq_len ((hv3).below hb0) Try.runUnderlying27 rfl) rfl ?_
  refine SG_yes 24 rfl rfl g24 (SG_q (Rq_fieldAddr fa29_2 rfl) rfl (SG_yes 24 rfl rfl g24 (SG_q (Rq_loadB (hB3) Try.isAgg27 rfl rfl) rfl (SG_yes 24 rfl rfl g24 ?_))))
  first | refine SG_q (Rq_len ((hu1).below hb0) Try.runUnderlying27 rfl) rfl ?_ | refine SG_q (Rq_len ((hu2).below hb0) Try.runUnderlying27 rfl) rfl ?_ | refine SG_q (Rq_len ((hu3).below hb0) Try.runUnderlying27 rfl) rfl ?_ | refine SG_q (Rq_len ((hv1).below hb0) Try.runUnderlying27 rfl) rfl ?_ | refine SG_q (Rq_len ((hv2).below hb0) Try.runUnderlying27 rfl) rfl ?_ | refine SG_q (Rq_len ((hv3).below hb0) Try.runUnderlying27 rfl) rfl ?_
  refine SG_yes 24 rfl rfl g24 (SG_q (Rq_neq rfl rfl) rfl (SG_q (Rq_pick rfl (fun h => absurd (g24.symm.trans h) (by decide)) (fun _ => rfl)) rfl ?_));exact K24 _ _ hm24 (by repeat (first | exact Sub.refl | refine Sub.shadow ?_ | refine Sub.same ?_ | refine Sub.push rfl ?_))
 ·intro g24 K24
  have g24' := g24; try simp only [dd] at g24'
  have hm24 := Below.refl (wm15).heap.size wm15;refine SG_no 24 rfl rfl g24 rfl (SG_no 24 rfl rfl g24 rfl (SG_no 24 rfl rfl g24 rfl (SG_no 24 rfl rfl g24 rfl (SG_no 24 rfl rfl g24 rfl (SG_no 24 rfl rfl g24 rfl (SG_no 24 rfl rfl g24 rfl (SG_q (Rq_pick rfl (fun _ => rfl) (fun h => absurd (g24.symm.trans h) (by decide))) rfl ?_)))))));exact K24 _ _ hm24 (by repeat (first | exact Sub.refl | refine Sub.shadow ?_ | refine Sub.same ?_ | refine Sub.push rfl ?_))
 intro wm24 hbm24;replace hb0 := btr hb0 hbm24;replace hB2 := hB2.below hbm24;replace hB3 := hB3.below hbm24
 simp only [List.drop_succ_cons, List.drop_zero]
 refine SG_nil (D_then ?_);refine W_cond rfl ?_ ?_
 ·intro g32
  try simp only [dd] at g32
  refine W_seq ?_;refine W_region ?_;refine SG_q (Rq_assign rfl) rfl ?_;refine SG_nil ?_;refine D_then ?_;refine W_ret ?_;refine D_then_ret ?_;refine D_body1 rfl rfl rfl ?_;exact ⟨by rw [decide_eq_false (fun e => by subst e; simp at g32)], hb0⟩
 ·intro g32
  try simp only [dd] at g32
  have hl1 : P.ch.length = Q.ch.length := by omega
  have hl2 : P.ops.length = Q.ops.length := by omega
  have hl3 : P.roots.length = Q.roots.length := by omega
  refine W_skip (D_then (W_seq (W_seq (W_region (SG_q (Rq_assign rfl) rfl (SG_nil (D_then (W_block ?_))))))));refine W_loop (α := Nat) (fun x => [(5, .int .i64 (x : Nat)), (2, .pointer (some ⟨b2, 0, none⟩)), (3, .pointer (some ⟨b3, 0, none⟩))]) (fun x w' => Below w.heap.size w w' ∧ x ≤ P.ch.length ∧ (∀ j : Nat, j < x → P.ch[j]? = Q.ch[j]?) ∧ Blk w' b2 [uC, uO, uR] 29 ∧ Blk w' b3 [vC, vO, vR] 29) (fun x => P.ch.length - x) (0) (by repeat (first | exact Sub.nil | refine Sub.cons rfl ?_)) ⟨hb0, Nat.zero_le _, (fun j h => by omega), hB2, hB3⟩ ?_;clear hb0;clear hB2;clear hB3;rintro x wl0 ⟨hb0, hxi, hno, hB2, hB3⟩;refine W_seq (W_seq (W_region (SG_q (Rq_move rfl) rfl (SG_q (Rq_fieldAddr fa29_0 rfl) rfl (SG_q (Rq_loadB (hB2) Try.isAgg25 rfl rfl) rfl ?_)))))
  first | refine SG_q (Rq_len ((hu1).below hb0) Try.runUnderlying25 rfl) rfl ?_ | refine SG_q (Rq_len ((hu2).below hb0) Try.runUnderlying25 rfl) rfl ?_ | refine SG_q (Rq_len ((hu3).below hb0) Try.runUnderlying25 rfl) rfl ?_ | refine SG_q (Rq_len ((hv1).below hb0) Try.runUnderlying25 rfl) rfl ?_ | refine SG_q (Rq_len ((hv2).below hb0) Try.runUnderlying25 rfl) rfl ?_ | refine SG_q (Rq_len ((hv3).below hb0) Try.runUnderlying25 rfl) rfl ?_
  refine SG_q (Rq_lss rfl rfl) rfl (SG_nil (D_then ?_));refine W_cond rfl ?_ ?_
  ·intro g37
   try simp only [dd] at g37
   refine W_skip (D_then (W_seq (W_block (W_seq (W_quiet (Try.mixed) (by kernel_rfl) ?_)))));refine QS_q (Rq_fieldAddr fa29_0 rfl) rfl (QS_q (Rq_loadB (hB2) Try.isAgg25 rfl rfl) rfl (QS_q (Rq_move rfl) rfl ?_))
   first | refine QS_index ((hu1).below hb0) Try.runUnderlying25 Try.sizeOf59 rfl rfl ?_ ?_ rfl ?_ | refine QS_index ((hu2).below hb0) Try.runUnderlying25 Try.sizeOf59 rfl rfl ?_ ?_ rfl ?_ | refine QS_index ((hu3).below hb0) Try.runUnderlying25 Try.sizeOf59 rfl rfl ?_ ?_ rfl ?_ | refine QS_index ((hv1).below hb0) Try.runUnderlying25 Try.sizeOf59 rfl rfl ?_ ?_ rfl ?_ | refine QS_index ((hv2).below hb0) Try.runUnderlying25 Try.sizeOf59 rfl rfl ?_ ?_ rfl ?_ | refine QS_index ((hv3).below hb0) Try.runUnderlying25 Try.sizeOf59 rfl rfl ?_ ?_ rfl ?_
   ·omega
   ·omega
   intro x43 hx43 hc43;refine QS_q (Rq_loadA Try.isAgg59 Try.sizeOf59 rfl ((hc43)) rfl) rfl (QS_q (Rq_fieldAddr fa29_0 rfl) rfl (QS_q (Rq_loadB (hB3) Try.isAgg25 rfl rfl) rfl (QS_q (Rq_move rfl) rfl ?_)))
   first | refine QS_index ((hu1).below hb0) Try.runUnderlying25 Try.sizeOf59 rfl rfl ?_ ?_ rfl ?_ | refine QS_index ((hu2).below hb0) Try.runUnderlying25 Try.sizeOf59 rfl rfl ?_ ?_ rfl ?_ | refine QS_index ((hu3).below hb0) Try.runUnderlying25 Try.sizeOf59 rfl rfl ?_ ?_ rfl ?_ | refine QS_index ((hv1).below hb0) Try.runUnderlying25 Try.sizeOf59 rfl rfl ?_ ?_ rfl ?_ | refine QS_index ((hv2).below hb0) Try.runUnderlying25 Try.sizeOf59 rfl rfl ?_ ?_ rfl ?_ | refine QS_index ((hv3).below hb0) Try.runUnderlying25 Try.sizeOf59 rfl rfl ?_ ?_ rfl ?_
   ·omega
   ·omega
   intro x48 hx48 hc48;refine QS_q (Rq_loadA Try.isAgg59 Try.sizeOf59 rfl ((hc48)) rfl) rfl (QS_q (Rq_neqS (fun w => eq59 _ _ w) eg59 rfl rfl) rfl (QS_nil ?_));intro wr6 hbr6;replace hb0 := btr hb0 hbr6;replace hB2 := hB2.below hbr6;replace hB3 := hB3.below hbr6;refine D_then ?_;refine W_cond rfl ?_ ?_
   ·intro g50
    try simp only [dd] at g50
    refine W_seq (W_region (SG_q (Rq_assign rfl) rfl (SG_nil (D_then (W_ret (D_block_ret (D_then_ret (D_loop_ret ?_))))))));refine D_block_ret (D_then_ret (D_body1 rfl rfl rfl ?_));exact ⟨by rw [decide_eq_false (fun e => same_not hx43 hx48 (by simpa using g50) (by rw [e]))], hb0⟩
   ·intro g50
    try simp only [dd] at g50
    refine W_skip ?_;refine D_block ?_;refine D_then ?_;refine W_region ?_;refine SG_q (Rq_move rfl) rfl ?_;refine SG_q (Rq_add rfl rfl (wrap_i64 (by omega) (by omega))) rfl ?_;refine SG_q (Rq_assign rfl) rfl ?_;refine SG_nil ?_;refine D_loop (x + 1) (by repeat (first | exact Sub.nil | refine Sub.cons rfl ?_)) ⟨hb0, by omega, (fun j hj => by rcases Nat.lt_succ_iff_lt_or_eq.1 hj with h | rfl; exact hno j h; (rw [show P.ch[j]? = _ from hx43, show Q.ch[j]? = _ from hx48]; simpa using g50)), hB2, hB3⟩ (by omega)
  ·intro g37
   try simp only [dd] at g37
   refine W_exit (D_then_exit (D_loop_exit ?_));refine D_block_exit (D_then (W_seq (W_seq (W_region (SG_q (Rq_assign rfl) rfl (SG_nil (D_then (W_block ?_))))))));refine W_loop (α := Nat) (fun x => [(6, .int .i64 (x : Nat)), (2, .pointer (some ⟨b2, 0, none⟩)), (3, .pointer (some ⟨b3, 0, none⟩))]) (fun x w' => Below w.heap.size w w' ∧ x ≤ P.ops.length ∧ (∀ j : Nat, j < x → P.ops[j]? = Q.ops[j]?) ∧ Blk w' b2 [uC, uO, uR] 29 ∧ Blk w' b3 [vC, vO, vR] 29) (fun x => P.ops.length - x) (0) (by repeat (first | exact Sub.nil | refine Sub.cons rfl ?_)) ⟨hb0, Nat.zero_le _, (fun j h => by omega), hB2, hB3⟩ ?_;clear hb0;clear hB2;clear hB3;rintro x wl1 ⟨hb0, hxi, hno2, hB2, hB3⟩;refine W_seq (W_seq (W_region (SG_q (Rq_move rfl) rfl (SG_q (Rq_fieldAddr fa29_1 rfl) rfl (SG_q (Rq_loadB (hB2) Try.isAgg26 rfl rfl) rfl ?_)))))
   first | refine SG_q (Rq_len ((hu1).below hb0) Try.runUnderlying26 rfl) rfl ?_ | refine SG_q (Rq_len ((hu2).below hb0) Try.runUnderlying26 rfl) rfl ?_ | refine SG_q (Rq_len ((hu3).below hb0) Try.runUnderlying26 rfl) rfl ?_ | refine SG_q (Rq_len ((hv1).below hb0) Try.runUnderlying26 rfl) rfl ?_ | refine SG_q (Rq_len ((hv2).below hb0) Try.runUnderlying26 rfl) rfl ?_ | refine SG_q (Rq_len ((hv3).below hb0) Try.runUnderlying26 rfl) rfl ?_
   refine SG_q (Rq_lss rfl rfl) rfl (SG_nil (D_then ?_));refine W_cond rfl ?_ ?_
   ·intro g55
    try simp only [dd] at g55
    refine W_skip (D_then (W_seq (W_block (W_seq (W_quiet (Try.mixed) (by kernel_rfl) ?_)))));refine QS_q (Rq_fieldAddr fa29_1 rfl) rfl (QS_q (Rq_loadB (hB2) Try.isAgg26 rfl rfl) rfl (QS_q (Rq_move rfl) rfl ?_))
    first | refine QS_index ((hu1).below hb0) Try.runUnderlying26 Try.sizeOf55 rfl rfl ?_ ?_ rfl ?_ | refine QS_index ((hu2).below hb0) Try.runUnderlying26 Try.sizeOf55 rfl rfl ?_ ?_ rfl ?_ | refine QS_index ((hu3).below hb0) Try.runUnderlying26 Try.sizeOf55 rfl rfl ?_ ?_ rfl ?_ | refine QS_index ((hv1).below hb0) Try.runUnderlying26 Try.sizeOf55 rfl rfl ?_ ?_ rfl ?_ | refine QS_index ((hv2).below hb0) Try.runUnderlying26 Try.sizeOf55 rfl rfl ?_ ?_ rfl ?_ | refine QS_index ((hv3).below hb0) Try.runUnderlying26 Try.sizeOf55 rfl rfl ?_ ?_ rfl ?_
    ·omega
    ·omega
    intro x61 hx61 hc61;refine QS_q (Rq_loadA Try.isAgg55 Try.sizeOf55 rfl ((hc61)) rfl) rfl (QS_q (Rq_fieldAddr fa29_1 rfl) rfl (QS_q (Rq_loadB (hB3) Try.isAgg26 rfl rfl) rfl (QS_q (Rq_move rfl) rfl ?_)))
    first | refine QS_index ((hu1).below hb0) Try.runUnderlying26 Try.sizeOf55 rfl rfl ?_ ?_ rfl ?_ | refine QS_index ((hu2).below hb0) Try.runUnderlying26 Try.sizeOf55 rfl rfl ?_ ?_ rfl ?_ | refine QS_index ((hu3).below hb0) Try.runUnderlying26 Try.sizeOf55 rfl rfl ?_ ?_ rfl ?_ | refine QS_index ((hv1).below hb0) Try.runUnderlying26 Try.sizeOf55 rfl rfl ?_ ?_ rfl ?_ | refine QS_index ((hv2).below hb0) Try.runUnderlying26 Try.sizeOf55 rfl rfl ?_ ?_ rfl ?_ | refine QS_index ((hv3).below hb0) Try.runUnderlying26 Try.sizeOf55 rfl rfl ?_ ?_ rfl ?_
    ·omega
    ·omega
    intro x66 hx66 hc66;refine QS_q (Rq_loadA Try.isAgg55 Try.sizeOf55 rfl ((hc66)) rfl) rfl (QS_q (Rq_neqS (fun w => eq55 _ _ w) eg55 rfl rfl) rfl (QS_nil ?_));intro wr11 hbr11;replace hb0 := btr hb0 hbr11;replace hB2 := hB2.below hbr11;replace hB3 := hB3.below hbr11;refine D_then ?_;refine W_cond rfl ?_ ?_
    ·intro g68
     try simp only [dd] at g68
     refine W_seq (W_region (SG_q (Rq_assign rfl) rfl (SG_nil (D_then (W_ret (D_block_ret (D_then_ret (D_loop_ret ?_))))))));refine D_block_ret (D_then_ret (D_body1 rfl rfl rfl ?_));exact ⟨by rw [decide_eq_false (fun e => same_not hx61 hx66 (by simpa using g68) (by rw [e]))], hb0⟩
    ·intro g68
     try simp only [dd] at g68
     refine W_skip ?_;refine D_block ?_;refine D_then ?_;refine W_region ?_;refine SG_q (Rq_move rfl) rfl ?_;refine SG_q (Rq_add rfl rfl (wrap_i64 (by omega) (by omega))) rfl ?_;refine SG_q (Rq_assign rfl) rfl ?_;refine SG_nil ?_;refine D_loop (x + 1) (by repeat (first | exact Sub.nil | refine Sub.cons rfl ?_)) ⟨hb0, by omega, (fun j hj => by rcases Nat.lt_succ_iff_lt_or_eq.1 hj with h | rfl; exact hno2 j h; (rw [show P.ops[j]? = _ from hx61, show Q.ops[j]? = _ from hx66]; simpa using g68)), hB2, hB3⟩ (by omega)
   ·intro g55
    try simp only [dd] at g55
    refine W_exit (D_then_exit (D_loop_exit ?_));refine D_block_exit (D_then (W_seq (W_seq (W_region (SG_q (Rq_assign rfl) rfl (SG_nil (D_then (W_block ?_))))))));refine W_loop (α := Nat) (fun x => [(7, .int .i64 (x : Nat)), (2, .pointer (some ⟨b2, 0, none⟩)), (3, .pointer (some ⟨b3, 0, none⟩))]) (fun x w' => Below w.heap.size w w' ∧ x ≤ P.roots.length ∧ (∀ j : Nat, j < x → P.roots[j]? = Q.roots[j]?) ∧ Blk w' b2 [uC, uO, uR] 29 ∧ Blk w' b3 [vC, vO, vR] 29) (fun x => P.roots.length - x) (0) (by repeat (first | exact Sub.nil | refine Sub.cons rfl ?_)) ⟨hb0, Nat.zero_le _, (fun j h => by omega), hB2, hB3⟩ ?_;clear hb0;clear hB2;clear hB3;rintro x wl2 ⟨hb0, hxi, hno3, hB2, hB3⟩;refine W_seq (W_seq (W_region (SG_q (Rq_move rfl) rfl (SG_q (Rq_fieldAddr fa29_2 rfl) rfl (SG_q (Rq_loadB (hB2) Try.isAgg27 rfl rfl) rfl ?_)))))
    first | refine SG_q (Rq_len ((hu1).below hb0) Try.runUnderlying27 rfl) rfl ?_ | refine SG_q (Rq_len ((hu2).below hb0) Try.runUnderlying27 rfl) rfl ?_ | refine SG_q (Rq_len ((hu3).below hb0) Try.runUnderlying27 rfl) rfl ?_ | refine SG_q (Rq_len ((hv1).below hb0) Try.runUnderlying27 rfl) rfl ?_ | refine SG_q (Rq_len ((hv2).below hb0) Try.runUnderlying27 rfl) rfl ?_ | refine SG_q (Rq_len ((hv3).below hb0) Try.runUnderlying27 rfl) rfl ?_
    refine SG_q (Rq_lss rfl rfl) rfl (SG_nil (D_then ?_));refine W_cond rfl ?_ ?_
    ·intro g73
     try simp only [dd] at g73
     refine W_skip (D_then (W_seq (W_block (W_seq (W_quiet (Try.mixed) (by kernel_rfl) ?_)))));refine QS_q (Rq_fieldAddr fa29_2 rfl) rfl (QS_q (Rq_loadB (hB2) Try.isAgg27 rfl rfl) rfl (QS_q (Rq_move rfl) rfl ?_))
     first | refine QS_index ((hu1).below hb0) Try.runUnderlying27 Try.sizeOf3 rfl rfl ?_ ?_ rfl ?_ | refine QS_index ((hu2).below hb0) Try.runUnderlying27 Try.sizeOf3 rfl rfl ?_ ?_ rfl ?_ | refine QS_index ((hu3).below hb0) Try.runUnderlying27 Try.sizeOf3 rfl rfl ?_ ?_ rfl ?_ | refine QS_index ((hv1).below hb0) Try.runUnderlying27 Try.sizeOf3 rfl rfl ?_ ?_ rfl ?_ | refine QS_index ((hv2).below hb0) Try.runUnderlying27 Try.sizeOf3 rfl rfl ?_ ?_ rfl ?_ | refine QS_index ((hv3).below hb0) Try.runUnderlying27 Try.sizeOf3 rfl rfl ?_ ?_ rfl ?_
     ·omega
     ·omega
     intro x79 hx79 hc79;refine QS_q (Rq_load Try.isAgg3 rfl ((hc79).cell 0 rfl)) rfl (QS_q (Rq_fieldAddr fa29_2 rfl) rfl (QS_q (Rq_loadB (hB3) Try.isAgg27 rfl rfl) rfl (QS_q (Rq_move rfl) rfl ?_)))
     first | refine QS_index ((hu1).below hb0) Try.runUnderlying27 Try.sizeOf3 rfl rfl ?_ ?_ rfl ?_ | refine QS_index ((hu2).below hb0) Try.runUnderlying27 Try.sizeOf3 rfl rfl ?_ ?_ rfl ?_ | refine QS_index ((hu3).below hb0) Try.runUnderlying27 Try.sizeOf3 rfl rfl ?_ ?_ rfl ?_ | refine QS_index ((hv1).below hb0) Try.runUnderlying27 Try.sizeOf3 rfl rfl ?_ ?_ rfl ?_ | refine QS_index ((hv2).below hb0) Try.runUnderlying27 Try.sizeOf3 rfl rfl ?_ ?_ rfl ?_ | refine QS_index ((hv3).below hb0) Try.runUnderlying27 Try.sizeOf3 rfl rfl ?_ ?_ rfl ?_
     ·omega
     ·omega
     intro x84 hx84 hc84;refine QS_q (Rq_load Try.isAgg3 rfl ((hc84).cell 0 rfl)) rfl (QS_q (Rq_neq rfl rfl) rfl (QS_nil ?_));intro wr16 hbr16;replace hb0 := btr hb0 hbr16;replace hB2 := hB2.below hbr16;replace hB3 := hB3.below hbr16;refine D_then ?_;refine W_cond rfl ?_ ?_
     ·intro g86
      try simp only [dd] at g86
      refine W_seq (W_region (SG_q (Rq_assign rfl) rfl (SG_nil (D_then (W_ret (D_block_ret (D_then_ret (D_loop_ret ?_))))))));refine D_block_ret (D_then_ret (D_body1 rfl rfl rfl ?_));exact ⟨by rw [decide_eq_false (fun e => same_not hx79 hx84 (by simpa using g86) (by rw [e]))], hb0⟩
     ·intro g86
      try simp only [dd] at g86
      refine W_skip ?_;refine D_block ?_;refine D_then ?_;refine W_region ?_;refine SG_q (Rq_move rfl) rfl ?_;refine SG_q (Rq_add rfl rfl (wrap_i64 (by omega) (by omega))) rfl ?_;refine SG_q (Rq_assign rfl) rfl ?_;refine SG_nil ?_;refine D_loop (x + 1) (by repeat (first | exact Sub.nil | refine Sub.cons rfl ?_)) ⟨hb0, by omega, (fun j hj => by rcases Nat.lt_succ_iff_lt_or_eq.1 hj with h | rfl; exact hno3 j h; (rw [show P.roots[j]? = _ from hx79, show Q.roots[j]? = _ from hx84]; simpa using g86)), hB2, hB3⟩ (by omega)
    ·intro g73
     try simp only [dd] at g73
     refine W_exit (D_then_exit (D_loop_exit ?_));refine D_block_exit (D_then (W_seq (W_region (SG_q (Rq_assign rfl) rfl (SG_nil (D_then (W_ret (D_body1 rfl rfl rfl ?_))))))));have e1 := same_list hl1 (fun j hj => hno j (by omega));have e2 := same_list hl2 (fun j hj => hno2 j (by omega));have e3 := same_list hl3 (fun j hj => hno3 j (by omega))
     have e4 : P = Q := by cases P; cases Q; simp_all
     exact ⟨by rw [decide_eq_true e4], hb0⟩
end Go.Proofs.Ytphmoebiobjfhaa
