/- Walks of functions, printed by a program of the author. -/
import Derived.Test.YtphmoebiobjfhaaGreatT46
set_option linter.all false
namespace Go.Proofs.YtphmoebiobjfhaaGreat
open Go Go.Mi Go.RowKit
set_option maxHeartbeats 8000000 in
theorem f8_c {vx vp : Value} {xs : List Qd} {ps : List Int} {w : World} (hx : SL w vx 4 encQ xs) (hq : ∀ z ∈ xs, okQ z) (hp : SL w vp 1 encU ps) (hps : ∀ p ∈ ps, 0 ≤ p ∧ p ≤ 255) : Pure Tryz.prog 8 #[vx, vp] w (.bool true) := by
 have hpl0 := hp.lt;have hqq := hq;clear hq;have hpsq := hps;clear hps;have hb0 := Below.refl w.heap.size w;refine calls_of_W Tryz.func8 rfl Tryz.ntmps8 rfl ?_;refine W_seq (W_region (SG_q (Rq_assign rfl) rfl (SG_nil (D_then (W_seq (W_region (SG_q (Rq_move rfl) rfl (SG_call rfl Tryz.call32 rfl (f32_c (hx) hqq) ?_))))))));rintro v30 w30 hb30 ⟨C, hg, sa1, sn1, sc1, sa2, sn2, sc2, sa3, sn3, sc3, rfl, hs1, hs2, hs3⟩;replace hb0 := btr hb0 hb30;replace hp := hp.below hb30;replace hs1 := hs1.sl;replace hs2 := hs2.sl;replace hs3 := hs3.sl;have hsl1 := hs1.lt; have hsl2 := hs2.lt; have hsl3 := hs3.lt;have hckC := hg.check;have hcu := Cu.of hg;have hcuT := hcu.tidy;have hcuE := hcu.steps.tidy;have hckE0 := hcu.steps.ck;have hgl := hg.len; have hgr := hg.roots
 have hgc : C.ch.length ≤ 100000 := by have := (check_ok hckC).1; omega
 obtain ⟨T, hT⟩ : ∃ T, tidyR C = T := ⟨_, rfl⟩
 obtain ⟨E, hE⟩ : ∃ E, tidyR (stepsR C).2 = E := ⟨_, rfl⟩
 have hcT : cellsA T = cellsA C := by rw [← hT]; exact cellsA_eq (fun wd => keep_tidy hckC)
 have hcE : cellsA E = cellsA C := by rw [← hE]; exact (cellsA_eq (fun wd => keep_tidy hckE0)).trans (cellsA_eq (fun wd => keep_steps hckC))
 rw [hT] at hcuT;rw [hE] at hcuE
 have hA1 : (if checkR C = 0 then tidyR C else noCo) = T := by rw [if_pos hckC, hT]
 have hA2 : (if checkR C = 0 then tidyR (stepsR C).2 else noCo) = E := by rw [if_pos hckC, hE]
 have hal : (cellsA C).length ≤ 100000 := by rw [cellsA_len hcu.rl]; decide
 have hal1 : (cellsA T).length ≤ 100000 := by rw [hcT]; exact hal
 have hal2 : (cellsA E).length ≤ 100000 := by rw [hcE]; exact hal
 have p1 : C.ch.length ≤ 100000 := hgc
 have p2 : C.ops.length ≤ 100000 := by omega
 have p3 : C.roots.length ≤ 100000 := by omega
 refine SG_alloc Tryz.zeroValue26 rfl rfl ?_;intro w5 b5 e5 hb5 hz5 hB5
 have hle5 : w.heap.size ≤ b5 := by have := hb0.size; omega
 have ne_hp_b5 := hp.fresh (b := b5) (by omega);have ne_hs1_b5 := hs1.fresh (b := b5) (by omega);have ne_hs2_b5 := hs2.fresh (b := b5) (by omega);have ne_hs3_b5 := hs3.fresh (b := b5) (by omega);replace hb0 := btr hb0 hb5;replace hp := hp.below hb5;replace hs1 := hs1.below hb5;replace hs2 := hs2.below hb5;replace hs3 := hs3.below hb5;refine SG_storeW (hB5) rfl rfl rfl rfl Tryz.sizeOf26 rfl rfl ?_;intro ws1x3 hchs1x3 hBs1x3;replace hb0 := bchg hb0 hchs1x3 hle5;replace hp := hp.chg hchs1x3 ne_hp_b5;replace hs1 := hs1.chg hchs1x3 ne_hs1_b5;replace hs2 := hs2.chg hchs1x3 ne_hs2_b5;replace hs3 := hs3.chg hchs1x3 ne_hs3_b5;clear hB5;refine SG_nil (D_then (W_seq (W_region ?_)))
 first | refine SG_q (Rq_loadBW (hBs1x3) Tryz.isAgg26 Tryz.sizeOf26 rfl rfl) rfl ?_ | refine SG_q (Rq_loadBA (hBs1x3) Tryz.isAgg26 Tryz.sizeOf26 rfl rfl rfl) rfl ?_
 have hz5a := hBs1x3.lt;refine SG_call rfl Tryz.call33 rfl (f33_c (⟨⟨_, _, _, rfl, (hs1), (hs2), (hs3)⟩⟩ : CoS _ _ C) hcu) ?_;rintro v33 w33 hb33 ⟨u33, rfl, hD0⟩;replace hb0 := btr hb0 hb33;replace hp := hp.below hb33;replace hs1 := hs1.below hb33;replace hs2 := hs2.below hb33;replace hs3 := hs3.below hb33;replace hBs1x3 := hBs1x3.below hb33;refine SG_q (Rq_move rfl) rfl (SG_q (Rq_extract rfl rfl) rfl (SG_q (Rq_extract rfl rfl) rfl (SG_q (Rq_assign rfl) rfl (SG_q (Rq_assign rfl) rfl (SG_nil (D_then (W_seq (W_region ?_))))))))
 first | refine SG_q (Rq_loadBW (hBs1x3) Tryz.isAgg26 Tryz.sizeOf26 rfl rfl) rfl ?_ | refine SG_q (Rq_loadBA (hBs1x3) Tryz.isAgg26 Tryz.sizeOf26 rfl rfl rfl) rfl ?_
 refine SG_call rfl Tryz.call34 rfl (f34_c (⟨⟨_, _, _, rfl, (hs1), (hs2), (hs3)⟩⟩ : CoS _ _ C) p1 p2 p3) ?_;rintro v38 w38 hb38 ⟨ta1, tn1, tc1, ta2, tn2, tc2, ta3, tn3, tc3, rfl, ht1, ht2, ht3⟩;replace hb0 := btr hb0 hb38;replace hp := hp.below hb38;replace hs1 := hs1.below hb38;replace hs2 := hs2.below hb38;replace hs3 := hs3.below hb38;replace hBs1x3 := hBs1x3.below hb38;replace hD0 := hD0.below hb38;replace ht1 := ht1.sl;replace ht2 := ht2.sl;replace ht3 := ht3.sl;refine SG_call rfl Tryz.call30 rfl (f30_c (C := C) (ht1) (ht2) (ht3) p1 p2 p3) ?_;rintro v39 w39 hb39 ⟨u39, rfl, hCV39⟩;replace hb0 := btr hb0 hb39;replace hp := hp.below hb39;replace hs1 := hs1.below hb39;replace hs2 := hs2.below hb39;replace hs3 := hs3.below hb39;replace hBs1x3 := hBs1x3.below hb39;replace hD0 := hD0.below hb39;replace ht1 := ht1.below hb39;replace ht2 := ht2.below hb39;replace ht3 := ht3.below hb39;obtain ⟨qaC, qaO, qaR, rfl, ⟨ha1, ha2, ha3⟩, _⟩ := hCV39.ex;rw [hA1] at ha1 ha2 ha3
 obtain ⟨a_qaC, n_qaC, c_qaC, h_qaC⟩ : ∃ a n c, qaC = Value.slice a n c := by obtain ⟨a, c, h⟩ := (ha1).len; exact ⟨_, _, _, h⟩
 subst h_qaC
 obtain ⟨a_qaO, n_qaO, c_qaO, h_qaO⟩ : ∃ a n c, qaO = Value.slice a n c := by obtain ⟨a, c, h⟩ := (ha2).len; exact ⟨_, _, _, h⟩
 subst h_qaO
 obtain ⟨a_qaR, n_qaR, c_qaR, h_qaR⟩ : ∃ a n c, qaR = Value.slice a n c := by obtain ⟨a, c, h⟩ := (ha3).len; exact ⟨_, _, _, h⟩
 subst h_qaR;clear ht1;clear ht2;clear ht3;refine SG_q (Rq_move rfl) rfl (SG_q (Rq_extract rfl rfl) rfl (SG_q (Rq_extract rfl rfl) rfl (SG_alloc Tryz.zeroValue26 rfl rfl ?_)));intro w8 b8 e8 hb8 hz8 hB8
 have hle8 : w.heap.size ≤ b8 := by have := hb0.size; omega
 have ne_hp_b8 := hp.fresh (b := b8) (by omega);have ne_hs1_b8 := hs1.fresh (b := b8) (by omega);have ne_hs2_b8 := hs2.fresh (b := b8) (by omega);have ne_hs3_b8 := hs3.fresh (b := b8) (by omega)
 have ne_b5_8 : ¬ b5 = b8 := by have := hBs1x3.lt; omega
 have ne_hD0_b8 : ∀ k, Value.ownBlock u33 = some k → ¬ k = b8 := fun k e => by have := hD0.lt e; omega
 have ne_ha1_b8 := ha1.fresh (b := b8) (by omega);have ne_ha2_b8 := ha2.fresh (b := b8) (by omega);have ne_ha3_b8 := ha3.fresh (b := b8) (by omega);replace hb0 := btr hb0 hb8;replace hp := hp.below hb8;replace hs1 := hs1.below hb8;replace hs2 := hs2.below hb8;replace hs3 := hs3.below hb8;replace hBs1x3 := hBs1x3.below hb8;replace hD0 := hD0.below hb8;replace ha1 := ha1.below hb8;replace ha2 := ha2.below hb8;replace ha3 := ha3.below hb8;refine SG_storeW (hB8) rfl rfl rfl rfl Tryz.sizeOf26 rfl rfl ?_;intro ws3x7 hchs3x7 hBs3x7;replace hb0 := bchg hb0 hchs3x7 hle8;replace hp := hp.chg hchs3x7 ne_hp_b8;replace hs1 := hs1.chg hchs3x7 ne_hs1_b8;replace hs2 := hs2.chg hchs3x7 ne_hs2_b8;replace hs3 := hs3.chg hchs3x7 ne_hs3_b8;replace hBs1x3 := hBs1x3.chg hchs3x7 ne_b5_8;replace hD0 := hD0.chg hchs3x7 (fun k e e2 => by first | exact ne_hD0_b8 k e e2 | (have := hD0.lt e; have := ne_hD0_b8; omega));replace ha1 := ha1.chg hchs3x7 ne_ha1_b8;replace ha2 := ha2.chg hchs3x7 ne_ha2_b8;replace ha3 := ha3.chg hchs3x7 ne_ha3_b8;clear hB8;refine SG_q (Rq_assign rfl) rfl ?_;refine SG_nil ?_;refine D_then ?_;refine W_seq ?_;refine W_region ?_
 first | refine SG_q (Rq_loadBW (hBs1x3) Tryz.isAgg26 Tryz.sizeOf26 rfl rfl) rfl ?_ | refine SG_q (Rq_loadBA (hBs1x3) Tryz.isAgg26 Tryz.sizeOf26 rfl rfl rfl) rfl ?_
 refine SG_call rfl Tryz.call34 rfl (f34_c (⟨⟨_, _, _, rfl, (hs1), (hs2), (hs3)⟩⟩ : CoS _ _ C) p1 p2 p3) ?_;rintro v44 w44 hb44 ⟨ta1, tn1, tc1, ta2, tn2, tc2, ta3, tn3, tc3, rfl, ht1, ht2, ht3⟩;replace hb0 := btr hb0 hb44;replace hp := hp.below hb44;replace hs1 := hs1.below hb44;replace hs2 := hs2.below hb44;replace hs3 := hs3.below hb44;replace hBs1x3 := hBs1x3.below hb44;replace hD0 := hD0.below hb44;replace ha1 := ha1.below hb44;replace ha2 := ha2.below hb44;replace ha3 := ha3.below hb44;replace hBs3x7 := hBs3x7.below hb44;replace ht1 := ht1.sl;replace ht2 := ht2.sl;replace ht3 := ht3.sl;refine SG_call rfl Tryz.call13 rfl (f13_c (C := C) (ht1) (ht2) (ht3) p1 p2 p3) ?_;rintro v45 w45 hb45 ⟨u45, rfl, hCV45⟩;replace hb0 := btr hb0 hb45;replace hp := hp.below hb45;replace hs1 := hs1.below hb45;replace hs2 := hs2.below hb45;replace hs3 := hs3.below hb45;replace hBs1x3 := hBs1x3.below hb45;replace hD0 := hD0.below hb45;replace ha1 := ha1.below hb45;replace ha2 := ha2.below hb45;replace ha3 := ha3.below hb45;replace hBs3x7 := hBs3x7.below hb45;replace ht1 := ht1.below hb45;replace ht2 := ht2.below hb45;replace ht3 := ht3.below hb45;obtain ⟨qbC, qbO, qbR, rfl, ⟨hb1, hb2, hb3⟩, _⟩ := hCV45.ex;rw [hA2] at hb1 hb2 hb3
 obtain ⟨a_qbC, n_qbC, c_qbC, h_qbC⟩ : ∃ a n c, qbC = Value.slice a n c := by obtain ⟨a, c, h⟩ := (hb1).len; exact ⟨_, _, _, h⟩
 subst h_qbC
 obtain ⟨a_qbO, n_qbO, c_qbO, h_qbO⟩ : ∃ a n c, qbO = Value.slice a n c := by obtain ⟨a, c, h⟩ := (hb2).len; exact ⟨_, _, _, h⟩
 subst h_qbO
 obtain ⟨a_qbR, n_qbR, c_qbR, h_qbR⟩ : ∃ a n c, qbR = Value.slice a n c := by obtain ⟨a, c, h⟩ := (hb3).len; exact ⟨_, _, _, h⟩
 subst h_qbR;clear ht1;clear ht2;clear ht3;refine SG_q (Rq_move rfl) rfl (SG_q (Rq_extract rfl rfl) rfl (SG_q (Rq_extract rfl rfl) rfl (SG_alloc Tryz.zeroValue26 rfl rfl ?_)));intro w10 b10 e10 hb10 hz10 hB10
 have hle10 : w.heap.size ≤ b10 := by have := hb0.size; omega
 have ne_hp_b10 := hp.fresh (b := b10) (by omega);have ne_hs1_b10 := hs1.fresh (b := b10) (by omega);have ne_hs2_b10 := hs2.fresh (b := b10) (by omega);have ne_hs3_b10 := hs3.fresh (b := b10) (by omega)
 have ne_b5_10 : ¬ b5 = b10 := by have := hBs1x3.lt; omega
 have ne_hD0_b10 : ∀ k, Value.ownBlock u33 = some k → ¬ k = b10 := fun k e => by have := hD0.lt e; omega
 have ne_ha1_b10 := ha1.fresh (b := b10) (by omega);have ne_ha2_b10 := ha2.fresh (b := b10) (by omega);have ne_ha3_b10 := ha3.fresh (b := b10) (by omega)
 have ne_b8_10 : ¬ b8 = b10 := by have := hBs3x7.lt; omega
 have ne_hb1_b10 := hb1.fresh (b := b10) (by omega);have ne_hb2_b10 := hb2.fresh (b := b10) (by omega);have ne_hb3_b10 := hb3.fresh (b := b10) (by omega);replace hb0 := btr hb0 hb10;replace hp := hp.below hb10;replace hs1 := hs1.below hb10;replace hs2 := hs2.below hb10;replace hs3 := hs3.below hb10;replace hBs1x3 := hBs1x3.below hb10;replace hD0 := hD0.below hb10;replace ha1 := ha1.below hb10;replace ha2 := ha2.below hb10;replace ha3 := ha3.below hb10;replace hBs3x7 := hBs3x7.below hb10;replace hb1 := hb1.below hb10;replace hb2 := hb2.below hb10;replace hb3 := hb3.below hb10;refine SG_storeW (hB10) rfl rfl rfl rfl Tryz.sizeOf26 rfl rfl ?_;intro ws4x7 hchs4x7 hBs4x7;replace hb0 := bchg hb0 hchs4x7 hle10;replace hp := hp.chg hchs4x7 ne_hp_b10;replace hs1 := hs1.chg hchs4x7 ne_hs1_b10;replace hs2 := hs2.chg hchs4x7 ne_hs2_b10;replace hs3 := hs3.chg hchs4x7 ne_hs3_b10;replace hBs1x3 := hBs1x3.chg hchs4x7 ne_b5_10;replace hD0 := hD0.chg hchs4x7 (fun k e e2 => by first | exact ne_hD0_b10 k e e2 | (have := hD0.lt e; have := ne_hD0_b10; omega));replace ha1 := ha1.chg hchs4x7 ne_ha1_b10;replace ha2 := ha2.chg hchs4x7 ne_ha2_b10;replace ha3 := ha3.chg hchs4x7 ne_ha3_b10;replace hBs3x7 := hBs3x7.chg hchs4x7 ne_b8_10;replace hb1 := hb1.chg hchs4x7 ne_hb1_b10;replace hb2 := hb2.chg hchs4x7 ne_hb2_b10;replace hb3 := hb3.chg hchs4x7 ne_hb3_b10;clear hB10;refine SG_q (Rq_assign rfl) rfl ?_;refine SG_nil ?_;refine D_then ?_;refine W_seq ?_;refine W_seq ?_;refine W_region ?_;refine SG_q (Rq_move rfl) rfl ?_;refine SG_q (Rq_not rfl) rfl ?_;refine SG_q (Rq_move rfl) rfl ?_;refine SG_or (r := ?r50n1) 3 53 50 rfl ?_ ?_ ?_; rotate_left
 ·intro g50 K50
  have g50' := g50; try simp only [dd] at g50'
  have hm50 := Below.refl (ws4x7).heap.size ws4x7;refine SG_yes 50 rfl rfl g50 (SG_q (Rq_move rfl) rfl (SG_yes 50 rfl rfl g50 (SG_q (Rq_neq rfl rfl) rfl (SG_q (Rq_pick rfl (fun h => absurd (g50.symm.trans h) (by decide)) (fun _ => rfl)) rfl ?_))));exact K50 _ _ hm50 (by repeat (first | exact Sub.refl | refine Sub.shadow ?_ | refine Sub.same ?_ | refine Sub.push rfl ?_))
 ·intro g50 K50
  have g50' := g50; try simp only [dd] at g50'
  have hm50 := Below.refl (ws4x7).heap.size ws4x7;refine SG_no 50 rfl rfl g50 rfl (SG_no 50 rfl rfl g50 rfl (SG_q (Rq_pick rfl (fun _ => rfl) (fun h => absurd (g50.symm.trans h) (by decide))) rfl ?_));exact K50 _ _ hm50 (by repeat (first | exact Sub.refl | refine Sub.shadow ?_ | refine Sub.same ?_ | refine Sub.push rfl ?_))
 intro wm50 hbm50;replace hb0 := btr hb0 hbm50;replace hp := hp.below hbm50;replace hs1 := hs1.below hbm50;replace hs2 := hs2.below hbm50;replace hs3 := hs3.below hbm50;replace hBs1x3 := hBs1x3.below hbm50;replace hD0 := hD0.below hbm50;replace ha1 := ha1.below hbm50;replace ha2 := ha2.below hbm50;replace ha3 := ha3.below hbm50;replace hBs3x7 := hBs3x7.below hbm50;replace hb1 := hb1.below hbm50;replace hb2 := hb2.below hbm50;replace hb3 := hb3.below hbm50;replace hBs4x7 := hBs4x7.below hbm50
 simp only [List.drop_succ_cons, List.drop_zero]
 refine SG_q (Rq_move rfl) rfl ?_;refine SG_or (r := ?r54n2) 3 57 54 rfl ?_ ?_ ?_; rotate_left
 ·intro g54 K54
  have g54' := g54; try simp only [dd] at g54'
  have hm54 := Below.refl (wm50).heap.size wm50;refine SG_yes 54 rfl rfl g54 (SG_q (Rq_move rfl) rfl (SG_yes 54 rfl rfl g54 (SG_q (Rq_neq rfl rfl) rfl (SG_q (Rq_pick rfl (fun h => absurd (g54.symm.trans h) (by decide)) (fun _ => rfl)) rfl ?_))));exact K54 _ _ hm54 (by repeat (first | exact Sub.refl | refine Sub.shadow ?_ | refine Sub.same ?_ | refine Sub.push rfl ?_))
 ·intro g54 K54
  have g54' := g54; try simp only [dd] at g54'
  have hm54 := Below.refl (wm50).heap.size wm50;refine SG_no 54 rfl rfl g54 rfl (SG_no 54 rfl rfl g54 rfl (SG_q (Rq_pick rfl (fun _ => rfl) (fun h => absurd (g54.symm.trans h) (by decide))) rfl ?_));exact K54 _ _ hm54 (by repeat (first | exact Sub.refl | refine Sub.shadow ?_ | refine Sub.same ?_ | refine Sub.push rfl ?_))
 intro wm54 hbm54;replace hb0 := btr hb0 hbm54;replace hp := hp.below hbm54;replace hs1 := hs1.below hbm54;replace hs2 := hs2.below hbm54;replace hs3 := hs3.below hbm54;replace hBs1x3 := hBs1x3.below hbm54;replace hD0 := hD0.below hbm54;replace ha1 := ha1.below hbm54;replace ha2 := ha2.below hbm54;replace ha3 := ha3.below hbm54;replace hBs3x7 := hBs3x7.below hbm54;replace hb1 := hb1.below hbm54;replace hb2 := hb2.below hbm54;replace hb3 := hb3.below hbm54;replace hBs4x7 := hBs4x7.below hbm54
 simp only [List.drop_succ_cons, List.drop_zero]
 refine SG_nil (D_then ?_);refine W_cond rfl ?_ ?_
 ·intro g57; exfalso; (try simp only [dd] at g57); simp [hckC] at g57
 ·intro g57
  try simp only [dd] at g57
  refine W_skip (D_then (W_seq (W_region ?_)))
  first | refine SG_q (Rq_loadBW (hBs3x7) Tryz.isAgg26 Tryz.sizeOf26 rfl rfl) rfl ?_ | refine SG_q (Rq_loadBA (hBs3x7) Tryz.isAgg26 Tryz.sizeOf26 rfl rfl rfl) rfl ?_
  refine SG_call rfl Tryz.call33 rfl (f33_c (⟨⟨_, _, _, rfl, (ha1), (ha2), (ha3)⟩⟩ : CoS _ _ T) hcuT) ?_;rintro v60 w60 hb60 ⟨u60, rfl, hP⟩;replace hb0 := btr hb0 hb60;replace hp := hp.below hb60;replace hs1 := hs1.below hb60;replace hs2 := hs2.below hb60;replace hs3 := hs3.below hb60;replace hBs1x3 := hBs1x3.below hb60;replace hD0 := hD0.below hb60;replace hb1 := hb1.below hb60;replace hb2 := hb2.below hb60;replace hb3 := hb3.below hb60;replace hBs4x7 := hBs4x7.below hb60;refine SG_q (Rq_move rfl) rfl (SG_q (Rq_extract rfl rfl) rfl (SG_q (Rq_extract rfl rfl) rfl (SG_q (Rq_assign rfl) rfl (SG_q (Rq_assign rfl) rfl (SG_nil (D_then (W_seq (W_region ?_))))))))
  first | refine SG_q (Rq_loadBW (hBs4x7) Tryz.isAgg26 Tryz.sizeOf26 rfl rfl) rfl ?_ | refine SG_q (Rq_loadBA (hBs4x7) Tryz.isAgg26 Tryz.sizeOf26 rfl rfl rfl) rfl ?_
  refine SG_call rfl Tryz.call33 rfl (f33_c (⟨⟨_, _, _, rfl, (hb1), (hb2), (hb3)⟩⟩ : CoS _ _ E) hcuE) ?_;rintro v65 w65 hb65 ⟨u65, rfl, hQ⟩;replace hb0 := btr hb0 hb65;replace hp := hp.below hb65;replace hs1 := hs1.below hb65;replace hs2 := hs2.below hb65;replace hs3 := hs3.below hb65;replace hBs1x3 := hBs1x3.below hb65;replace hD0 := hD0.below hb65;replace hP := hP.below hb65;refine SG_q (Rq_move rfl) rfl ?_;refine SG_q (Rq_extract rfl rfl) rfl ?_;refine SG_q (Rq_extract rfl rfl) rfl ?_;refine SG_q (Rq_assign rfl) rfl ?_;refine SG_q (Rq_assign rfl) rfl ?_;refine SG_nil ?_;refine D_then ?_;refine W_seq ?_;refine W_seq ?_;refine W_region ?_;refine SG_q (Rq_move rfl) rfl ?_;refine SG_q (Rq_not rfl) rfl ?_;refine SG_q (Rq_move rfl) rfl ?_;refine SG_or (r := ?r70n3) 3 73 70 rfl ?_ ?_ ?_; rotate_left
  ·intro g70 K70
   have g70' := g70; try simp only [dd] at g70'
   have hm70 := Below.refl (w65).heap.size w65;refine SG_yes 70 rfl rfl g70 (SG_q (Rq_move rfl) rfl (SG_yes 70 rfl rfl g70 (SG_q (Rq_not rfl) rfl (SG_q (Rq_pick rfl (fun h => absurd (g70.symm.trans h) (by decide)) (fun _ => rfl)) rfl ?_))));exact K70 _ _ hm70 (by repeat (first | exact Sub.refl | refine Sub.shadow ?_ | refine Sub.same ?_ | refine Sub.push rfl ?_))
  ·intro g70 K70
   have g70' := g70; try simp only [dd] at g70'
   have hm70 := Below.refl (w65).heap.size w65;refine SG_no 70 rfl rfl g70 rfl (SG_no 70 rfl rfl g70 rfl (SG_q (Rq_pick rfl (fun _ => rfl) (fun h => absurd (g70.symm.trans h) (by decide))) rfl ?_));exact K70 _ _ hm70 (by repeat (first | exact Sub.refl | refine Sub.shadow ?_ | refine Sub.same ?_ | refine Sub.push rfl ?_))
  intro wm70 hbm70;replace hb0 := btr hb0 hbm70;replace hp := hp.below hbm70;replace hs1 := hs1.below hbm70;replace hs2 := hs2.below hbm70;replace hs3 := hs3.below hbm70;replace hBs1x3 := hBs1x3.below hbm70;replace hD0 := hD0.below hbm70;replace hP := hP.below hbm70;replace hQ := hQ.below hbm70
  simp only [List.drop_succ_cons, List.drop_zero]
  refine SG_q (Rq_move rfl) rfl ?_;refine SG_or (r := ?r74n4) 5 79 74 rfl ?_ ?_ ?_; rotate_left
  ·intro g74 K74
   have g74' := g74; try simp only [dd] at g74'
   have hm74 := Below.refl (wm70).heap.size wm70;refine SG_yes 74 rfl rfl g74 (SG_q (Rq_move rfl) rfl (SG_yes 74 rfl rfl g74 (SG_q (Rq_move rfl) rfl (SG_yes 74 rfl rfl g74 (SG_pure rfl Tryz.call35 rfl (f35_c (hP.sl) (hD0.sl) hal1 hal) ?_)))));intro w77 hb77;replace hb0 := btr hb0 hb77;replace hm74 := btr hm74 hb77;refine SG_yes 74 rfl rfl g74 (SG_q (Rq_not rfl) rfl (SG_q (Rq_pick rfl (fun h => absurd (g74.symm.trans h) (by decide)) (fun _ => rfl)) rfl ?_));exact K74 _ _ hm74 (by repeat (first | exact Sub.refl | refine Sub.shadow ?_ | refine Sub.same ?_ | refine Sub.push rfl ?_))
  ·intro g74 K74
   have g74' := g74; try simp only [dd] at g74'
   have hm74 := Below.refl (wm70).heap.size wm70;refine SG_no 74 rfl rfl g74 rfl (SG_no 74 rfl rfl g74 rfl (SG_no 74 rfl rfl g74 rfl (SG_no 74 rfl rfl g74 rfl (SG_q (Rq_pick rfl (fun _ => rfl) (fun h => absurd (g74.symm.trans h) (by decide))) rfl ?_))));exact K74 _ _ hm74 (by repeat (first | exact Sub.refl | refine Sub.shadow ?_ | refine Sub.same ?_ | refine Sub.push rfl ?_))
  intro wm74 hbm74;replace hb0 := btr hb0 hbm74;replace hp := hp.below hbm74;replace hs1 := hs1.below hbm74;replace hs2 := hs2.below hbm74;replace hs3 := hs3.below hbm74;replace hBs1x3 := hBs1x3.below hbm74;replace hD0 := hD0.below hbm74;replace hQ := hQ.below hbm74
  simp only [List.drop_succ_cons, List.drop_zero]
  refine SG_q (Rq_move rfl) rfl ?_;refine SG_or (r := ?r80n5) 5 85 80 rfl ?_ ?_ ?_; rotate_left
  ·intro g80 K80
   have g80' := g80; try simp only [dd] at g80'
   have hm80 := Below.refl (wm74).heap.size wm74;refine SG_yes 80 rfl rfl g80 (SG_q (Rq_move rfl) rfl (SG_yes 80 rfl rfl g80 (SG_q (Rq_move rfl) rfl (SG_yes 80 rfl rfl g80 (SG_pure rfl Tryz.call35 rfl (f35_c (hQ.sl) (hD0.sl) hal2 hal) ?_)))));intro w83 hb83;replace hb0 := btr hb0 hb83;replace hm80 := btr hm80 hb83;refine SG_yes 80 rfl rfl g80 (SG_q (Rq_not rfl) rfl (SG_q (Rq_pick rfl (fun h => absurd (g80.symm.trans h) (by decide)) (fun _ => rfl)) rfl ?_));exact K80 _ _ hm80 (by repeat (first | exact Sub.refl | refine Sub.shadow ?_ | refine Sub.same ?_ | refine Sub.push rfl ?_))
  ·intro g80 K80
   have g80' := g80; try simp only [dd] at g80'
   have hm80 := Below.refl (wm74).heap.size wm74;refine SG_no 80 rfl rfl g80 rfl (SG_no 80 rfl rfl g80 rfl (SG_no 80 rfl rfl g80 rfl (SG_no 80 rfl rfl g80 rfl (SG_q (Rq_pick rfl (fun _ => rfl) (fun h => absurd (g80.symm.trans h) (by decide))) rfl ?_))));exact K80 _ _ hm80 (by repeat (first | exact Sub.refl | refine Sub.shadow ?_ | refine Sub.same ?_ | refine Sub.push rfl ?_))
  intro wm80 hbm80;replace hb0 := btr hb0 hbm80;replace hp := hp.below hbm80;replace hs1 := hs1.below hbm80;replace hs2 := hs2.below hbm80;replace hs3 := hs3.below hbm80;replace hBs1x3 := hBs1x3.below hbm80;replace hD0 := hD0.below hbm80
  simp only [List.drop_succ_cons, List.drop_zero]
  refine SG_nil (D_then ?_);refine W_cond rfl ?_ ?_
  ·intro g85; exfalso; (try simp only [dd] at g85); simp [hcT, hcE] at g85
  ·intro g85
   try simp only [dd] at g85
   refine W_skip (D_then (W_seq (W_region ?_)))
   first | refine SG_q (Rq_loadBW (hBs1x3) Tryz.isAgg26 Tryz.sizeOf26 rfl rfl) rfl ?_ | refine SG_q (Rq_loadBA (hBs1x3) Tryz.isAgg26 Tryz.sizeOf26 rfl rfl rfl) rfl ?_
   refine SG_call rfl Tryz.call34 rfl (f34_c (⟨⟨_, _, _, rfl, (hs1), (hs2), (hs3)⟩⟩ : CoS _ _ C) p1 p2 p3) ?_;rintro v88 w88 hb88 ⟨ta1, tn1, tc1, ta2, tn2, tc2, ta3, tn3, tc3, rfl, ht1, ht2, ht3⟩;replace hb0 := btr hb0 hb88;replace hp := hp.below hb88;replace hs1 := hs1.below hb88;replace hs2 := hs2.below hb88;replace hs3 := hs3.below hb88;replace hBs1x3 := hBs1x3.below hb88;replace hD0 := hD0.below hb88;replace ht1 := ht1.sl;replace ht2 := ht2.sl;replace ht3 := ht3.sl;refine SG_call rfl Tryz.call29 rfl (f29_c (C := C) (ht1) (ht2) (ht3) p1 p2 p3) ?_;rintro v89 w89 hb89 rfl;replace hb0 := btr hb0 hb89;replace hp := hp.below hb89;replace hs1 := hs1.below hb89;replace hs2 := hs2.below hb89;replace hs3 := hs3.below hb89;replace hBs1x3 := hBs1x3.below hb89;replace hD0 := hD0.below hb89;replace ht1 := ht1.below hb89;replace ht2 := ht2.below hb89;replace ht3 := ht3.below hb89;clear ht1;clear ht2;clear ht3;refine SG_q (Rq_move rfl) rfl (SG_q (Rq_extract rfl rfl) rfl (SG_q (Rq_extract rfl rfl) rfl (SG_q (Rq_assign rfl) rfl (SG_q (Rq_assign rfl) rfl (SG_nil (D_then (W_seq (W_seq (W_region (SG_q (Rq_assign rfl) rfl (SG_nil (D_then (W_block ?_)))))))))))))
   have hpb5 : 0 < ps.length → ¬ sb vp = b5 := fun hq e => by have := hpl0 hq; omega
   have hdb5 : 0 < (cellsA C).length → ¬ sb u33 = b5 := fun hq e => by have := (hD0.lt (sb_own hD0.sl hq)).1; omega
   refine W_loop (α := Ex) (fun x => [(17, .int .i64 (x.i : Nat)), (16, .int .i64 (if checkR x.C = 0 then ((foundR x.C).length : Nat) else 0 : Int)), (9, .int .i64 (checkR C)), (6, u33), (1, vp), (5, .pointer (some ⟨b5, 0, none⟩))]) (fun x w' => Below w.heap.size w w' ∧ ((Cu x.C ∧ cellsA x.C = cellsA C) ∧ x.i ≤ 40) ∧ Blk w' b5 [x.v1, x.v2, x.v3] 26 ∧ (SL w' x.v1 3 encC x.C.ch ∧ SL w' x.v2 5 encO x.C.ops ∧ SL w' x.v3 1 encI x.C.roots) ∧ SL w' vp 1 encU ps ∧ SL w' u33 2 encV (cellsA C) ∧ ((0 < x.C.ch.length → ¬ sb x.v1 = b5) ∧ (0 < x.C.ops.length → ¬ sb x.v2 = b5) ∧ (0 < x.C.roots.length → ¬ sb x.v3 = b5))) (fun x => 40 - x.i) ((⟨0, C, .slice sa1 sn1 sc1, .slice sa2 sn2 sc2, .slice sa3 sn3 sc3⟩ : Ex)) (by repeat (first | exact Sub.nil | refine Sub.cons rfl ?_)) ⟨hb0, ⟨⟨hcu, rfl⟩, Nat.zero_le _⟩, hBs1x3, ⟨hs1, hs2, hs3⟩, hp, hD0.sl, (fun hq e => by have := hsl1 hq; dsimp only at e; omega), (fun hq e => by have := hsl2 hq; dsimp only at e; omega), (fun hq e => by have := hsl3 hq; dsimp only at e; omega)⟩ ?_;clear hb0;clear hx;clear hp;clear hs1;clear hs2;clear hs3;clear hBs1x3;clear hD0;clear ha1;clear ha2;clear ha3;clear hBs3x7;clear hb1;clear hb2;clear hb3;clear hBs4x7;clear hP;clear hQ;rintro x wl0 ⟨hb0, ⟨⟨hcux, hsame⟩, hix⟩, hB5, ⟨hu1, hu2, hu3⟩, hp, hD, ne_hu1_b5, ne_hu2_b5, ne_hu3_b5⟩;have hckx := hcux.ck
   have hl1 : x.C.ch.length ≤ 100000 := by rw [hcux.ch]; decide
   have hl2 := hcux.ol; have hl3 := hcux.rl;clear p1 p2 p3;have p1 : x.C.ch.length ≤ 100000 := hl1
   have p2 : x.C.ops.length ≤ 100000 := by omega
   have p3 : x.C.roots.length ≤ 100000 := by omega
   have hz0 := hb0.size;have hul1 := hu1.lt; have hul2 := hu2.lt; have hul3 := hu3.lt; have hpl := hp.lt; have hdl := hD.lt; have hzb5 := hB5.lt;have ne_hp_b5 : 0 < ps.length → ¬ sb vp = b5 := hpb5;have ne_hD_b5 : 0 < (cellsA C).length → ¬ sb u33 = b5 := hdb5;refine W_seq (W_seq (W_region (SG_q (Rq_move rfl) rfl (SG_q (Rq_move rfl) rfl ?_))))
   first | refine SG_q (Rq_len (hu1) Tryz.runUnderlying57 rfl) rfl ?_ | refine SG_q (Rq_len (hu2) Tryz.runUnderlying57 rfl) rfl ?_ | refine SG_q (Rq_len (hu3) Tryz.runUnderlying57 rfl) rfl ?_ | refine SG_q (Rq_len (hp) Tryz.runUnderlying57 rfl) rfl ?_ | refine SG_q (Rq_len (hD) Tryz.runUnderlying57 rfl) rfl ?_
   refine SG_q (Rq_lss rfl rfl) rfl ?_;refine SG_q (Rq_move rfl) rfl ?_;refine SG_and (r := ?r96n6) 3 99 96 rfl ?_ ?_ ?_; rotate_left
   ·intro g96 K96
    have g96' := g96; try simp only [dd] at g96'
    have hm96 := Below.refl (wl0).heap.size wl0;refine SG_yes 96 rfl rfl g96 (SG_q (Rq_move rfl) rfl (SG_yes 96 rfl rfl g96 (SG_q (Rq_lss rfl rfl) rfl (SG_q (Rq_pick rfl (fun _ => rfl) (fun h => absurd (g96.symm.trans h) (by decide))) rfl ?_))));exact K96 _ _ hm96 (by repeat (first | exact Sub.refl | refine Sub.shadow ?_ | refine Sub.same ?_ | refine Sub.push rfl ?_))
   ·intro g96 K96
    have g96' := g96; try simp only [dd] at g96'
    have hm96 := Below.refl (wl0).heap.size wl0;refine SG_no 96 rfl rfl g96 rfl (SG_no 96 rfl rfl g96 rfl (SG_q (Rq_pick rfl (fun h => absurd (g96.symm.trans h) (by decide)) (fun _ => rfl)) rfl ?_));exact K96 _ _ hm96 (by repeat (first | exact Sub.refl | refine Sub.shadow ?_ | refine Sub.same ?_ | refine Sub.push rfl ?_))
   intro wm96 hbm96;replace hb0 := btr hb0 hbm96;replace hB5 := hB5.below hbm96;replace hu1 := hu1.below hbm96;replace hu2 := hu2.below hbm96;replace hu3 := hu3.below hbm96;replace hp := hp.below hbm96;replace hD := hD.below hbm96
   simp only [List.drop_succ_cons, List.drop_zero]
   refine SG_nil (D_then ?_);refine W_cond rfl ?_ ?_
   ·intro g99
    try simp only [dd] at g99
    refine W_skip (D_then (W_seq (W_block (W_seq (W_region (SG_bslice (enc := encR) (val := valR) (os := []) rfl rfl MV.nil (fun _ => rfl) (fun _ => rfl) Tryz.runUnderlying30 Tryz.sizeOf45 Tryz.zeroValue45 rfl (by decide) (by decide) rfl ?_))))));intro w102 v102 b102 e102 hb102 hz102 hob102 hO102
    have hle102 : w.heap.size ≤ b102 := by have := hb0.size; omega
    have lt_b5_102 : b5 < b102 := by have := hB5.lt; omega
    replace hb0 := btr hb0 hb102;replace hB5 := hB5.below hb102;replace hu1 := hu1.below hb102;replace hu2 := hu2.below hb102;replace hu3 := hu3.below hb102;replace hp := hp.below hb102;replace hD := hD.below hb102;refine SG_q (Rq_assign rfl) rfl ?_;refine SG_nil ?_;refine D_then ?_;refine W_seq ?_;refine W_seq ?_;refine W_region ?_;refine SG_q (Rq_assign rfl) rfl ?_;refine SG_nil ?_;refine D_then ?_;refine W_block ?_;refine W_loop (α := Nat × Value) (fun z => [(19, .int .i64 (z.1 : Nat)), (18, z.2), (17, .int .i64 (x.i : Nat)), (16, .int .i64 (if checkR x.C = 0 then ((foundR x.C).length : Nat) else 0 : Int)), (9, .int .i64 (checkR C)), (6, u33), (1, vp), (5, .pointer (some ⟨b5, 0, none⟩))]) (fun z w' => Below w.heap.size w w' ∧ (z.1 ≤ x.C.ops.length ∧ wl0.heap.size ≤ w'.heap.size) ∧ OS w' z.2 45 2 encR (canL x.C z.1) wl0.heap.size ∧ Blk w' b5 [x.v1, x.v2, x.v3] 26 ∧ (SL w' x.v1 3 encC x.C.ch ∧ SL w' x.v2 5 encO x.C.ops ∧ SL w' x.v3 1 encI x.C.roots) ∧ SL w' vp 1 encU ps ∧ SL w' u33 2 encV (cellsA C)) (fun z => x.C.ops.length - z.1) ((0, v102)) (by repeat (first | exact Sub.nil | refine Sub.cons rfl ?_)) ⟨hb0, ⟨Nat.zero_le _, by have q1 := hb102.size; have q2 := hbm96.size; omega⟩, hO102.le (by have q2 := hbm96.size; omega), hB5, ⟨hu1, hu2, hu3⟩, hp, hD⟩ ?_;clear hb0;clear hB5;clear hu1;clear hu2;clear hu3;clear hp;clear hD;clear hO102;rintro z wl1 ⟨hb0, ⟨hzi, hzw⟩, hZ, hB5, ⟨hu1, hu2, hu3⟩, hp, hD⟩;refine W_seq ?_;refine W_seq ?_;refine W_region ?_;refine SG_q (Rq_move rfl) rfl ?_;refine SG_q (Rq_fieldAddr fa26_1 rfl) rfl ?_;refine SG_q (Rq_loadB (hB5) Tryz.isAgg23 rfl rfl) rfl ?_
    first | refine SG_q (Rq_len (hu1) Tryz.runUnderlying23 rfl) rfl ?_ | refine SG_q (Rq_len (hu2) Tryz.runUnderlying23 rfl) rfl ?_ | refine SG_q (Rq_len (hu3) Tryz.runUnderlying23 rfl) rfl ?_ | refine SG_q (Rq_len (hp) Tryz.runUnderlying23 rfl) rfl ?_ | refine SG_q (Rq_len (hD) Tryz.runUnderlying23 rfl) rfl ?_ | refine SG_q (Rq_len (hZ.sl) Tryz.runUnderlying23 rfl) rfl ?_
    refine SG_q (Rq_lss rfl rfl) rfl (SG_nil (D_then ?_));refine W_cond rfl ?_ ?_
    ·intro g107
     try simp only [dd] at g107
     have hzl : z.1 < x.C.ops.length := by omega
     have hre0 : rulesE x.C (z.1 : Int) = 0 := by rw [rulesE, if_neg (by simp [hckx]), if_neg (by omega)]
     refine W_skip (D_then (W_seq (W_block (W_seq (W_region ?_)))))
     first | refine SG_q (Rq_loadBW (hB5) Tryz.isAgg26 Tryz.sizeOf26 rfl rfl) rfl ?_ | refine SG_q (Rq_loadBA (hB5) Tryz.isAgg26 Tryz.sizeOf26 rfl rfl rfl) rfl ?_
     refine SG_call rfl Tryz.call34 rfl (f34_c (⟨⟨_, _, _, rfl, (hu1), (hu2), (hu3)⟩⟩ : CoS _ _ x.C) p1 p2 p3) ?_;rintro v112 w112 hb112 ⟨ta1, tn1, tc1, ta2, tn2, tc2, ta3, tn3, tc3, rfl, ht1, ht2, ht3⟩;replace hb0 := btr hb0 hb112;replace hB5 := hB5.below hb112;replace hu1 := hu1.below hb112;replace hu2 := hu2.below hb112;replace hu3 := hu3.below hb112;replace hp := hp.below hb112;replace hD := hD.below hb112;replace hZ := hZ.below hb112;replace ht1 := ht1.sl;replace ht2 := ht2.sl;replace ht3 := ht3.sl;refine SG_q (Rq_move rfl) rfl (SG_call rfl Tryz.call26 rfl (f26_c (C := x.C) (ht1) (ht2) (ht3) p1 p2 p3 (z.1 : Int)) ?_);rintro v114 w114 hb114 ⟨u114, rfl, hr1⟩;replace hb0 := btr hb0 hb114;replace hB5 := hB5.below hb114;replace hu1 := hu1.below hb114;replace hu2 := hu2.below hb114;replace hu3 := hu3.below hb114;replace hp := hp.below hb114;replace hD := hD.below hb114;replace hZ := hZ.below hb114;rw [if_pos hre0] at hr1;refine SG_q (Rq_move rfl) rfl (SG_q (Rq_extract rfl rfl) rfl (SG_q (Rq_extract rfl rfl) rfl (SG_q (Rq_assign rfl) rfl (SG_q (Rq_assign rfl) rfl (SG_nil (D_then (W_seq (W_seq (W_region (SG_q (Rq_move rfl) rfl (SG_q (Rq_neq rfl rfl) rfl (SG_nil (D_then ?_)))))))))))));refine W_cond rfl ?_ ?_
     ·intro g118; exfalso; (try simp only [dd] at g118); rw [hre0] at g118; simp at g118
     ·intro g118
      try simp only [dd] at g118
      refine W_skip ?_;refine D_then ?_;refine W_seq ?_;refine W_region ?_;refine SG_q (Rq_assign rfl) rfl ?_;refine SG_nil ?_;refine D_then ?_;refine W_block ?_;refine W_loop (α := Nat × Value) (fun y => [(22, .int .i64 (y.1 : Nat)), (20, u114), (18, y.2), (19, .int .i64 (z.1 : Nat)), (17, .int .i64 (x.i : Nat)), (16, .int .i64 (if checkR x.C = 0 then ((foundR x.C).length : Nat) else 0 : Int)), (9, .int .i64 (checkR C)), (6, u33), (1, vp), (5, .pointer (some ⟨b5, 0, none⟩))]) (fun y w' => Below w.heap.size w w' ∧ (y.1 ≤ (rulesC x.C (z.1 : Int)).length ∧ wl0.heap.size ≤ w'.heap.size) ∧ OS w' y.2 45 2 encR ((canL x.C z.1 ++ ((rulesC x.C (z.1 : Int)).take y.1).map fun r => (⟨r, (z.1 : Int)⟩ : Rw))) wl0.heap.size ∧ OS w' u114 5 1 encU (rulesC x.C (z.1 : Int)) 0 ∧ Blk w' b5 [x.v1, x.v2, x.v3] 26 ∧ (SL w' x.v1 3 encC x.C.ch ∧ SL w' x.v2 5 encO x.C.ops ∧ SL w' x.v3 1 encI x.C.roots) ∧ SL w' vp 1 encU ps ∧ SL w' u33 2 encV (cellsA C)) (fun y => (rulesC x.C (z.1 : Int)).length - y.1) ((0, z.2)) (by repeat (first | exact Sub.nil | refine Sub.cons rfl ?_)) ⟨hb0, ⟨Nat.zero_le _, by have q1 := hb112.size; have q2 := hb114.size; omega⟩, by simpa using hZ, hr1.le (Nat.zero_le _), hB5, ⟨hu1, hu2, hu3⟩, hp, hD⟩ ?_;clear hb0;clear hB5;clear hu1;clear hu2;clear hu3;clear hp;clear hD;clear hZ;clear ht1;clear ht2;clear ht3;clear hr1;rintro y wl2 ⟨hb0, ⟨hyi, hyw⟩, hY, hr1, hB5, ⟨hu1, hu2, hu3⟩, hp, hD⟩;refine W_seq ?_;refine W_seq ?_;refine W_region ?_;refine SG_q (Rq_move rfl) rfl ?_;refine SG_q (Rq_move rfl) rfl ?_
      first | refine SG_q (Rq_len (hu1) Tryz.runUnderlying57 rfl) rfl ?_ | refine SG_q (Rq_len (hu2) Tryz.runUnderlying57 rfl) rfl ?_ | refine SG_q (Rq_len (hu3) Tryz.runUnderlying57 rfl) rfl ?_ | refine SG_q (Rq_len (hp) Tryz.runUnderlying57 rfl) rfl ?_ | refine SG_q (Rq_len (hD) Tryz.runUnderlying57 rfl) rfl ?_ | refine SG_q (Rq_len (hY.sl) Tryz.runUnderlying57 rfl) rfl ?_ | refine SG_q (Rq_len (hr1.sl) Tryz.runUnderlying57 rfl) rfl ?_
      refine SG_q (Rq_lss rfl rfl) rfl (SG_nil (D_then ?_));refine W_cond rfl ?_ ?_
      ·intro g122
       try simp only [dd] at g122
       have hcb1 := canL_len x.C z.1; have hcb2 := rulesC_len x.C (z.1 : Int)
       have hcb3 : ((List.take y.1 (rulesC x.C (z.1 : Int))).map fun r => (⟨r, (z.1 : Int)⟩ : Rw)).length ≤ 11 := by rw [List.length_map, List.length_take]; omega
       obtain ⟨q, hq9⟩ : ∃ q, (rulesC x.C (z.1 : Int))[y.1]? = some q := ⟨_, List.getElem?_eq_getElem (by omega)⟩
       refine W_skip (D_then (W_seq (W_block (W_region (SG_q (Rq_move rfl) rfl (SG_q (Rq_move rfl) rfl (SG_q (Rq_move rfl) rfl ?_)))))))
       first | refine SG_index (hu1) Tryz.runUnderlying57 Tryz.sizeOf5 rfl rfl ?_ ?_ rfl ?_ | refine SG_index (hu2) Tryz.runUnderlying57 Tryz.sizeOf5 rfl rfl ?_ ?_ rfl ?_ | refine SG_index (hu3) Tryz.runUnderlying57 Tryz.sizeOf5 rfl rfl ?_ ?_ rfl ?_ | refine SG_index (hp) Tryz.runUnderlying57 Tryz.sizeOf5 rfl rfl ?_ ?_ rfl ?_ | refine SG_index (hD) Tryz.runUnderlying57 Tryz.sizeOf5 rfl rfl ?_ ?_ rfl ?_ | refine SG_index (hY.sl) Tryz.runUnderlying57 Tryz.sizeOf5 rfl rfl ?_ ?_ rfl ?_ | refine SG_index (hr1.sl) Tryz.runUnderlying57 Tryz.sizeOf5 rfl rfl ?_ ?_ rfl ?_
       ·omega
       ·omega
       intro x128 hx128 hc128;have ex128 := Option.some.inj ((hq9).symm.trans hx128); subst ex128;refine SG_q (Rq_load Tryz.isAgg5 rfl ((hc128).cell 0 rfl)) rfl (SG_q (Rq_move rfl) rfl (SG_q (Rq_build2 build45_0_1 rfl rfl rfl rfl ) rfl (SG_bslice (enc := encR) (val := valR) (os := [.tmp 131]) rfl rfl (MV.cons (x := (⟨q, (z.1 : Int)⟩ : Rw)) MV.nil) (fun _ => rfl) (fun _ => rfl) Tryz.runUnderlying30 Tryz.sizeOf45 Tryz.zeroValue45 rfl (by decide) (by decide) rfl ?_)));intro w132 v132 b132 e132 hb132 hz132 hob132 hO132
       have hle132 : w.heap.size ≤ b132 := by have := hb0.size; omega
       have lt_b5_132 : b5 < b132 := by have := hB5.lt; omega
       replace hb0 := btr hb0 hb132;replace hB5 := hB5.below hb132;replace hu1 := hu1.below hb132;replace hu2 := hu2.below hb132;replace hu3 := hu3.below hb132;replace hp := hp.below hb132;replace hD := hD.below hb132;replace hY := hY.below hb132;replace hr1 := hr1.below hb132;refine SG_append (hY) (hO132.sl) Tryz.underlying30 info45 rfl rfl rfl (fun _ _ => rfl) (by (try simp only [List.length_append, List.length_cons, List.length_nil]); omega) (by (try simp only [List.length_append, List.length_cons, List.length_nil]); omega) (by have := hb132.size; omega) rfl ?_;intro v133 w133 hO133 hch133 hsn133;replace hb0 := hb0.trans (hch133.below hb0.size (fun k hk e => by have := (hY).lt e; omega))
       replace hB5 := (hB5.chg hch133 (fun e => by have := (hY.lt e).1; omega))
       replace hu1 := (hu1.chg hch133 (fun hq e => by have := hul1 hq; have := (hY.lt e).1; omega))
       replace hu2 := (hu2.chg hch133 (fun hq e => by have := hul2 hq; have := (hY.lt e).1; omega))
       replace hu3 := (hu3.chg hch133 (fun hq e => by have := hul3 hq; have := (hY.lt e).1; omega))
       replace hp := (hp.chg hch133 (fun hq e => by have := hpl hq; have := (hY.lt e).1; omega))
       replace hD := (hD.chg hch133 (fun hq e => by have := hdl hq; have := (hY.lt e).1; omega))
       replace hr1 := (hr1.chg hch133 (fun b hb e => OS.ne_type hr1 hY (by decide) b hb e))
       clear hc128;clear hO132;clear hY;refine SG_q (Rq_assign rfl) rfl ?_;refine SG_nil ?_;refine D_block ?_;refine D_then ?_;refine W_region ?_;refine SG_q (Rq_move rfl) rfl ?_;refine SG_q (Rq_add rfl rfl (wrap_i64 (by omega) (by omega))) rfl ?_;refine SG_q (Rq_assign rfl) rfl ?_;refine SG_nil ?_;refine D_loop ((y.1 + 1, _)) (by repeat (first | exact Sub.nil | refine Sub.cons rfl ?_)) ⟨hb0, ⟨by dsimp only; omega, by have := hb132.size; have := hch133.size; omega⟩, by dsimp only; rw [take_succ_get hq9, List.map_append, ← List.append_assoc]; exact hO133, hr1, hB5, ⟨hu1, hu2, hu3⟩, hp, hD⟩ (by dsimp only; omega)
      ·intro g122
       try simp only [dd] at g122
       rw [List.take_of_length_le (show (rulesC x.C (z.1 : Int)).length ≤ y.1 by omega), ← canL_succ] at hY;refine W_exit ?_;refine D_then_exit ?_;refine D_loop_exit ?_;refine D_block_exit ?_;refine D_block ?_;refine D_then ?_;refine W_region ?_;refine SG_q (Rq_move rfl) rfl ?_;refine SG_q (Rq_add rfl rfl (wrap_i64 (by omega) (by omega))) rfl ?_;refine SG_q (Rq_assign rfl) rfl ?_;refine SG_nil ?_;refine D_loop ((z.1 + 1, y.2)) (by repeat (first | exact Sub.nil | refine Sub.cons rfl ?_)) ⟨hb0, ⟨by dsimp only; omega, hyw⟩, hY, hB5, ⟨hu1, hu2, hu3⟩, hp, hD⟩ (by dsimp only; omega)
    ·intro g107
     try simp only [dd] at g107
     have hze : z.1 = x.C.ops.length := by omega
     rw [hze] at hZ;refine W_exit (D_then_exit (D_loop_exit ?_));refine D_block_exit (D_then (W_seq (W_seq (W_region (SG_q (Rq_move rfl) rfl ?_)))))
     first | refine SG_q (Rq_len (hu1) Tryz.runUnderlying30 rfl) rfl ?_ | refine SG_q (Rq_len (hu2) Tryz.runUnderlying30 rfl) rfl ?_ | refine SG_q (Rq_len (hu3) Tryz.runUnderlying30 rfl) rfl ?_ | refine SG_q (Rq_len (hp) Tryz.runUnderlying30 rfl) rfl ?_ | refine SG_q (Rq_len (hD) Tryz.runUnderlying30 rfl) rfl ?_ | refine SG_q (Rq_len (hZ.sl) Tryz.runUnderlying30 rfl) rfl ?_
     refine SG_q (Rq_eql rfl rfl) rfl (SG_nil (D_then ?_));refine W_cond rfl ?_ ?_
     ·intro g136
      try simp only [dd] at g136
      refine W_exit (D_then_exit (D_block_other rfl (D_then_exit (D_loop_exit ?_))));refine D_block_exit (D_then (W_seq (W_region (SG_pure rfl Tryz.call10 rfl (f10_c _) ?_))));intro w201 hb201;replace hb0 := btr hb0 hb201;refine SG_q (Rq_assign rfl) rfl (SG_nil (D_then (W_ret (D_body1 rfl rfl rfl ?_))));exact ⟨rfl, hb0⟩
     ·intro g136
      try simp only [dd] at g136
      obtain ⟨pk, hpk⟩ : ∃ pk, ps[((x.i : Nat) : Int).toNat]? = some pk := ⟨_, List.getElem?_eq_getElem (by omega)⟩
      have hpp := hpsq _ (List.mem_of_getElem? hpk);have hm71 := tmod_bd (a := pk) (n := ((canL x.C x.C.ops.length).length : Int)) (by omega) (by omega)
      obtain ⟨r, hel⟩ : ∃ r, (canL x.C x.C.ops.length)[(pk.tmod ((canL x.C x.C.ops.length).length : Int)).toNat]? = some r := ⟨_, List.getElem?_eq_getElem (by omega)⟩
      obtain ⟨hr0, hr1, hap⟩ := canL_mem (List.mem_of_getElem? hel);have hrp := replay_one hckx hr0 hr1 hap;have hcu2 := hcux.app hr0 hr1 hap;have hck2 := hcu2.ck;obtain ⟨hlen1, hlen2, hlen3⟩ := appR_len x.C r;have hfl := found_less hckx hr0 hr1 hap;have hcN : cellsA (appR x.C r) = cellsA C := (cellsA_eq (fun wd => keep_app hckx hr0 hr1 hap)).trans hsame
      have e1 : (appR x.C r).ch.length ≤ 100000 := by rw [hlen1]; exact p1
      have e2 : (appR x.C r).ops.length ≤ 100000 := by omega
      have e3 : (appR x.C r).roots.length ≤ 100000 := by omega
      have hnl : (cellsA (appR x.C r)).length ≤ 100000 := by rw [hcN]; exact hal
      refine W_skip ?_;refine D_then ?_;refine W_seq ?_;have hz5 := hB5.lt;refine W_anyG 19 [[], [0], [], [], [], [3, 4], [5], [6], [], [8], [7, 9], [2, 10], [11], [1, 12], [13], [14], [14], [], [17, 15]] (List.replicate 1 (FrE wl1.heap.size 26 3)) (fun w9 => Below wl1.heap.size wl1 w9) [gdet [] ?a27_0n7, gfrs [0] ((CoW 84 76 3 wl1.heap.size x.C)), gdet [] ?a27_2n7, gdet [] ?a27_3n7, gdet [] ?a27_4n7, gdet [3, 4] ?a27_5n7, gdet [5] ?a27_6n7, gdet [6] ?a27_7n7, gdet [] ?a27_8n7, gdet [8] ?a27_9n7, gdet [7, 9] ?a27_10n7, gdet [2, 10] ?a27_11n7, gdet [11] ?a27_12n7, gfrs [1, 12] ((fun v w _ _ => ∃ u, v = .tuple #[u, .int .i64 0] ∧ CoO 84 76 3 wl1.heap.size w u (appR x.C r))), gfrs [13] ((fun v w _ _ => ∃ u, v = .tuple #[u, .int .i64 0] ∧ CoO 84 76 3 wl1.heap.size w u (appR x.C r))), gfrs [14] ((fun v w _ _ => CoO 84 76 3 wl1.heap.size w v (appR x.C r))), gdet [14] ?a27_16n7, gfrs [] (AllocL wl1.heap.size 26 3), gsv 0 [17, 15] (StRf 26 (fun vs => (vs.getD 1 undef).cells.toList)) StV] Tryz.mixed (by kernel_rfl) (by kernel_rfl) rfl rfl (fr_ok rfl) (fs_stab (tg := [17]) rfl (by decide) ⟨.det, .val (fun _ _ _ _ _ hc h => CoW.frR (by decide) (by decide) (by decide) h hc), .det, .det, .det, .det, .det, .det, .det, .det, .det, .det, .det, .val (fun _ _ _ _ _ hc ⟨u, e, h⟩ => ⟨u, e, CoO.frR (by decide) (by decide) (by decide) h hc⟩), .val (fun _ _ _ _ _ hc ⟨u, e, h⟩ => ⟨u, e, CoO.frR (by decide) (by decide) (by decide) h hc⟩), .val (fun _ _ _ _ _ hc h => CoO.frR (by decide) (by decide) (by decide) h hc), .det, .frs, .sv rfl rfl, trivial⟩) (Below.refl _ _) (fun h => h.drew) ?_ ?_; rotate_left 13
      ·refine GObls_cons ?_ ?_
       ·intro wq hq hzq
        refine GObl_nil ?_
        first | (refine GEx_q2 (Rq_loadBW ((hB5).below hq) Tryz.isAgg26 Tryz.sizeOf26 rfl rfl) ?_; first | exact rfl | rfl) | (refine GEx_q2 (Rq_loadBA ((hB5).below hq) Tryz.isAgg26 Tryz.sizeOf26 rfl rfl rfl) ?_; first | exact rfl | rfl)
       refine GObls_cons ?_ ?_
       ·intro wq hq hzq
        refine GObl_det rfl rfl rfl (GObl_nil ?_);exact GEx.of (Ex_call rfl Tryz.call34 (Fn.mono (f34_c (⟨⟨_, _, _, rfl, hu1.below hq, hu2.below hq, hu3.below hq⟩⟩ : CoS _ _ x.C) p1 p2 p3) fun v w' hb h => CoW.le h hzq))
       refine GObls_cons ?_ ?_
       ·intro wq hq hzq
        refine GObl_nil ?_
        refine GEx_q2 (Rq_move rfl) ?_; first | exact rfl | rfl
       refine GObls_cons ?_ ?_
       ·intro wq hq hzq
        refine GObl_nil ?_
        refine GEx_q2 (Rq_move rfl) ?_; first | exact rfl | rfl
       refine GObls_cons ?_ ?_
       ·intro wq hq hzq
        refine GObl_nil ?_
        refine GEx_q2 (Rq_move rfl) ?_; first | exact rfl | rfl
       refine GObls_cons ?_ ?_
       ·intro wq hq hzq
        refine GObl_det rfl rfl rfl (GObl_det rfl rfl rfl (GObl_nil ?_))
        refine GEx_q2 (Rq_index (hp.below hq) Tryz.runUnderlying57 Tryz.sizeOf5 rfl rfl (by omega) (by omega)) ?_; first | exact rfl | rfl
       refine GObls_cons ?_ ?_
       ·intro wq hq hzq
        refine GObl_det rfl rfl rfl (GObl_nil ?_)
        refine GEx_q2 (Rq_load Tryz.isAgg5 rfl (((hp.cells _ _ hpk).below hq).cell 0 rfl)) ?_; first | exact rfl | rfl
       refine GObls_cons ?_ ?_
       ·intro wq hq hzq
        refine GObl_det rfl rfl rfl (GObl_nil ?_)
        refine GEx_q2 (Rq_convert Tryz.runUnderlying5 Tryz.runUnderlying3 rfl (wrap_i64 (by omega) (by omega))) ?_; first | exact rfl | rfl
       refine GObls_cons ?_ ?_
       ·intro wq hq hzq
        refine GObl_nil ?_
        refine GEx_q2 (Rq_move rfl) ?_; first | exact rfl | rfl
       refine GObls_cons ?_ ?_
       ·intro wq hq hzq
        refine GObl_det rfl rfl rfl (GObl_nil ?_)
        refine GEx_q2 (Rq_len (hZ.sl.below hq) Tryz.runUnderlying30 rfl) ?_; first | exact rfl | rfl
       refine GObls_cons ?_ ?_
       ·intro wq hq hzq
        refine GObl_det rfl rfl rfl (GObl_det rfl rfl rfl (GObl_nil ?_))
        refine GEx_q2 (Rq_rem rfl rfl (by omega) ) ?_; first | exact rfl | rfl
       refine GObls_cons ?_ ?_
       ·intro wq hq hzq
        refine GObl_det rfl rfl rfl (GObl_det rfl rfl rfl (GObl_nil ?_))
        refine GEx_q2 (Rq_index (hZ.sl.below hq) Tryz.runUnderlying30 Tryz.sizeOf45 rfl rfl (by omega) (by omega)) ?_; first | exact rfl | rfl
       refine GObls_cons ?_ ?_
       ·intro wq hq hzq
        refine GObl_det rfl rfl rfl (GObl_nil ?_)
        refine GEx_q2 (Rq_loadA Tryz.isAgg45 Tryz.sizeOf45 rfl ((hZ.sl.cells _ _ hel).below hq) rfl) ?_; first | exact rfl | rfl
       refine GObls_cons ?_ ?_
       ·intro wq hq hzq
        refine GObl_frs rfl rfl rfl ?_; intro v139 lo139 hi139 hle139 hR139;refine GObl_det rfl rfl rfl ?_;refine GObl_nil ?_;obtain ⟨a1, n1, c1, a2, n2, c2, a3, n3, c3, rfl, k1, k2, k3⟩ := hR139;exact GEx.of (Ex_call rfl Tryz.call21 (Fn.mono (f21_w k1.sl k2.sl k3.sl p1 p2 p3 r) fun v w' hb ⟨u, e, h⟩ => by rw [hrp] at e h; exact ⟨u, e, CoO.le h hzq⟩))
       refine GObls_cons ?_ ?_
       ·intro wq hq hzq
        refine GObl_frs rfl rfl rfl ?_; intro v151 lo151 hi151 hle151 hR151;refine GObl_nil ?_;exact GEx_qv (Rq_move rfl) (fun _ _ => hR151)
       refine GObls_cons ?_ ?_
       ·intro wq hq hzq
        refine GObl_frs rfl rfl rfl ?_; intro v137 lo137 hi137 hle137 hR137;refine GObl_nil ?_;obtain ⟨vc, rfl, hcw⟩ := hR137;exact GEx_qv (Rq_extract rfl rfl) (fun _ _ => hcw)
       refine GObls_cons ?_ ?_
       ·intro wq hq hzq
        refine GObl_frs rfl rfl rfl ?_; intro v137 lo137 hi137 hle137 hR137;refine GObl_nil ?_;obtain ⟨vc, rfl, _⟩ := hR137
        refine GEx_q2 (Rq_extract rfl rfl) ?_; first | exact rfl | rfl
       refine GObls_cons ?_ ?_
       ·intro wq hq hzq
        refine GObl_nil ?_;exact GEx_allocL (ds := []) (v := undef) (cs := [.slice none 0 0, .slice none 0 0, .slice none 0 0]) hzq (Ex_alloc Tryz.zeroValue26 rfl)
       refine GObls_cons ?_ ?_
       ·intro wq hq hzq
        refine GObl_frs rfl rfl rfl ?_; intro v23 lo23 hi23 hle23 hR23;refine GObl_frs rfl rfl rfl ?_; intro v152 lo152 hi152 hle152 hR152;refine GObl_nil ?_;obtain ⟨u1, u2, u3, rfl, k1, k2, k3⟩ := hR152;obtain ⟨a1, c1, e1⟩ := k1.sl.len; obtain ⟨a2, c2, e2⟩ := k2.sl.len; obtain ⟨a3, c3, e3⟩ := k3.sl.len;subst e1 e2 e3;exact GEx_stFf hR23 rfl rfl rfl rfl Tryz.sizeOf26 rfl rfl rfl rfl (by decide)
       exact GObls_nil
      ·intro wa27 hba27 hzz27
       refine GFin_det rfl ?_;refine GFin_frs rfl ?_; intro v139 lo139 hi139 hR139 hlB139 hlh139 hhw139 hdj139;refine GFin_det rfl ?_;refine GFin_det rfl ?_;refine GFin_det rfl ?_;refine GFin_det rfl ?_;refine GFin_det rfl ?_;refine GFin_det rfl ?_;refine GFin_det rfl ?_;refine GFin_det rfl ?_;refine GFin_det rfl ?_;refine GFin_det rfl ?_;refine GFin_det rfl ?_;refine GFin_frs rfl ?_; intro v151 lo151 hi151 hR151 hlB151 hlh151 hhw151 hdj151;refine GFin_frs rfl ?_; intro v137 lo137 hi137 hR137 hlB137 hlh137 hhw137 hdj137;refine GFin_frs rfl ?_; intro v152 lo152 hi152 hR152 hlB152 hlh152 hhw152 hdj152;refine GFin_det rfl ?_;refine GFin_frs rfl ?_; intro v23 lo23 hi23 hR23 hlB23 hlh23 hhw23 hdj23;refine GFin_sv rfl ?_; intro hs27x18 _; simp only [List.nil_append, List.cons_append, List.map_cons, List.map_nil, List.getD_cons_succ, List.getD_cons_zero, List.getElem?_cons_succ, List.getElem?_cons_zero] at hs27x18;refine GFin_nil ?_
       simp only [List.drop_succ_cons, List.drop_zero]
       replace hb0 := btr hb0 hba27;replace hB5 := hB5.below hba27;replace hu1 := hu1.below hba27;replace hu2 := hu2.below hba27;replace hu3 := hu3.below hba27;replace hp := hp.below hba27;replace hD := hD.below hba27;obtain ⟨b23, rfl, hlo23, _, _, _⟩ := hR23;obtain ⟨u1, u2, u3, rfl, hw1, hw2, hw3⟩ := hR152;obtain ⟨wa1, wc1, e1⟩ := hw1.sl.len; obtain ⟨wa2, wc2, e2⟩ := hw2.sl.len; obtain ⟨wa3, wc3, e3⟩ := hw3.sl.len;subst e1 e2 e3;obtain ⟨c23, hv23, hB23⟩ := hs27x18;replace hv23 : Value.pointer (some ⟨b23, 0, none⟩) = .pointer (some ⟨c23, 0, none⟩) := hv23;cases hv23;replace hB23 : Blk wa27 b23 [.slice wa1 (appR x.C r).ch.length wc1, .slice wa2 (appR x.C r).ops.length wc2, .slice wa3 (appR x.C r).roots.length wc3] 26 := hB23;clear hZ
       have ne_hw1_b5 : ∀ q, Value.ownBlock (.slice wa1 (appR x.C r).ch.length wc1) = some q → ¬ q = b5 := fun q e => by have := (hw1.lt e).1; omega
       have ne_hw2_b5 : ∀ q, Value.ownBlock (.slice wa2 (appR x.C r).ops.length wc2) = some q → ¬ q = b5 := fun q e => by have := (hw2.lt e).1; omega
       have ne_hw3_b5 : ∀ q, Value.ownBlock (.slice wa3 (appR x.C r).roots.length wc3) = some q → ¬ q = b5 := fun q e => by have := (hw3.lt e).1; omega
       refine SG_q (Rq_assign rfl) rfl (SG_nil (D_then (W_seq (W_region ?_))))
       first | refine SG_q (Rq_loadBW (hB23) Tryz.isAgg26 Tryz.sizeOf26 rfl rfl) rfl ?_ | refine SG_q (Rq_loadBA (hB23) Tryz.isAgg26 Tryz.sizeOf26 rfl rfl rfl) rfl ?_
       refine SG_call rfl Tryz.call33 rfl (f33_c (⟨⟨_, _, _, rfl, (hw1.sl), (hw2.sl), (hw3.sl)⟩⟩ : CoS _ _ (appR x.C r)) hcu2) ?_;rintro v156 w156 hb156 ⟨u156, rfl, hNow⟩;replace hb0 := btr hb0 hb156;replace hB5 := hB5.below hb156;replace hu1 := hu1.below hb156;replace hu2 := hu2.below hb156;replace hu3 := hu3.below hb156;replace hp := hp.below hb156;replace hD := hD.below hb156;replace hB23 := hB23.below hb156;replace hw1 := hw1.below hb156;replace hw2 := hw2.below hb156;replace hw3 := hw3.below hb156;refine SG_q (Rq_move rfl) rfl (SG_q (Rq_extract rfl rfl) rfl (SG_q (Rq_extract rfl rfl) rfl (SG_q (Rq_assign rfl) rfl (SG_q (Rq_assign rfl) rfl (SG_nil (D_then (W_seq (W_region ?_))))))))
       first | refine SG_q (Rq_loadBW (hB23) Tryz.isAgg26 Tryz.sizeOf26 rfl rfl) rfl ?_ | refine SG_q (Rq_loadBA (hB23) Tryz.isAgg26 Tryz.sizeOf26 rfl rfl rfl) rfl ?_
       refine SG_call rfl Tryz.call34 rfl (f34_c (⟨⟨_, _, _, rfl, (hw1.sl), (hw2.sl), (hw3.sl)⟩⟩ : CoS _ _ (appR x.C r)) e1 e2 e3) ?_;rintro v161 w161 hb161 ⟨ta1, tn1, tc1, ta2, tn2, tc2, ta3, tn3, tc3, rfl, ht1, ht2, ht3⟩;replace hb0 := btr hb0 hb161;replace hB5 := hB5.below hb161;replace hu1 := hu1.below hb161;replace hu2 := hu2.below hb161;replace hu3 := hu3.below hb161;replace hp := hp.below hb161;replace hD := hD.below hb161;replace hB23 := hB23.below hb161;replace hw1 := hw1.below hb161;replace hw2 := hw2.below hb161;replace hw3 := hw3.below hb161;replace hNow := hNow.below hb161;replace ht1 := ht1.sl;replace ht2 := ht2.sl;replace ht3 := ht3.sl;refine SG_call rfl Tryz.call29 rfl (f29_c (C := appR x.C r) (ht1) (ht2) (ht3) e1 e2 e3) ?_;rintro v162 w162 hb162 rfl;replace hb0 := btr hb0 hb162;replace hB5 := hB5.below hb162;replace hu1 := hu1.below hb162;replace hu2 := hu2.below hb162;replace hu3 := hu3.below hb162;replace hp := hp.below hb162;replace hD := hD.below hb162;replace hB23 := hB23.below hb162;replace hw1 := hw1.below hb162;replace hw2 := hw2.below hb162;replace hw3 := hw3.below hb162;replace hNow := hNow.below hb162;replace ht1 := ht1.below hb162;replace ht2 := ht2.below hb162;replace ht3 := ht3.below hb162;refine SG_q (Rq_move rfl) rfl ?_;refine SG_q (Rq_extract rfl rfl) rfl ?_;refine SG_q (Rq_extract rfl rfl) rfl ?_;refine SG_q (Rq_assign rfl) rfl ?_;refine SG_q (Rq_assign rfl) rfl ?_;refine SG_nil ?_;refine D_then ?_;refine W_seq ?_;refine W_seq ?_;refine W_region ?_;refine SG_q (Rq_move rfl) rfl ?_;refine SG_q (Rq_neq rfl rfl) rfl ?_;refine SG_q (Rq_move rfl) rfl ?_;refine SG_or (r := ?r167n8) 3 170 167 rfl ?_ ?_ ?_; rotate_left
       ·intro g167 K167
        have g167' := g167; try simp only [dd] at g167'
        have hm167 := Below.refl (w162).heap.size w162;refine SG_yes 167 rfl rfl g167 (SG_q (Rq_move rfl) rfl (SG_yes 167 rfl rfl g167 (SG_q (Rq_neq rfl rfl) rfl (SG_q (Rq_pick rfl (fun h => absurd (g167.symm.trans h) (by decide)) (fun _ => rfl)) rfl ?_))));exact K167 _ _ hm167 (by repeat (first | exact Sub.refl | refine Sub.shadow ?_ | refine Sub.same ?_ | refine Sub.push rfl ?_))
       ·intro g167 K167
        have g167' := g167; try simp only [dd] at g167'
        have hm167 := Below.refl (w162).heap.size w162;refine SG_no 167 rfl rfl g167 rfl (SG_no 167 rfl rfl g167 rfl (SG_q (Rq_pick rfl (fun _ => rfl) (fun h => absurd (g167.symm.trans h) (by decide))) rfl ?_));exact K167 _ _ hm167 (by repeat (first | exact Sub.refl | refine Sub.shadow ?_ | refine Sub.same ?_ | refine Sub.push rfl ?_))
       intro wm167 hbm167;replace hb0 := btr hb0 hbm167;replace hB5 := hB5.below hbm167;replace hu1 := hu1.below hbm167;replace hu2 := hu2.below hbm167;replace hu3 := hu3.below hbm167;replace hp := hp.below hbm167;replace hD := hD.below hbm167;replace hB23 := hB23.below hbm167;replace hw1 := hw1.below hbm167;replace hw2 := hw2.below hbm167;replace hw3 := hw3.below hbm167;replace hNow := hNow.below hbm167;replace ht1 := ht1.below hbm167;replace ht2 := ht2.below hbm167;replace ht3 := ht3.below hbm167
       simp only [List.drop_succ_cons, List.drop_zero]
       refine SG_q (Rq_move rfl) rfl ?_;refine SG_or (r := ?r171n9) 3 174 171 rfl ?_ ?_ ?_; rotate_left
       ·intro g171 K171
        have g171' := g171; try simp only [dd] at g171'
        have hm171 := Below.refl (wm167).heap.size wm167;refine SG_yes 171 rfl rfl g171 (SG_q (Rq_move rfl) rfl (SG_yes 171 rfl rfl g171 (SG_q (Rq_neq rfl rfl) rfl (SG_q (Rq_pick rfl (fun h => absurd (g171.symm.trans h) (by decide)) (fun _ => rfl)) rfl ?_))));exact K171 _ _ hm171 (by repeat (first | exact Sub.refl | refine Sub.shadow ?_ | refine Sub.same ?_ | refine Sub.push rfl ?_))
       ·intro g171 K171
        have g171' := g171; try simp only [dd] at g171'
        have hm171 := Below.refl (wm167).heap.size wm167;refine SG_no 171 rfl rfl g171 rfl (SG_no 171 rfl rfl g171 rfl (SG_q (Rq_pick rfl (fun _ => rfl) (fun h => absurd (g171.symm.trans h) (by decide))) rfl ?_));exact K171 _ _ hm171 (by repeat (first | exact Sub.refl | refine Sub.shadow ?_ | refine Sub.same ?_ | refine Sub.push rfl ?_))
       intro wm171 hbm171;replace hb0 := btr hb0 hbm171;replace hB5 := hB5.below hbm171;replace hu1 := hu1.below hbm171;replace hu2 := hu2.below hbm171;replace hu3 := hu3.below hbm171;replace hp := hp.below hbm171;replace hD := hD.below hbm171;replace hB23 := hB23.below hbm171;replace hw1 := hw1.below hbm171;replace hw2 := hw2.below hbm171;replace hw3 := hw3.below hbm171;replace hNow := hNow.below hbm171;replace ht1 := ht1.below hbm171;replace ht2 := ht2.below hbm171;replace ht3 := ht3.below hbm171
       simp only [List.drop_succ_cons, List.drop_zero]
       refine SG_q (Rq_move rfl) rfl ?_;refine SG_or (r := ?r175n10) 3 178 175 rfl ?_ ?_ ?_; rotate_left
       ·intro g175 K175
        have g175' := g175; try simp only [dd] at g175'
        have hm175 := Below.refl (wm171).heap.size wm171;refine SG_yes 175 rfl rfl g175 (SG_q (Rq_move rfl) rfl (SG_yes 175 rfl rfl g175 (SG_q (Rq_not rfl) rfl (SG_q (Rq_pick rfl (fun h => absurd (g175.symm.trans h) (by decide)) (fun _ => rfl)) rfl ?_))));exact K175 _ _ hm175 (by repeat (first | exact Sub.refl | refine Sub.shadow ?_ | refine Sub.same ?_ | refine Sub.push rfl ?_))
       ·intro g175 K175
        have g175' := g175; try simp only [dd] at g175'
        have hm175 := Below.refl (wm171).heap.size wm171;refine SG_no 175 rfl rfl g175 rfl (SG_no 175 rfl rfl g175 rfl (SG_q (Rq_pick rfl (fun _ => rfl) (fun h => absurd (g175.symm.trans h) (by decide))) rfl ?_));exact K175 _ _ hm175 (by repeat (first | exact Sub.refl | refine Sub.shadow ?_ | refine Sub.same ?_ | refine Sub.push rfl ?_))
       intro wm175 hbm175;replace hb0 := btr hb0 hbm175;replace hB5 := hB5.below hbm175;replace hu1 := hu1.below hbm175;replace hu2 := hu2.below hbm175;replace hu3 := hu3.below hbm175;replace hp := hp.below hbm175;replace hD := hD.below hbm175;replace hB23 := hB23.below hbm175;replace hw1 := hw1.below hbm175;replace hw2 := hw2.below hbm175;replace hw3 := hw3.below hbm175;replace hNow := hNow.below hbm175;replace ht1 := ht1.below hbm175;replace ht2 := ht2.below hbm175;replace ht3 := ht3.below hbm175
       simp only [List.drop_succ_cons, List.drop_zero]
       refine SG_q (Rq_move rfl) rfl ?_;refine SG_or (r := ?r179n11) 5 184 179 rfl ?_ ?_ ?_; rotate_left
       ·intro g179 K179
        have g179' := g179; try simp only [dd] at g179'
        have hm179 := Below.refl (wm175).heap.size wm175;refine SG_yes 179 rfl rfl g179 (SG_q (Rq_move rfl) rfl (SG_yes 179 rfl rfl g179 (SG_q (Rq_move rfl) rfl (SG_yes 179 rfl rfl g179 (SG_pure rfl Tryz.call35 rfl (f35_c (hNow.sl) (hD) hnl hal) ?_)))));intro w182 hb182;replace hb0 := btr hb0 hb182;replace hm179 := btr hm179 hb182;refine SG_yes 179 rfl rfl g179 (SG_q (Rq_not rfl) rfl (SG_q (Rq_pick rfl (fun h => absurd (g179.symm.trans h) (by decide)) (fun _ => rfl)) rfl ?_));exact K179 _ _ hm179 (by repeat (first | exact Sub.refl | refine Sub.shadow ?_ | refine Sub.same ?_ | refine Sub.push rfl ?_))
       ·intro g179 K179
        have g179' := g179; try simp only [dd] at g179'
        have hm179 := Below.refl (wm175).heap.size wm175;refine SG_no 179 rfl rfl g179 rfl (SG_no 179 rfl rfl g179 rfl (SG_no 179 rfl rfl g179 rfl (SG_no 179 rfl rfl g179 rfl (SG_q (Rq_pick rfl (fun _ => rfl) (fun h => absurd (g179.symm.trans h) (by decide))) rfl ?_))));exact K179 _ _ hm179 (by repeat (first | exact Sub.refl | refine Sub.shadow ?_ | refine Sub.same ?_ | refine Sub.push rfl ?_))
       intro wm179 hbm179;replace hb0 := btr hb0 hbm179;replace hB5 := hB5.below hbm179;replace hu1 := hu1.below hbm179;replace hu2 := hu2.below hbm179;replace hu3 := hu3.below hbm179;replace hp := hp.below hbm179;replace hD := hD.below hbm179;replace hB23 := hB23.below hbm179;replace hw1 := hw1.below hbm179;replace hw2 := hw2.below hbm179;replace hw3 := hw3.below hbm179;replace hNow := hNow.below hbm179;replace ht1 := ht1.below hbm179;replace ht2 := ht2.below hbm179;replace ht3 := ht3.below hbm179
       simp only [List.drop_succ_cons, List.drop_zero]
       refine SG_q (Rq_move rfl) rfl ?_;refine SG_or (r := ?r185n12) 8 193 185 rfl ?_ ?_ ?_; rotate_left
       ·intro g185 K185
        have g185' := g185; try simp only [dd] at g185'
        have hm185 := Below.refl (wm179).heap.size wm179;refine SG_yes 185 rfl rfl g185 (SG_q (Rq_fieldAddr fa26_1 rfl) rfl (SG_yes 185 rfl rfl g185 (SG_q (Rq_loadB (hB23) Tryz.isAgg23 rfl rfl) rfl (SG_yes 185 rfl rfl g185 ?_))))
        first | refine SG_q (Rq_len (hu1) Tryz.runUnderlying23 rfl) rfl ?_ | refine SG_q (Rq_len (hu2) Tryz.runUnderlying23 rfl) rfl ?_ | refine SG_q (Rq_len (hu3) Tryz.runUnderlying23 rfl) rfl ?_ | refine SG_q (Rq_len (hp) Tryz.runUnderlying23 rfl) rfl ?_ | refine SG_q (Rq_len (hD) Tryz.runUnderlying23 rfl) rfl ?_ | refine SG_q (Rq_len (ht1) Tryz.runUnderlying23 rfl) rfl ?_ | refine SG_q (Rq_len (ht2) Tryz.runUnderlying23 rfl) rfl ?_ | refine SG_q (Rq_len (ht3) Tryz.runUnderlying23 rfl) rfl ?_ | refine SG_q (Rq_len (hw1.sl) Tryz.runUnderlying23 rfl) rfl ?_ | refine SG_q (Rq_len (hw2.sl) Tryz.runUnderlying23 rfl) rfl ?_ | refine SG_q (Rq_len (hw3.sl) Tryz.runUnderlying23 rfl) rfl ?_ | refine SG_q (Rq_len (hNow.sl) Tryz.runUnderlying23 rfl) rfl ?_
        refine SG_yes 185 rfl rfl g185 (SG_q (Rq_fieldAddr fa26_1 rfl) rfl (SG_yes 185 rfl rfl g185 (SG_q (Rq_loadB (hB5) Tryz.isAgg23 rfl rfl) rfl (SG_yes 185 rfl rfl g185 ?_))))
        first | refine SG_q (Rq_len (hu1) Tryz.runUnderlying23 rfl) rfl ?_ | refine SG_q (Rq_len (hu2) Tryz.runUnderlying23 rfl) rfl ?_ | refine SG_q (Rq_len (hu3) Tryz.runUnderlying23 rfl) rfl ?_ | refine SG_q (Rq_len (hp) Tryz.runUnderlying23 rfl) rfl ?_ | refine SG_q (Rq_len (hD) Tryz.runUnderlying23 rfl) rfl ?_ | refine SG_q (Rq_len (ht1) Tryz.runUnderlying23 rfl) rfl ?_ | refine SG_q (Rq_len (ht2) Tryz.runUnderlying23 rfl) rfl ?_ | refine SG_q (Rq_len (ht3) Tryz.runUnderlying23 rfl) rfl ?_ | refine SG_q (Rq_len (hw1.sl) Tryz.runUnderlying23 rfl) rfl ?_ | refine SG_q (Rq_len (hw2.sl) Tryz.runUnderlying23 rfl) rfl ?_ | refine SG_q (Rq_len (hw3.sl) Tryz.runUnderlying23 rfl) rfl ?_ | refine SG_q (Rq_len (hNow.sl) Tryz.runUnderlying23 rfl) rfl ?_
        refine SG_yes 185 rfl rfl g185 (SG_q (Rq_neq rfl rfl) rfl (SG_q (Rq_pick rfl (fun h => absurd (g185.symm.trans h) (by decide)) (fun _ => rfl)) rfl ?_));exact K185 _ _ hm185 (by repeat (first | exact Sub.refl | refine Sub.shadow ?_ | refine Sub.same ?_ | refine Sub.push rfl ?_))
       ·intro g185 K185
        have g185' := g185; try simp only [dd] at g185'
        have hm185 := Below.refl (wm179).heap.size wm179;refine SG_no 185 rfl rfl g185 rfl (SG_no 185 rfl rfl g185 rfl (SG_no 185 rfl rfl g185 rfl (SG_no 185 rfl rfl g185 rfl (SG_no 185 rfl rfl g185 rfl (SG_no 185 rfl rfl g185 rfl (SG_no 185 rfl rfl g185 rfl (SG_q (Rq_pick rfl (fun _ => rfl) (fun h => absurd (g185.symm.trans h) (by decide))) rfl ?_)))))));exact K185 _ _ hm185 (by repeat (first | exact Sub.refl | refine Sub.shadow ?_ | refine Sub.same ?_ | refine Sub.push rfl ?_))
       intro wm185 hbm185;replace hb0 := btr hb0 hbm185;replace hB5 := hB5.below hbm185;replace hp := hp.below hbm185;replace hD := hD.below hbm185;replace hB23 := hB23.below hbm185;replace hw1 := hw1.below hbm185;replace hw2 := hw2.below hbm185;replace hw3 := hw3.below hbm185
       simp only [List.drop_succ_cons, List.drop_zero]
       refine SG_q (Rq_move rfl) rfl ?_;refine SG_or (r := ?r194n13) 4 198 194 rfl ?_ ?_ ?_; rotate_left
       ·intro g194 K194
        have g194' := g194; try simp only [dd] at g194'
        have hm194 := Below.refl (wm185).heap.size wm185;refine SG_yes 194 rfl rfl g194 (SG_q (Rq_move rfl) rfl (SG_yes 194 rfl rfl g194 (SG_q (Rq_move rfl) rfl (SG_yes 194 rfl rfl g194 (SG_q (Rq_gtr rfl rfl) rfl (SG_q (Rq_pick rfl (fun h => absurd (g194.symm.trans h) (by decide)) (fun _ => rfl)) rfl ?_))))));exact K194 _ _ hm194 (by repeat (first | exact Sub.refl | refine Sub.shadow ?_ | refine Sub.same ?_ | refine Sub.push rfl ?_))
       ·intro g194 K194
        have g194' := g194; try simp only [dd] at g194'
        have hm194 := Below.refl (wm185).heap.size wm185;refine SG_no 194 rfl rfl g194 rfl (SG_no 194 rfl rfl g194 rfl (SG_no 194 rfl rfl g194 rfl (SG_q (Rq_pick rfl (fun _ => rfl) (fun h => absurd (g194.symm.trans h) (by decide))) rfl ?_)));exact K194 _ _ hm194 (by repeat (first | exact Sub.refl | refine Sub.shadow ?_ | refine Sub.same ?_ | refine Sub.push rfl ?_))
       intro wm194 hbm194;replace hb0 := btr hb0 hbm194;replace hB5 := hB5.below hbm194;replace hp := hp.below hbm194;replace hD := hD.below hbm194;replace hB23 := hB23.below hbm194;replace hw1 := hw1.below hbm194;replace hw2 := hw2.below hbm194;replace hw3 := hw3.below hbm194
       simp only [List.drop_succ_cons, List.drop_zero]
       refine SG_nil (D_then ?_);refine W_cond rfl ?_ ?_
       ·intro g198; exfalso; (try simp only [dd] at g198); (simp [hckC, hck2, hckx, hcN, hlen2] at g198; omega)
       ·intro g198
        try simp only [dd] at g198
        refine W_skip (D_then (W_region ?_));clear hNow;clear ht1;clear ht2;clear ht3
        first | refine SG_q (Rq_loadBW (hB23) Tryz.isAgg26 Tryz.sizeOf26 rfl rfl) rfl ?_ | refine SG_q (Rq_loadBA (hB23) Tryz.isAgg26 Tryz.sizeOf26 rfl rfl rfl) rfl ?_
        refine SG_q (Rq_move rfl) rfl ?_;refine SG_storeW (hB5) rfl rfl rfl rfl Tryz.sizeOf26 rfl rfl ?_;intro ws32x2 hchs32x2 hBs32x2;replace hb0 := bchg hb0 hchs32x2 hle5;replace hp := hp.chg hchs32x2 ne_hp_b5;replace hD := hD.chg hchs32x2 ne_hD_b5;replace hw1 := hw1.chg hchs32x2 (fun k e e2 => by first | exact ne_hw1_b5 k e e2 | (have := hw1.lt e; have := ne_hw1_b5; omega));replace hw2 := hw2.chg hchs32x2 (fun k e e2 => by first | exact ne_hw2_b5 k e e2 | (have := hw2.lt e; have := ne_hw2_b5; omega));replace hw3 := hw3.chg hchs32x2 (fun k e e2 => by first | exact ne_hw3_b5 k e e2 | (have := hw3.lt e; have := ne_hw3_b5; omega));clear hB5;refine SG_q (Rq_assign rfl) rfl ?_;refine SG_nil ?_;refine D_block ?_;refine D_then ?_;refine W_region ?_;refine SG_q (Rq_move rfl) rfl ?_;refine SG_q (Rq_add rfl rfl (wrap_i64 (by omega) (by omega))) rfl ?_;refine SG_q (Rq_assign rfl) rfl ?_;refine SG_nil ?_;refine D_loop ((⟨x.i + 1, appR x.C r, _, _, _⟩ : Ex)) (by repeat (first | exact Sub.nil | refine Sub.cons rfl ?_)) ⟨hb0, ⟨⟨hcu2, hcN⟩, by dsimp only; omega⟩, hBs32x2, ⟨hw1.sl, hw2.sl, hw3.sl⟩, hp, hD, (fun hq e => ne_hw1_b5 _ (sb_own hw1.sl hq) e), (fun hq e => ne_hw2_b5 _ (sb_own hw2.sl hq) e), (fun hq e => ne_hw3_b5 _ (sb_own hw3.sl hq) e)⟩ (by dsimp only; omega)
   ·intro g99
    try simp only [dd] at g99
    refine W_exit (D_then_exit (D_loop_exit ?_));refine D_block_exit (D_then (W_seq (W_region (SG_pure rfl Tryz.call10 rfl (f10_c _) ?_))));intro w201 hb201;replace hb0 := btr hb0 hb201;refine SG_q (Rq_assign rfl) rfl (SG_nil (D_then (W_ret (D_body1 rfl rfl rfl ?_))));exact ⟨rfl, hb0⟩
end Go.Proofs.YtphmoebiobjfhaaGreat
