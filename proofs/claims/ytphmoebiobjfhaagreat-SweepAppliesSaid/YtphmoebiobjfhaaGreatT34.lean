/- Walks of functions, printed by a program of the author. -/
import Derived.Test.YtphmoebiobjfhaaGreatT33
set_option linter.all false
namespace Go.Proofs.YtphmoebiobjfhaaGreat
open Go Go.Mi Go.RowKit
set_option maxHeartbeats 4000000 in
theorem f5_c {v : Value} {C : Co} {w : World} (hC : CoS w v C) (rr ro : Int) : Pure Tryz.prog 5 #[v, valR ⟨rr, ro⟩] w (.bool true) := by
 obtain ⟨uC, uO, uR, rfl, hu1, hu2, hu3⟩ := hC.ex;have hb0 := Below.refl w.heap.size w;refine calls_of_W Tryz.func5 rfl Tryz.ntmps5 rfl ?_;refine W_seq (W_region (SG_box rfl rfl rfl ?_));intro w2 b2 e2 hb2 hz2 hB2
 have hle2 : w.heap.size ≤ b2 := by have := hb0.size; omega
 replace hb0 := btr hb0 hb2;replace hu1 := hu1.below hb2;replace hu2 := hu2.below hb2;replace hu3 := hu3.below hb2;refine SG_box rfl rfl rfl ?_;intro w3 b3 e3 hb3 hz3 hB3
 have hle3 : w.heap.size ≤ b3 := by have := hb0.size; omega
 have ne_b2_3 : ¬ b2 = b3 := by have := hB2.lt; omega
 replace hb0 := btr hb0 hb3;replace hu1 := hu1.below hb3;replace hu2 := hu2.below hb3;replace hu3 := hu3.below hb3;replace hB2 := hB2.below hb3;refine SG_q (Rq_assign rfl) rfl (SG_nil (D_then (W_seq (W_seq (W_region ?_)))))
 first | refine SG_q (Rq_loadBW (hB2) Tryz.isAgg26 Tryz.sizeOf26 rfl rfl) rfl ?_ | refine SG_q (Rq_loadBA (hB2) Tryz.isAgg26 Tryz.sizeOf26 rfl rfl rfl) rfl ?_
 refine SG_pure rfl Tryz.call9 rfl (f9_c (⟨⟨_, _, _, rfl, (hu1), (hu2), (hu3)⟩⟩ : CoS _ _ C)) ?_;intro w16 hb16;replace hb0 := btr hb0 hb16;replace hu1 := hu1.below hb16;replace hu2 := hu2.below hb16;replace hu3 := hu3.below hb16;replace hB2 := hB2.below hb16;replace hB3 := hB3.below hb16;refine SG_nil (D_then ?_);refine W_cond rfl ?_ ?_
 ·intro g16
  try simp only [dd] at g16
  refine W_seq (W_region (SG_pure rfl Tryz.call10 rfl (f10_c _) ?_));intro w17 hb17;replace hb0 := btr hb0 hb17;refine SG_q (Rq_assign rfl) rfl (SG_nil (D_then (W_ret (D_then_ret (D_body1 rfl rfl rfl ?_)))));exact ⟨rfl, hb0⟩
 ·intro g16
  try simp only [dd] at g16
  have p1 : C.ch.length ≤ 100000 := by omega
  have p2 : C.ops.length ≤ 100000 := by omega
  have p3 : C.roots.length ≤ 100000 := by omega
  refine W_skip (D_then (W_seq (W_region ?_)))
  first | refine SG_q (Rq_loadBW (hB2) Tryz.isAgg26 Tryz.sizeOf26 rfl rfl) rfl ?_ | refine SG_q (Rq_loadBA (hB2) Tryz.isAgg26 Tryz.sizeOf26 rfl rfl rfl) rfl ?_
  refine SG_call rfl Tryz.call11 rfl (f11_c (⟨⟨_, _, _, rfl, (hu1), (hu2), (hu3)⟩⟩ : CoS _ _ C) p1 p2 p3) ?_;rintro v19 w19 hb19 ⟨xa1, xn1, xc1, xa2, xn2, xc2, xa3, xn3, xc3, rfl, ⟨hx1, hx2, hx3⟩, _⟩;replace hb0 := btr hb0 hb19;replace hu1 := hu1.below hb19;replace hu2 := hu2.below hb19;replace hu3 := hu3.below hb19;replace hB2 := hB2.below hb19;replace hB3 := hB3.below hb19;refine SG_alloc Tryz.zeroValue26 rfl rfl ?_;intro w5 b5 e5 hb5 hz5 hB5
  have hle5 : w.heap.size ≤ b5 := by have := hb0.size; omega
  have ne_hu1_b5 := hu1.fresh (b := b5) (by omega);have ne_hu2_b5 := hu2.fresh (b := b5) (by omega);have ne_hu3_b5 := hu3.fresh (b := b5) (by omega)
  have ne_b2_5 : ¬ b2 = b5 := by have := hB2.lt; omega
  have ne_b3_5 : ¬ b3 = b5 := by have := hB3.lt; omega
  have ne_hx1_b5 := hx1.fresh (b := b5) (by omega);have ne_hx2_b5 := hx2.fresh (b := b5) (by omega);have ne_hx3_b5 := hx3.fresh (b := b5) (by omega);replace hb0 := btr hb0 hb5;replace hu1 := hu1.below hb5;replace hu2 := hu2.below hb5;replace hu3 := hu3.below hb5;replace hB2 := hB2.below hb5;replace hB3 := hB3.below hb5;replace hx1 := hx1.below hb5;replace hx2 := hx2.below hb5;replace hx3 := hx3.below hb5;refine SG_storeW (hB5) rfl rfl rfl rfl Tryz.sizeOf26 rfl rfl ?_;intro ws3x3 hchs3x3 hBs3x3;replace hb0 := bchg hb0 hchs3x3 hle5;replace hu1 := hu1.chg hchs3x3 ne_hu1_b5;replace hu2 := hu2.chg hchs3x3 ne_hu2_b5;replace hu3 := hu3.chg hchs3x3 ne_hu3_b5;replace hB2 := hB2.chg hchs3x3 ne_b2_5;replace hB3 := hB3.chg hchs3x3 ne_b3_5;replace hx1 := hx1.chg hchs3x3 ne_hx1_b5;replace hx2 := hx2.chg hchs3x3 ne_hx2_b5;replace hx3 := hx3.chg hchs3x3 ne_hx3_b5;clear hB5;refine SG_nil (D_then (W_seq (W_region ?_)))
  first | refine SG_q (Rq_loadBW (hBs3x3) Tryz.isAgg26 Tryz.sizeOf26 rfl rfl) rfl ?_ | refine SG_q (Rq_loadBA (hBs3x3) Tryz.isAgg26 Tryz.sizeOf26 rfl rfl rfl) rfl ?_
  first | refine SG_q (Rq_loadBW (hB3) Tryz.isAgg45 Tryz.sizeOf45 rfl rfl) rfl ?_ | refine SG_q (Rq_loadBA (hB3) Tryz.isAgg45 Tryz.sizeOf45 rfl rfl rfl) rfl ?_
  refine SG_call rfl Tryz.call21 rfl (f21_c (C := C) (hx1) (hx2) (hx3) p1 p2 p3 ⟨rr, ro⟩) ?_;rintro v23 w23 hb23 ⟨u23, rfl, hCV23⟩;replace hb0 := btr hb0 hb23;replace hu1 := hu1.below hb23;replace hu2 := hu2.below hb23;replace hu3 := hu3.below hb23;replace hB2 := hB2.below hb23;replace hB3 := hB3.below hb23;replace hx1 := hx1.below hb23;replace hx2 := hx2.below hb23;replace hx3 := hx3.below hb23;replace hBs3x3 := hBs3x3.below hb23;obtain ⟨qyC, qyO, qyR, rfl, ⟨hy1, hy2, hy3⟩, _⟩ := hCV23.ex
  obtain ⟨a_qyC, n_qyC, c_qyC, h_qyC⟩ : ∃ a n c, qyC = Value.slice a n c := by obtain ⟨a, c, h⟩ := (hy1).len; exact ⟨_, _, _, h⟩
  subst h_qyC
  obtain ⟨a_qyO, n_qyO, c_qyO, h_qyO⟩ : ∃ a n c, qyO = Value.slice a n c := by obtain ⟨a, c, h⟩ := (hy2).len; exact ⟨_, _, _, h⟩
  subst h_qyO
  obtain ⟨a_qyR, n_qyR, c_qyR, h_qyR⟩ : ∃ a n c, qyR = Value.slice a n c := by obtain ⟨a, c, h⟩ := (hy3).len; exact ⟨_, _, _, h⟩
  subst h_qyR;refine SG_q (Rq_move rfl) rfl (SG_q (Rq_extract rfl rfl) rfl (SG_q (Rq_extract rfl rfl) rfl (SG_alloc Tryz.zeroValue26 rfl rfl ?_)));intro w6 b6 e6 hb6 hz6 hB6
  have hle6 : w.heap.size ≤ b6 := by have := hb0.size; omega
  have ne_hu1_b6 := hu1.fresh (b := b6) (by omega);have ne_hu2_b6 := hu2.fresh (b := b6) (by omega);have ne_hu3_b6 := hu3.fresh (b := b6) (by omega)
  have ne_b2_6 : ¬ b2 = b6 := by have := hB2.lt; omega
  have ne_b3_6 : ¬ b3 = b6 := by have := hB3.lt; omega
  have ne_hx1_b6 := hx1.fresh (b := b6) (by omega);have ne_hx2_b6 := hx2.fresh (b := b6) (by omega);have ne_hx3_b6 := hx3.fresh (b := b6) (by omega)
  have ne_b5_6 : ¬ b5 = b6 := by have := hBs3x3.lt; omega
  have ne_hy1_b6 := hy1.fresh (b := b6) (by omega);have ne_hy2_b6 := hy2.fresh (b := b6) (by omega);have ne_hy3_b6 := hy3.fresh (b := b6) (by omega);replace hb0 := btr hb0 hb6;replace hu1 := hu1.below hb6;replace hu2 := hu2.below hb6;replace hu3 := hu3.below hb6;replace hB2 := hB2.below hb6;replace hB3 := hB3.below hb6;replace hx1 := hx1.below hb6;replace hx2 := hx2.below hb6;replace hx3 := hx3.below hb6;replace hBs3x3 := hBs3x3.below hb6;replace hy1 := hy1.below hb6;replace hy2 := hy2.below hb6;replace hy3 := hy3.below hb6;refine SG_storeW (hB6) rfl rfl rfl rfl Tryz.sizeOf26 rfl rfl ?_;intro ws4x7 hchs4x7 hBs4x7;replace hb0 := bchg hb0 hchs4x7 hle6;replace hu1 := hu1.chg hchs4x7 ne_hu1_b6;replace hu2 := hu2.chg hchs4x7 ne_hu2_b6;replace hu3 := hu3.chg hchs4x7 ne_hu3_b6;replace hB2 := hB2.chg hchs4x7 ne_b2_6;replace hB3 := hB3.chg hchs4x7 ne_b3_6;replace hx1 := hx1.chg hchs4x7 ne_hx1_b6;replace hx2 := hx2.chg hchs4x7 ne_hx2_b6;replace hx3 := hx3.chg hchs4x7 ne_hx3_b6;replace hBs3x3 := hBs3x3.chg hchs4x7 ne_b5_6;replace hy1 := hy1.chg hchs4x7 ne_hy1_b6;replace hy2 := hy2.chg hchs4x7 ne_hy2_b6;replace hy3 := hy3.chg hchs4x7 ne_hy3_b6;clear hB6;refine SG_q (Rq_assign rfl) rfl (SG_nil (D_then (W_seq (W_region ?_))))
  first | refine SG_q (Rq_loadBW (hBs3x3) Tryz.isAgg26 Tryz.sizeOf26 rfl rfl) rfl ?_ | refine SG_q (Rq_loadBA (hBs3x3) Tryz.isAgg26 Tryz.sizeOf26 rfl rfl rfl) rfl ?_
  refine SG_call rfl Tryz.call22 rfl (f22_c (C := C) (hx1) (hx2) (hx3) p1 p2 p3) ?_;rintro v28 w28 hb28 rfl;replace hb0 := btr hb0 hb28;replace hu1 := hu1.below hb28;replace hu2 := hu2.below hb28;replace hu3 := hu3.below hb28;replace hB2 := hB2.below hb28;replace hB3 := hB3.below hb28;replace hx1 := hx1.below hb28;replace hx2 := hx2.below hb28;replace hx3 := hx3.below hb28;replace hBs3x3 := hBs3x3.below hb28;replace hy1 := hy1.below hb28;replace hy2 := hy2.below hb28;replace hy3 := hy3.below hb28;replace hBs4x7 := hBs4x7.below hb28;refine SG_q (Rq_move rfl) rfl (SG_q (Rq_extract rfl rfl) rfl (SG_q (Rq_extract rfl rfl) rfl (SG_alloc Tryz.zeroValue45 rfl rfl ?_)));intro w8 b8 e8 hb8 hz8 hB8
  have hle8 : w.heap.size ≤ b8 := by have := hb0.size; omega
  have ne_hu1_b8 := hu1.fresh (b := b8) (by omega);have ne_hu2_b8 := hu2.fresh (b := b8) (by omega);have ne_hu3_b8 := hu3.fresh (b := b8) (by omega)
  have ne_b2_8 : ¬ b2 = b8 := by have := hB2.lt; omega
  have ne_b3_8 : ¬ b3 = b8 := by have := hB3.lt; omega
  have ne_hx1_b8 := hx1.fresh (b := b8) (by omega);have ne_hx2_b8 := hx2.fresh (b := b8) (by omega);have ne_hx3_b8 := hx3.fresh (b := b8) (by omega)
  have ne_b5_8 : ¬ b5 = b8 := by have := hBs3x3.lt; omega
  have ne_hy1_b8 := hy1.fresh (b := b8) (by omega);have ne_hy2_b8 := hy2.fresh (b := b8) (by omega);have ne_hy3_b8 := hy3.fresh (b := b8) (by omega)
  have ne_b6_8 : ¬ b6 = b8 := by have := hBs4x7.lt; omega
  replace hb0 := btr hb0 hb8;replace hu1 := hu1.below hb8;replace hu2 := hu2.below hb8;replace hu3 := hu3.below hb8;replace hB2 := hB2.below hb8;replace hB3 := hB3.below hb8;replace hx1 := hx1.below hb8;replace hx2 := hx2.below hb8;replace hx3 := hx3.below hb8;replace hBs3x3 := hBs3x3.below hb8;replace hy1 := hy1.below hb8;replace hy2 := hy2.below hb8;replace hy3 := hy3.below hb8;replace hBs4x7 := hBs4x7.below hb8;refine SG_storeW (hB8) rfl rfl rfl rfl Tryz.sizeOf45 rfl rfl ?_;intro ws5x6 hchs5x6 hBs5x6;replace hb0 := bchg hb0 hchs5x6 hle8;replace hu1 := hu1.chg hchs5x6 ne_hu1_b8;replace hu2 := hu2.chg hchs5x6 ne_hu2_b8;replace hu3 := hu3.chg hchs5x6 ne_hu3_b8;replace hB2 := hB2.chg hchs5x6 ne_b2_8;replace hB3 := hB3.chg hchs5x6 ne_b3_8;replace hx1 := hx1.chg hchs5x6 ne_hx1_b8;replace hx2 := hx2.chg hchs5x6 ne_hx2_b8;replace hx3 := hx3.chg hchs5x6 ne_hx3_b8;replace hBs3x3 := hBs3x3.chg hchs5x6 ne_b5_8;replace hy1 := hy1.chg hchs5x6 ne_hy1_b8;replace hy2 := hy2.chg hchs5x6 ne_hy2_b8;replace hy3 := hy3.chg hchs5x6 ne_hy3_b8;replace hBs4x7 := hBs4x7.chg hchs5x6 ne_b6_8;clear hB8;refine SG_q (Rq_assign rfl) rfl (SG_nil (D_then (W_seq (W_seq (W_region ?_)))))
  first | refine SG_q (Rq_loadBW (hBs3x3) Tryz.isAgg26 Tryz.sizeOf26 rfl rfl) rfl ?_ | refine SG_q (Rq_loadBA (hBs3x3) Tryz.isAgg26 Tryz.sizeOf26 rfl rfl rfl) rfl ?_
  first | refine SG_q (Rq_loadBW (hB2) Tryz.isAgg26 Tryz.sizeOf26 rfl rfl) rfl ?_ | refine SG_q (Rq_loadBA (hB2) Tryz.isAgg26 Tryz.sizeOf26 rfl rfl rfl) rfl ?_
  refine SG_pure rfl Tryz.call14 rfl (f14_c (⟨⟨_, _, _, rfl, (hx1), (hx2), (hx3)⟩⟩ : CoS _ _ C) (⟨⟨_, _, _, rfl, (hu1), (hu2), (hu3)⟩⟩ : CoS _ _ C) p1 p2 p3 p1 p2 p3) ?_;intro w33 hb33;replace hb0 := btr hb0 hb33;replace hu1 := hu1.below hb33;replace hu2 := hu2.below hb33;replace hu3 := hu3.below hb33;replace hB2 := hB2.below hb33;replace hB3 := hB3.below hb33;replace hx1 := hx1.below hb33;replace hx2 := hx2.below hb33;replace hx3 := hx3.below hb33;replace hBs3x3 := hBs3x3.below hb33;replace hy1 := hy1.below hb33;replace hy2 := hy2.below hb33;replace hy3 := hy3.below hb33;replace hBs4x7 := hBs4x7.below hb33;replace hBs5x6 := hBs5x6.below hb33;refine SG_q (Rq_not rfl) rfl (SG_nil (D_then ?_));refine W_cond rfl ?_ ?_
  ·intro g34; exfalso; (try simp only [dd] at g34); simp at g34
  ·intro g34
   try simp only [dd] at g34
   refine W_skip (D_then (W_seq (W_region ?_)))
   first | refine SG_q (Rq_loadBW (hB2) Tryz.isAgg26 Tryz.sizeOf26 rfl rfl) rfl ?_ | refine SG_q (Rq_loadBA (hB2) Tryz.isAgg26 Tryz.sizeOf26 rfl rfl rfl) rfl ?_
   refine SG_pure rfl Tryz.call15 rfl (f15_c (⟨⟨_, _, _, rfl, (hu1), (hu2), (hu3)⟩⟩ : CoS _ _ C)) ?_;intro w36 hb36;replace hb0 := btr hb0 hb36;replace hu1 := hu1.below hb36;replace hu2 := hu2.below hb36;replace hu3 := hu3.below hb36;replace hB2 := hB2.below hb36;replace hB3 := hB3.below hb36;replace hx1 := hx1.below hb36;replace hx2 := hx2.below hb36;replace hx3 := hx3.below hb36;replace hBs3x3 := hBs3x3.below hb36;replace hy1 := hy1.below hb36;replace hy2 := hy2.below hb36;replace hy3 := hy3.below hb36;replace hBs4x7 := hBs4x7.below hb36;replace hBs5x6 := hBs5x6.below hb36;refine SG_q (Rq_build0 build26_) rfl (SG_alloc Tryz.zeroValue26 rfl rfl ?_);intro w11 b11 e11 hb11 hz11 hB11
   have hle11 : w.heap.size ≤ b11 := by have := hb0.size; omega
   have ne_hu1_b11 := hu1.fresh (b := b11) (by omega);have ne_hu2_b11 := hu2.fresh (b := b11) (by omega);have ne_hu3_b11 := hu3.fresh (b := b11) (by omega)
   have ne_b2_11 : ¬ b2 = b11 := by have := hB2.lt; omega
   have ne_b3_11 : ¬ b3 = b11 := by have := hB3.lt; omega
   have ne_hx1_b11 := hx1.fresh (b := b11) (by omega);have ne_hx2_b11 := hx2.fresh (b := b11) (by omega);have ne_hx3_b11 := hx3.fresh (b := b11) (by omega)
   have ne_b5_11 : ¬ b5 = b11 := by have := hBs3x3.lt; omega
   have ne_hy1_b11 := hy1.fresh (b := b11) (by omega);have ne_hy2_b11 := hy2.fresh (b := b11) (by omega);have ne_hy3_b11 := hy3.fresh (b := b11) (by omega)
   have ne_b6_11 : ¬ b6 = b11 := by have := hBs4x7.lt; omega
   have ne_b8_11 : ¬ b8 = b11 := by have := hBs5x6.lt; omega
   replace hb0 := btr hb0 hb11;replace hu1 := hu1.below hb11;replace hu2 := hu2.below hb11;replace hu3 := hu3.below hb11;replace hB2 := hB2.below hb11;replace hB3 := hB3.below hb11;replace hx1 := hx1.below hb11;replace hx2 := hx2.below hb11;replace hx3 := hx3.below hb11;replace hBs3x3 := hBs3x3.below hb11;replace hy1 := hy1.below hb11;replace hy2 := hy2.below hb11;replace hy3 := hy3.below hb11;replace hBs4x7 := hBs4x7.below hb11;replace hBs5x6 := hBs5x6.below hb11;refine SG_q (Rq_assign rfl) rfl (SG_storeW (hB11) rfl rfl rfl rfl Tryz.sizeOf26 rfl rfl ?_);intro ws8x5 hchs8x5 hBs8x5;replace hb0 := bchg hb0 hchs8x5 hle11;replace hu1 := hu1.chg hchs8x5 ne_hu1_b11;replace hu2 := hu2.chg hchs8x5 ne_hu2_b11;replace hu3 := hu3.chg hchs8x5 ne_hu3_b11;replace hB2 := hB2.chg hchs8x5 ne_b2_11;replace hB3 := hB3.chg hchs8x5 ne_b3_11;replace hx1 := hx1.chg hchs8x5 ne_hx1_b11;replace hx2 := hx2.chg hchs8x5 ne_hx2_b11;replace hx3 := hx3.chg hchs8x5 ne_hx3_b11;replace hBs3x3 := hBs3x3.chg hchs8x5 ne_b5_11;replace hy1 := hy1.chg hchs8x5 ne_hy1_b11;replace hy2 := hy2.chg hchs8x5 ne_hy2_b11;replace hy3 := hy3.chg hchs8x5 ne_hy3_b11;replace hBs4x7 := hBs4x7.chg hchs8x5 ne_b6_11;replace hBs5x6 := hBs5x6.chg hchs8x5 ne_b8_11;clear hB11;refine SG_nil (D_then (W_seq (W_seq (W_region (SG_q (Rq_move rfl) rfl (SG_q (Rq_neq rfl rfl) rfl (SG_nil (D_then ?_))))))));refine W_cond rfl ?_ ?_
   ·intro g39
    try simp only [dd] at g39
    have hckn : ¬ checkR C = 0 := by simpa using g39
    have hrp : replayR C [⟨rr, ro⟩] = (noCo, 0, checkR C) := by unfold replayR; rw [if_pos hckn]
    rw [hrp] at hy1 hy2 hy3;refine W_seq ?_;refine W_region ?_;refine SG_q (Rq_move rfl) rfl ?_;refine SG_q (Rq_move rfl) rfl ?_;refine SG_q (Rq_eql rfl rfl) rfl ?_;refine SG_q (Rq_move rfl) rfl ?_;refine SG_and (r := ?r43n1) 4 47 43 rfl ?_ ?_ ?_; rotate_left
    ·intro g43 K43
     have g43' := g43; try simp only [dd] at g43'
     have hm43 := Below.refl (ws8x5).heap.size ws8x5;refine SG_yes 43 rfl rfl g43 (SG_q (Rq_move rfl) rfl (SG_yes 43 rfl rfl g43 (SG_q (Rq_move rfl) rfl (SG_yes 43 rfl rfl g43 (SG_q (Rq_eql rfl rfl) rfl (SG_q (Rq_pick rfl (fun _ => rfl) (fun h => absurd (g43.symm.trans h) (by decide))) rfl ?_))))));exact K43 _ _ hm43 (by repeat (first | exact Sub.refl | refine Sub.shadow ?_ | refine Sub.same ?_ | refine Sub.push rfl ?_))
    ·intro g43 K43
     have g43' := g43; try simp only [dd] at g43'
     have hm43 := Below.refl (ws8x5).heap.size ws8x5;refine SG_no 43 rfl rfl g43 rfl (SG_no 43 rfl rfl g43 rfl (SG_no 43 rfl rfl g43 rfl (SG_q (Rq_pick rfl (fun h => absurd (g43.symm.trans h) (by decide)) (fun _ => rfl)) rfl ?_)));exact K43 _ _ hm43 (by repeat (first | exact Sub.refl | refine Sub.shadow ?_ | refine Sub.same ?_ | refine Sub.push rfl ?_))
    intro wm43 hbm43;replace hb0 := btr hb0 hbm43;replace hy1 := hy1.below hbm43;replace hy2 := hy2.below hbm43;replace hy3 := hy3.below hbm43;replace hBs4x7 := hBs4x7.below hbm43;replace hBs5x6 := hBs5x6.below hbm43;replace hBs8x5 := hBs8x5.below hbm43
    simp only [List.drop_succ_cons, List.drop_zero]
    refine SG_q (Rq_move rfl) rfl ?_;refine SG_and (r := ?r48n2) 4 52 48 rfl ?_ ?_ ?_; rotate_left
    ·intro g48 K48
     have g48' := g48; try simp only [dd] at g48'
     have hm48 := Below.refl (wm43).heap.size wm43;refine SG_yes 48 rfl rfl g48 ?_
     first | refine SG_q (Rq_loadBW (hBs4x7) Tryz.isAgg26 Tryz.sizeOf26 rfl rfl) rfl ?_ | refine SG_q (Rq_loadBA (hBs4x7) Tryz.isAgg26 Tryz.sizeOf26 rfl rfl rfl) rfl ?_
     refine SG_yes 48 rfl rfl g48 ?_
     first | refine SG_q (Rq_loadBW (hBs8x5) Tryz.isAgg26 Tryz.sizeOf26 rfl rfl) rfl ?_ | refine SG_q (Rq_loadBA (hBs8x5) Tryz.isAgg26 Tryz.sizeOf26 rfl rfl rfl) rfl ?_
     refine SG_yes 48 rfl rfl g48 (SG_pure rfl Tryz.call14 rfl (f14_c (⟨⟨_, _, _, rfl, (hy1), (hy2), (hy3)⟩⟩ : CoS _ _ noCo) ((CoV.no 0 0 _).s : CoS _ _ noCo) (by decide) (by decide) (by decide) (by decide) (by decide) (by decide)) ?_);intro w51 hb51;replace hb0 := btr hb0 hb51;replace hm48 := btr hm48 hb51;refine SG_q (Rq_pick rfl (fun _ => rfl) (fun h => absurd (g48.symm.trans h) (by decide))) rfl ?_;exact K48 _ _ hm48 (by repeat (first | exact Sub.refl | refine Sub.shadow ?_ | refine Sub.same ?_ | refine Sub.push rfl ?_))
    ·intro g48 K48
     have g48' := g48; try simp only [dd] at g48'
     have hm48 := Below.refl (wm43).heap.size wm43;refine SG_no 48 rfl rfl g48 rfl (SG_no 48 rfl rfl g48 rfl (SG_no 48 rfl rfl g48 rfl (SG_q (Rq_pick rfl (fun h => absurd (g48.symm.trans h) (by decide)) (fun _ => rfl)) rfl ?_)));exact K48 _ _ hm48 (by repeat (first | exact Sub.refl | refine Sub.shadow ?_ | refine Sub.same ?_ | refine Sub.push rfl ?_))
    intro wm48 hbm48;replace hb0 := btr hb0 hbm48;replace hBs5x6 := hBs5x6.below hbm48
    simp only [List.drop_succ_cons, List.drop_zero]
    refine SG_q (Rq_move rfl) rfl ?_;refine SG_and (r := ?r53n3) 4 57 53 rfl ?_ ?_ ?_; rotate_left
    ·intro g53 K53
     have g53' := g53; try simp only [dd] at g53'
     have hm53 := Below.refl (wm48).heap.size wm48;refine SG_yes 53 rfl rfl g53 ?_
     first | refine SG_q (Rq_loadBW (hBs5x6) Tryz.isAgg45 Tryz.sizeOf45 rfl rfl) rfl ?_ | refine SG_q (Rq_loadBA (hBs5x6) Tryz.isAgg45 Tryz.sizeOf45 rfl rfl rfl) rfl ?_
     refine SG_yes 53 rfl rfl g53 (SG_q (Rq_build0 build45_) rfl (SG_yes 53 rfl rfl g53 (SG_q (Rq_eqlS (fun w => eq45 _ rw0 w) eg45 rfl rfl) rfl (SG_q (Rq_pick rfl (fun _ => rfl) (fun h => absurd (g53.symm.trans h) (by decide))) rfl ?_))));exact K53 _ _ hm53 (by repeat (first | exact Sub.refl | refine Sub.shadow ?_ | refine Sub.same ?_ | refine Sub.push rfl ?_))
    ·intro g53 K53
     have g53' := g53; try simp only [dd] at g53'
     have hm53 := Below.refl (wm48).heap.size wm48;refine SG_no 53 rfl rfl g53 rfl (SG_no 53 rfl rfl g53 rfl (SG_no 53 rfl rfl g53 rfl (SG_q (Rq_pick rfl (fun h => absurd (g53.symm.trans h) (by decide)) (fun _ => rfl)) rfl ?_)));exact K53 _ _ hm53 (by repeat (first | exact Sub.refl | refine Sub.shadow ?_ | refine Sub.same ?_ | refine Sub.push rfl ?_))
    intro wm53 hbm53;replace hb0 := btr hb0 hbm53
    simp only [List.drop_succ_cons, List.drop_zero]
    refine SG_q (Rq_move rfl) rfl ?_;refine SG_and (r := ?r58n4) 2 60 58 rfl ?_ ?_ ?_; rotate_left
    ·intro g58 K58
     have g58' := g58; try simp only [dd] at g58'
     have hm58 := Below.refl (wm53).heap.size wm53;refine SG_yes 58 rfl rfl g58 (SG_pure rfl Tryz.call10 rfl (f10_c _) ?_);intro w59 hb59;replace hb0 := btr hb0 hb59;replace hm58 := btr hm58 hb59;refine SG_q (Rq_pick rfl (fun _ => rfl) (fun h => absurd (g58.symm.trans h) (by decide))) rfl ?_;exact K58 _ _ hm58 (by repeat (first | exact Sub.refl | refine Sub.shadow ?_ | refine Sub.same ?_ | refine Sub.push rfl ?_))
    ·intro g58 K58
     have g58' := g58; try simp only [dd] at g58'
     have hm58 := Below.refl (wm53).heap.size wm53;refine SG_no 58 rfl rfl g58 rfl (SG_q (Rq_pick rfl (fun h => absurd (g58.symm.trans h) (by decide)) (fun _ => rfl)) rfl ?_);exact K58 _ _ hm58 (by repeat (first | exact Sub.refl | refine Sub.shadow ?_ | refine Sub.same ?_ | refine Sub.push rfl ?_))
    intro wm58 hbm58;replace hb0 := btr hb0 hbm58
    simp only [List.drop_succ_cons, List.drop_zero]
    refine SG_q (Rq_assign rfl) rfl (SG_nil (D_then (W_ret (D_then_ret (D_body1 rfl rfl rfl ?_)))));exact ⟨by simp [hrp, hckn], hb0⟩
   ·intro g39
    try simp only [dd] at g39
    have hck0 : checkR C = 0 := by simpa using g39
    have hnz := nextF_zero C;refine W_skip (D_then (W_seq (W_seq (W_region ?_))))
    first | refine SG_q (Rq_loadBW (hB2) Tryz.isAgg26 Tryz.sizeOf26 rfl rfl) rfl ?_ | refine SG_q (Rq_loadBA (hB2) Tryz.isAgg26 Tryz.sizeOf26 rfl rfl rfl) rfl ?_
    refine SG_pure rfl Tryz.call23 rfl (f23_c (⟨⟨_, _, _, rfl, (hu1), (hu2), (hu3)⟩⟩ : CoS _ _ C) hck0 (f := 0) rfl (by decide)) ?_;intro w63 hb63;replace hb0 := btr hb0 hb63;replace hu1 := hu1.below hb63;replace hu2 := hu2.below hb63;replace hu3 := hu3.below hb63;replace hB2 := hB2.below hb63;replace hB3 := hB3.below hb63;replace hx1 := hx1.below hb63;replace hx2 := hx2.below hb63;replace hx3 := hx3.below hb63;replace hBs3x3 := hBs3x3.below hb63;replace hy1 := hy1.below hb63;replace hy2 := hy2.below hb63;replace hy3 := hy3.below hb63;replace hBs4x7 := hBs4x7.below hb63;replace hBs5x6 := hBs5x6.below hb63;replace hBs8x5 := hBs8x5.below hb63;refine SG_q (Rq_move rfl) rfl (SG_q (Rq_extract rfl rfl) rfl (SG_q (Rq_extract rfl rfl) rfl (SG_alloc Tryz.zeroValue45 rfl rfl ?_)));intro w12 b12 e12 hb12 hz12 hB12
    have hle12 : w.heap.size ≤ b12 := by have := hb0.size; omega
    have ne_hu1_b12 := hu1.fresh (b := b12) (by omega);have ne_hu2_b12 := hu2.fresh (b := b12) (by omega);have ne_hu3_b12 := hu3.fresh (b := b12) (by omega)
    have ne_b2_12 : ¬ b2 = b12 := by have := hB2.lt; omega
    have ne_b3_12 : ¬ b3 = b12 := by have := hB3.lt; omega
    have ne_hx1_b12 := hx1.fresh (b := b12) (by omega);have ne_hx2_b12 := hx2.fresh (b := b12) (by omega);have ne_hx3_b12 := hx3.fresh (b := b12) (by omega)
    have ne_b5_12 : ¬ b5 = b12 := by have := hBs3x3.lt; omega
    have ne_hy1_b12 := hy1.fresh (b := b12) (by omega);have ne_hy2_b12 := hy2.fresh (b := b12) (by omega);have ne_hy3_b12 := hy3.fresh (b := b12) (by omega)
    have ne_b6_12 : ¬ b6 = b12 := by have := hBs4x7.lt; omega
    have ne_b8_12 : ¬ b8 = b12 := by have := hBs5x6.lt; omega
    have ne_b11_12 : ¬ b11 = b12 := by have := hBs8x5.lt; omega
    replace hb0 := btr hb0 hb12;replace hu1 := hu1.below hb12;replace hu2 := hu2.below hb12;replace hu3 := hu3.below hb12;replace hB2 := hB2.below hb12;replace hB3 := hB3.below hb12;replace hx1 := hx1.below hb12;replace hx2 := hx2.below hb12;replace hx3 := hx3.below hb12;replace hy1 := hy1.below hb12;replace hy2 := hy2.below hb12;replace hy3 := hy3.below hb12;replace hBs4x7 := hBs4x7.below hb12;replace hBs5x6 := hBs5x6.below hb12;replace hBs8x5 := hBs8x5.below hb12;refine SG_storeW (hB12) rfl rfl rfl rfl Tryz.sizeOf45 rfl rfl ?_;intro ws11x6 hchs11x6 hBs11x6;replace hb0 := bchg hb0 hchs11x6 hle12;replace hu1 := hu1.chg hchs11x6 ne_hu1_b12;replace hu2 := hu2.chg hchs11x6 ne_hu2_b12;replace hu3 := hu3.chg hchs11x6 ne_hu3_b12;replace hB2 := hB2.chg hchs11x6 ne_b2_12;replace hB3 := hB3.chg hchs11x6 ne_b3_12;replace hx1 := hx1.chg hchs11x6 ne_hx1_b12;replace hx2 := hx2.chg hchs11x6 ne_hx2_b12;replace hx3 := hx3.chg hchs11x6 ne_hx3_b12;replace hy1 := hy1.chg hchs11x6 ne_hy1_b12;replace hy2 := hy2.chg hchs11x6 ne_hy2_b12;replace hy3 := hy3.chg hchs11x6 ne_hy3_b12;replace hBs4x7 := hBs4x7.chg hchs11x6 ne_b6_12;replace hBs5x6 := hBs5x6.chg hchs11x6 ne_b8_12;replace hBs8x5 := hBs8x5.chg hchs11x6 ne_b11_12;clear hB12;refine SG_q (Rq_assign rfl) rfl (SG_nil (D_then (W_seq (W_region (SG_q (Rq_move rfl) rfl (SG_nil (D_then ?_)))))));refine W_cond rfl ?_ ?_
    ·intro g66
     try simp only [dd] at g66
     refine W_seq ?_;refine W_region ?_;refine SG_q (Rq_move rfl) rfl ?_;refine SG_q (Rq_neq rfl rfl) rfl ?_;refine SG_q (Rq_move rfl) rfl ?_;refine SG_or (r := ?r69n5) 4 73 69 rfl ?_ ?_ ?_; rotate_left
     ·intro g69 K69
      have g69' := g69; try simp only [dd] at g69'
      have hm69 := Below.refl (ws11x6).heap.size ws11x6;refine SG_yes 69 rfl rfl g69 ?_
      first | refine SG_q (Rq_loadBW (hBs5x6) Tryz.isAgg45 Tryz.sizeOf45 rfl rfl) rfl ?_ | refine SG_q (Rq_loadBA (hBs5x6) Tryz.isAgg45 Tryz.sizeOf45 rfl rfl rfl) rfl ?_
      refine SG_yes 69 rfl rfl g69 ?_
      first | refine SG_q (Rq_loadBW (hBs11x6) Tryz.isAgg45 Tryz.sizeOf45 rfl rfl) rfl ?_ | refine SG_q (Rq_loadBA (hBs11x6) Tryz.isAgg45 Tryz.sizeOf45 rfl rfl rfl) rfl ?_
      refine SG_yes 69 rfl rfl g69 (SG_q (Rq_neqS (fun w => eq45 _ _ w) eg45 rfl rfl) rfl (SG_q (Rq_pick rfl (fun h => absurd (g69.symm.trans h) (by decide)) (fun _ => rfl)) rfl ?_));exact K69 _ _ hm69 (by repeat (first | exact Sub.refl | refine Sub.shadow ?_ | refine Sub.same ?_ | refine Sub.push rfl ?_))
     ·intro g69 K69
      have g69' := g69; try simp only [dd] at g69'
      have hm69 := Below.refl (ws11x6).heap.size ws11x6;refine SG_no 69 rfl rfl g69 rfl (SG_no 69 rfl rfl g69 rfl (SG_no 69 rfl rfl g69 rfl (SG_q (Rq_pick rfl (fun _ => rfl) (fun h => absurd (g69.symm.trans h) (by decide))) rfl ?_)));exact K69 _ _ hm69 (by repeat (first | exact Sub.refl | refine Sub.shadow ?_ | refine Sub.same ?_ | refine Sub.push rfl ?_))
     intro wm69 hbm69;replace hb0 := btr hb0 hbm69;replace hu1 := hu1.below hbm69;replace hu2 := hu2.below hbm69;replace hu3 := hu3.below hbm69;replace hB2 := hB2.below hbm69;replace hB3 := hB3.below hbm69;replace hx1 := hx1.below hbm69;replace hx2 := hx2.below hbm69;replace hx3 := hx3.below hbm69;replace hy1 := hy1.below hbm69;replace hy2 := hy2.below hbm69;replace hy3 := hy3.below hbm69;replace hBs4x7 := hBs4x7.below hbm69;replace hBs8x5 := hBs8x5.below hbm69
     simp only [List.drop_succ_cons, List.drop_zero]
     refine SG_nil (D_then ?_);refine W_cond rfl ?_ ?_
     ·intro g73; exfalso; (try simp only [dd] at g73); (rw [hnz] at g73 g66; simp [hck0, g66] at g73)
     ·intro g73
      try simp only [dd] at g73
      refine W_skip ?_;refine D_then ?_;refine W_seq ?_;refine W_seq ?_;refine W_region ?_;refine SG_q (Rq_fieldAddr fa45_1 rfl) rfl ?_;refine SG_q (Rq_loadB (hB3) Tryz.isAgg3 rfl rfl) rfl ?_;refine SG_q (Rq_lss rfl rfl) rfl ?_;refine SG_q (Rq_move rfl) rfl ?_;refine SG_or (r := ?r84n6) 7 91 84 rfl ?_ ?_ ?_; rotate_left
      ·intro g84 K84
       have g84' := g84; try simp only [dd] at g84'
       have hm84 := Below.refl (wm69).heap.size wm69;refine SG_yes 84 rfl rfl g84 (SG_q (Rq_fieldAddr fa45_1 rfl) rfl (SG_yes 84 rfl rfl g84 (SG_q (Rq_loadB (hB3) Tryz.isAgg3 rfl rfl) rfl (SG_yes 84 rfl rfl g84 (SG_q (Rq_fieldAddr fa26_1 rfl) rfl (SG_yes 84 rfl rfl g84 (SG_q (Rq_loadB (hB2) Tryz.isAgg23 rfl rfl) rfl (SG_yes 84 rfl rfl g84 ?_))))))))
       first | refine SG_q (Rq_len (hu1) Tryz.runUnderlying23 rfl) rfl ?_ | refine SG_q (Rq_len (hu2) Tryz.runUnderlying23 rfl) rfl ?_ | refine SG_q (Rq_len (hu3) Tryz.runUnderlying23 rfl) rfl ?_ | refine SG_q (Rq_len (hx1) Tryz.runUnderlying23 rfl) rfl ?_ | refine SG_q (Rq_len (hx2) Tryz.runUnderlying23 rfl) rfl ?_ | refine SG_q (Rq_len (hx3) Tryz.runUnderlying23 rfl) rfl ?_ | refine SG_q (Rq_len (hy1) Tryz.runUnderlying23 rfl) rfl ?_ | refine SG_q (Rq_len (hy2) Tryz.runUnderlying23 rfl) rfl ?_ | refine SG_q (Rq_len (hy3) Tryz.runUnderlying23 rfl) rfl ?_
       refine SG_yes 84 rfl rfl g84 (SG_q (Rq_geq rfl rfl) rfl (SG_q (Rq_pick rfl (fun h => absurd (g84.symm.trans h) (by decide)) (fun _ => rfl)) rfl ?_));exact K84 _ _ hm84 (by repeat (first | exact Sub.refl | refine Sub.shadow ?_ | refine Sub.same ?_ | refine Sub.push rfl ?_))
      ·intro g84 K84
       have g84' := g84; try simp only [dd] at g84'
       have hm84 := Below.refl (wm69).heap.size wm69;refine SG_no 84 rfl rfl g84 rfl (SG_no 84 rfl rfl g84 rfl (SG_no 84 rfl rfl g84 rfl (SG_no 84 rfl rfl g84 rfl (SG_no 84 rfl rfl g84 rfl (SG_no 84 rfl rfl g84 rfl (SG_q (Rq_pick rfl (fun _ => rfl) (fun h => absurd (g84.symm.trans h) (by decide))) rfl ?_))))));exact K84 _ _ hm84 (by repeat (first | exact Sub.refl | refine Sub.shadow ?_ | refine Sub.same ?_ | refine Sub.push rfl ?_))
      intro wm84 hbm84;replace hb0 := btr hb0 hbm84;replace hu1 := hu1.below hbm84;replace hu2 := hu2.below hbm84;replace hu3 := hu3.below hbm84;replace hB2 := hB2.below hbm84;replace hB3 := hB3.below hbm84;replace hy1 := hy1.below hbm84;replace hy2 := hy2.below hbm84;replace hy3 := hy3.below hbm84;replace hBs4x7 := hBs4x7.below hbm84;replace hBs8x5 := hBs8x5.below hbm84
      simp only [List.drop_succ_cons, List.drop_zero]
      refine SG_nil (D_then ?_);refine W_cond rfl ?_ ?_
      ·intro g91
       try simp only [dd] at g91
       have hrp := replay_out (r := ⟨rr, ro⟩) hck0 (by dsimp only; omega);rw [hrp] at hy1 hy2 hy3;refine W_seq ?_;refine W_region ?_;refine SG_q (Rq_move rfl) rfl ?_;refine SG_q (Rq_eql rfl rfl) rfl ?_;refine SG_q (Rq_move rfl) rfl ?_;refine SG_and (r := ?r94n7) 4 98 94 rfl ?_ ?_ ?_; rotate_left
       ·intro g94 K94
        have g94' := g94; try simp only [dd] at g94'
        have hm94 := Below.refl (wm84).heap.size wm84;refine SG_yes 94 rfl rfl g94 ?_
        first | refine SG_q (Rq_loadBW (hBs4x7) Tryz.isAgg26 Tryz.sizeOf26 rfl rfl) rfl ?_ | refine SG_q (Rq_loadBA (hBs4x7) Tryz.isAgg26 Tryz.sizeOf26 rfl rfl rfl) rfl ?_
        refine SG_yes 94 rfl rfl g94 ?_
        first | refine SG_q (Rq_loadBW (hBs8x5) Tryz.isAgg26 Tryz.sizeOf26 rfl rfl) rfl ?_ | refine SG_q (Rq_loadBA (hBs8x5) Tryz.isAgg26 Tryz.sizeOf26 rfl rfl rfl) rfl ?_
        refine SG_yes 94 rfl rfl g94 (SG_pure rfl Tryz.call14 rfl (f14_c (⟨⟨_, _, _, rfl, (hy1), (hy2), (hy3)⟩⟩ : CoS _ _ noCo) ((CoV.no 0 0 _).s : CoS _ _ noCo) (by decide) (by decide) (by decide) (by decide) (by decide) (by decide)) ?_);intro w97 hb97;replace hb0 := btr hb0 hb97;replace hm94 := btr hm94 hb97;refine SG_q (Rq_pick rfl (fun _ => rfl) (fun h => absurd (g94.symm.trans h) (by decide))) rfl ?_;exact K94 _ _ hm94 (by repeat (first | exact Sub.refl | refine Sub.shadow ?_ | refine Sub.same ?_ | refine Sub.push rfl ?_))
       ·intro g94 K94
        have g94' := g94; try simp only [dd] at g94'
        have hm94 := Below.refl (wm84).heap.size wm84;refine SG_no 94 rfl rfl g94 rfl (SG_no 94 rfl rfl g94 rfl (SG_no 94 rfl rfl g94 rfl (SG_q (Rq_pick rfl (fun h => absurd (g94.symm.trans h) (by decide)) (fun _ => rfl)) rfl ?_)));exact K94 _ _ hm94 (by repeat (first | exact Sub.refl | refine Sub.shadow ?_ | refine Sub.same ?_ | refine Sub.push rfl ?_))
       intro wm94 hbm94;replace hb0 := btr hb0 hbm94
       simp only [List.drop_succ_cons, List.drop_zero]
       refine SG_q (Rq_move rfl) rfl ?_;refine SG_and (r := ?r99n8) 2 101 99 rfl ?_ ?_ ?_; rotate_left
       ·intro g99 K99
        have g99' := g99; try simp only [dd] at g99'
        have hm99 := Below.refl (wm94).heap.size wm94;refine SG_yes 99 rfl rfl g99 (SG_pure rfl Tryz.call10 rfl (f10_c _) ?_);intro w100 hb100;replace hb0 := btr hb0 hb100;replace hm99 := btr hm99 hb100;refine SG_q (Rq_pick rfl (fun _ => rfl) (fun h => absurd (g99.symm.trans h) (by decide))) rfl ?_;exact K99 _ _ hm99 (by repeat (first | exact Sub.refl | refine Sub.shadow ?_ | refine Sub.same ?_ | refine Sub.push rfl ?_))
       ·intro g99 K99
        have g99' := g99; try simp only [dd] at g99'
        have hm99 := Below.refl (wm94).heap.size wm94;refine SG_no 99 rfl rfl g99 rfl (SG_q (Rq_pick rfl (fun h => absurd (g99.symm.trans h) (by decide)) (fun _ => rfl)) rfl ?_);exact K99 _ _ hm99 (by repeat (first | exact Sub.refl | refine Sub.shadow ?_ | refine Sub.same ?_ | refine Sub.push rfl ?_))
       intro wm99 hbm99;replace hb0 := btr hb0 hbm99
       simp only [List.drop_succ_cons, List.drop_zero]
       refine SG_q (Rq_assign rfl) rfl (SG_nil (D_then (W_ret (D_then_ret (D_body1 rfl rfl rfl ?_)))));exact ⟨by simp [hrp, hck0], hb0⟩
      ·intro g91
       try simp only [dd] at g91
       obtain ⟨o, rfl⟩ := Int.eq_ofNat_of_zero_le (show 0 ≤ ro by omega)
       have ho : o < C.ops.length := by omega
       obtain ⟨hrp1, hrp⟩ := replay_ap (r := ⟨rr, (o : Int)⟩) hck0 (by dsimp only; omega) (by dsimp only; omega);rw [hrp1] at hy1 hy2 hy3 ne_hy1_b11 ne_hy2_b11 ne_hy3_b11;have hal := apC_len C ⟨rr, (o : Int)⟩;refine W_skip ?_;refine D_then ?_;refine W_seq ?_;refine W_region ?_
       first | refine SG_q (Rq_loadBW (hB2) Tryz.isAgg26 Tryz.sizeOf26 rfl rfl) rfl ?_ | refine SG_q (Rq_loadBA (hB2) Tryz.isAgg26 Tryz.sizeOf26 rfl rfl rfl) rfl ?_
       first | refine SG_q (Rq_loadBW (hB3) Tryz.isAgg45 Tryz.sizeOf45 rfl rfl) rfl ?_ | refine SG_q (Rq_loadBA (hB3) Tryz.isAgg45 Tryz.sizeOf45 rfl rfl rfl) rfl ?_
       have hz11 := hBs8x5.lt;refine SG_call rfl Tryz.call24 rfl (f24_c (⟨⟨_, _, _, rfl, (hu1), (hu2), (hu3)⟩⟩ : CoS _ _ C) hck0 rr ho) ?_;rintro v105 w105 hb105 ⟨vd, rfl, da1, dn1, dc1, da2, dn2, dc2, da3, dn3, dc3, rfl, hd1, hd2, hd3⟩;replace hb0 := btr hb0 hb105;replace hy1 := hy1.below hb105;replace hy2 := hy2.below hb105;replace hy3 := hy3.below hb105;replace hBs4x7 := hBs4x7.below hb105;replace hBs8x5 := hBs8x5.below hb105
       have ne_hd1_b11 : 0 < (apC C ⟨rr, (o : Int)⟩).ch.length → ¬ sb (.slice da1 dn1 dc1) = b11 := fun hp e => by have := (hd1.lt (sb_own hd1.sl hp)).1; omega
       have ne_hd2_b11 : 0 < (apC C ⟨rr, (o : Int)⟩).ops.length → ¬ sb (.slice da2 dn2 dc2) = b11 := fun hp e => by have := (hd2.lt (sb_own hd2.sl hp)).1; omega
       have ne_hd3_b11 : 0 < (apC C ⟨rr, (o : Int)⟩).roots.length → ¬ sb (.slice da3 dn3 dc3) = b11 := fun hp e => by have := (hd3.lt (sb_own hd3.sl hp)).1; omega
       replace hd1 := hd1.sl; replace hd2 := hd2.sl; replace hd3 := hd3.sl;refine SG_q (Rq_move rfl) rfl (SG_q (Rq_extract rfl rfl) rfl (SG_q (Rq_extract rfl rfl) rfl (SG_storeW (hBs8x5) rfl rfl rfl rfl Tryz.sizeOf26 rfl rfl ?_)));intro ws19x6 hchs19x6 hBs19x6;replace hb0 := bchg hb0 hchs19x6 hle11;replace hy1 := hy1.chg hchs19x6 ne_hy1_b11;replace hy2 := hy2.chg hchs19x6 ne_hy2_b11;replace hy3 := hy3.chg hchs19x6 ne_hy3_b11;replace hBs4x7 := hBs4x7.chg hchs19x6 ne_b6_11;replace hd1 := hd1.chg hchs19x6 ne_hd1_b11;replace hd2 := hd2.chg hchs19x6 ne_hd2_b11;replace hd3 := hd3.chg hchs19x6 ne_hd3_b11;clear hBs8x5;refine SG_q (Rq_assign rfl) rfl (SG_nil (D_then (W_seq (W_seq (W_region (SG_q (Rq_move rfl) rfl (SG_q (Rq_not rfl) rfl (SG_nil (D_then ?_)))))))));refine W_cond rfl ?_ ?_
       ·intro g109
        try simp only [dd] at g109
        rw [if_neg (by have h9 : (atC C rr (o : Int)).ap = false := g109; dsimp only; rw [h9]; decide)] at hrp;refine W_region ?_;refine SG_q (Rq_assign rfl) rfl ?_;refine SG_nil ?_;refine D_then ?_;refine W_seq ?_;refine W_region ?_;refine SG_q (Rq_move rfl) rfl ?_;refine SG_q (Rq_move rfl) rfl ?_;refine SG_q (Rq_eql rfl rfl) rfl ?_;refine SG_q (Rq_move rfl) rfl ?_;refine SG_and (r := ?r113n9) 4 117 113 rfl ?_ ?_ ?_; rotate_left
        ·intro g113 K113
         have g113' := g113; try simp only [dd] at g113'
         have hm113 := Below.refl (ws19x6).heap.size ws19x6;refine SG_yes 113 rfl rfl g113 ?_
         first | refine SG_q (Rq_loadBW (hBs4x7) Tryz.isAgg26 Tryz.sizeOf26 rfl rfl) rfl ?_ | refine SG_q (Rq_loadBA (hBs4x7) Tryz.isAgg26 Tryz.sizeOf26 rfl rfl rfl) rfl ?_
         refine SG_yes 113 rfl rfl g113 ?_
         first | refine SG_q (Rq_loadBW (hBs19x6) Tryz.isAgg26 Tryz.sizeOf26 rfl rfl) rfl ?_ | refine SG_q (Rq_loadBA (hBs19x6) Tryz.isAgg26 Tryz.sizeOf26 rfl rfl rfl) rfl ?_
         refine SG_yes 113 rfl rfl g113 (SG_pure rfl Tryz.call14 rfl (f14_c (⟨⟨_, _, _, rfl, (hy1), (hy2), (hy3)⟩⟩ : CoS _ _ (apC C ⟨rr, (o : Int)⟩)) (⟨⟨_, _, _, rfl, (hd1), (hd2), (hd3)⟩⟩ : CoS _ _ (apC C ⟨rr, (o : Int)⟩)) (by omega) (by omega) (by omega) (by omega) (by omega) (by omega)) ?_);intro w116 hb116;replace hb0 := btr hb0 hb116;replace hm113 := btr hm113 hb116;refine SG_q (Rq_pick rfl (fun _ => rfl) (fun h => absurd (g113.symm.trans h) (by decide))) rfl ?_;exact K113 _ _ hm113 (by repeat (first | exact Sub.refl | refine Sub.shadow ?_ | refine Sub.same ?_ | refine Sub.push rfl ?_))
        ·intro g113 K113
         have g113' := g113; try simp only [dd] at g113'
         have hm113 := Below.refl (ws19x6).heap.size ws19x6;refine SG_no 113 rfl rfl g113 rfl (SG_no 113 rfl rfl g113 rfl (SG_no 113 rfl rfl g113 rfl (SG_q (Rq_pick rfl (fun h => absurd (g113.symm.trans h) (by decide)) (fun _ => rfl)) rfl ?_)));exact K113 _ _ hm113 (by repeat (first | exact Sub.refl | refine Sub.shadow ?_ | refine Sub.same ?_ | refine Sub.push rfl ?_))
        intro wm113 hbm113;replace hb0 := btr hb0 hbm113
        simp only [List.drop_succ_cons, List.drop_zero]
        refine SG_q (Rq_move rfl) rfl ?_;refine SG_and (r := ?r118n10) 2 120 118 rfl ?_ ?_ ?_; rotate_left
        ·intro g118 K118
         have g118' := g118; try simp only [dd] at g118'
         have hm118 := Below.refl (wm113).heap.size wm113;refine SG_yes 118 rfl rfl g118 (SG_pure rfl Tryz.call10 rfl (f10_c _) ?_);intro w119 hb119;replace hb0 := btr hb0 hb119;replace hm118 := btr hm118 hb119;refine SG_q (Rq_pick rfl (fun _ => rfl) (fun h => absurd (g118.symm.trans h) (by decide))) rfl ?_;exact K118 _ _ hm118 (by repeat (first | exact Sub.refl | refine Sub.shadow ?_ | refine Sub.same ?_ | refine Sub.push rfl ?_))
        ·intro g118 K118
         have g118' := g118; try simp only [dd] at g118'
         have hm118 := Below.refl (wm113).heap.size wm113;refine SG_no 118 rfl rfl g118 rfl (SG_q (Rq_pick rfl (fun h => absurd (g118.symm.trans h) (by decide)) (fun _ => rfl)) rfl ?_);exact K118 _ _ hm118 (by repeat (first | exact Sub.refl | refine Sub.shadow ?_ | refine Sub.same ?_ | refine Sub.push rfl ?_))
        intro wm118 hbm118;replace hb0 := btr hb0 hbm118
        simp only [List.drop_succ_cons, List.drop_zero]
        refine SG_q (Rq_assign rfl) rfl (SG_nil (D_then (W_ret (D_body1 rfl rfl rfl ?_))));exact ⟨by simp [hrp, hck0], hb0⟩
       ·intro g109
        try simp only [dd] at g109
        rw [if_pos (by exact g109)] at hrp;refine W_skip ?_;refine D_then ?_;refine W_seq ?_;refine W_region ?_;refine SG_q (Rq_move rfl) rfl ?_;refine SG_q (Rq_move rfl) rfl ?_;refine SG_q (Rq_eql rfl rfl) rfl ?_;refine SG_q (Rq_move rfl) rfl ?_;refine SG_and (r := ?r113n11) 4 117 113 rfl ?_ ?_ ?_; rotate_left
        ·intro g113 K113
         have g113' := g113; try simp only [dd] at g113'
         have hm113 := Below.refl (ws19x6).heap.size ws19x6;refine SG_yes 113 rfl rfl g113 ?_
         first | refine SG_q (Rq_loadBW (hBs4x7) Tryz.isAgg26 Tryz.sizeOf26 rfl rfl) rfl ?_ | refine SG_q (Rq_loadBA (hBs4x7) Tryz.isAgg26 Tryz.sizeOf26 rfl rfl rfl) rfl ?_
         refine SG_yes 113 rfl rfl g113 ?_
         first | refine SG_q (Rq_loadBW (hBs19x6) Tryz.isAgg26 Tryz.sizeOf26 rfl rfl) rfl ?_ | refine SG_q (Rq_loadBA (hBs19x6) Tryz.isAgg26 Tryz.sizeOf26 rfl rfl rfl) rfl ?_
         refine SG_yes 113 rfl rfl g113 (SG_pure rfl Tryz.call14 rfl (f14_c (⟨⟨_, _, _, rfl, (hy1), (hy2), (hy3)⟩⟩ : CoS _ _ (apC C ⟨rr, (o : Int)⟩)) (⟨⟨_, _, _, rfl, (hd1), (hd2), (hd3)⟩⟩ : CoS _ _ (apC C ⟨rr, (o : Int)⟩)) (by omega) (by omega) (by omega) (by omega) (by omega) (by omega)) ?_);intro w116 hb116;replace hb0 := btr hb0 hb116;replace hm113 := btr hm113 hb116;refine SG_q (Rq_pick rfl (fun _ => rfl) (fun h => absurd (g113.symm.trans h) (by decide))) rfl ?_;exact K113 _ _ hm113 (by repeat (first | exact Sub.refl | refine Sub.shadow ?_ | refine Sub.same ?_ | refine Sub.push rfl ?_))
        ·intro g113 K113
         have g113' := g113; try simp only [dd] at g113'
         have hm113 := Below.refl (ws19x6).heap.size ws19x6;refine SG_no 113 rfl rfl g113 rfl (SG_no 113 rfl rfl g113 rfl (SG_no 113 rfl rfl g113 rfl (SG_q (Rq_pick rfl (fun h => absurd (g113.symm.trans h) (by decide)) (fun _ => rfl)) rfl ?_)));exact K113 _ _ hm113 (by repeat (first | exact Sub.refl | refine Sub.shadow ?_ | refine Sub.same ?_ | refine Sub.push rfl ?_))
        intro wm113 hbm113;replace hb0 := btr hb0 hbm113
        simp only [List.drop_succ_cons, List.drop_zero]
        refine SG_q (Rq_move rfl) rfl ?_;refine SG_and (r := ?r118n12) 2 120 118 rfl ?_ ?_ ?_; rotate_left
        ·intro g118 K118
         have g118' := g118; try simp only [dd] at g118'
         have hm118 := Below.refl (wm113).heap.size wm113;refine SG_yes 118 rfl rfl g118 (SG_pure rfl Tryz.call10 rfl (f10_c _) ?_);intro w119 hb119;replace hb0 := btr hb0 hb119;replace hm118 := btr hm118 hb119;refine SG_q (Rq_pick rfl (fun _ => rfl) (fun h => absurd (g118.symm.trans h) (by decide))) rfl ?_;exact K118 _ _ hm118 (by repeat (first | exact Sub.refl | refine Sub.shadow ?_ | refine Sub.same ?_ | refine Sub.push rfl ?_))
        ·intro g118 K118
         have g118' := g118; try simp only [dd] at g118'
         have hm118 := Below.refl (wm113).heap.size wm113;refine SG_no 118 rfl rfl g118 rfl (SG_q (Rq_pick rfl (fun h => absurd (g118.symm.trans h) (by decide)) (fun _ => rfl)) rfl ?_);exact K118 _ _ hm118 (by repeat (first | exact Sub.refl | refine Sub.shadow ?_ | refine Sub.same ?_ | refine Sub.push rfl ?_))
        intro wm118 hbm118;replace hb0 := btr hb0 hbm118
        simp only [List.drop_succ_cons, List.drop_zero]
        refine SG_q (Rq_assign rfl) rfl (SG_nil (D_then (W_ret (D_body1 rfl rfl rfl ?_))));exact ⟨by simp [hrp, hck0], hb0⟩
    ·intro g66
     try simp only [dd] at g66
     refine W_seq ?_;refine W_region ?_;refine SG_q (Rq_move rfl) rfl ?_;refine SG_q (Rq_neq rfl rfl) rfl ?_;refine SG_q (Rq_move rfl) rfl ?_;refine SG_or (r := ?r76n13) 4 80 76 rfl ?_ ?_ ?_; rotate_left
     ·intro g76 K76
      have g76' := g76; try simp only [dd] at g76'
      have hm76 := Below.refl (ws11x6).heap.size ws11x6;refine SG_yes 76 rfl rfl g76 ?_
      first | refine SG_q (Rq_loadBW (hBs5x6) Tryz.isAgg45 Tryz.sizeOf45 rfl rfl) rfl ?_ | refine SG_q (Rq_loadBA (hBs5x6) Tryz.isAgg45 Tryz.sizeOf45 rfl rfl rfl) rfl ?_
      refine SG_yes 76 rfl rfl g76 (SG_q (Rq_build0 build45_) rfl (SG_yes 76 rfl rfl g76 (SG_q (Rq_neqS (fun w => eq45 _ rw0 w) eg45 rfl rfl) rfl (SG_q (Rq_pick rfl (fun h => absurd (g76.symm.trans h) (by decide)) (fun _ => rfl)) rfl ?_))));exact K76 _ _ hm76 (by repeat (first | exact Sub.refl | refine Sub.shadow ?_ | refine Sub.same ?_ | refine Sub.push rfl ?_))
     ·intro g76 K76
      have g76' := g76; try simp only [dd] at g76'
      have hm76 := Below.refl (ws11x6).heap.size ws11x6;refine SG_no 76 rfl rfl g76 rfl (SG_no 76 rfl rfl g76 rfl (SG_no 76 rfl rfl g76 rfl (SG_q (Rq_pick rfl (fun _ => rfl) (fun h => absurd (g76.symm.trans h) (by decide))) rfl ?_)));exact K76 _ _ hm76 (by repeat (first | exact Sub.refl | refine Sub.shadow ?_ | refine Sub.same ?_ | refine Sub.push rfl ?_))
     intro wm76 hbm76;replace hb0 := btr hb0 hbm76;replace hu1 := hu1.below hbm76;replace hu2 := hu2.below hbm76;replace hu3 := hu3.below hbm76;replace hB2 := hB2.below hbm76;replace hB3 := hB3.below hbm76;replace hx1 := hx1.below hbm76;replace hx2 := hx2.below hbm76;replace hx3 := hx3.below hbm76;replace hy1 := hy1.below hbm76;replace hy2 := hy2.below hbm76;replace hy3 := hy3.below hbm76;replace hBs4x7 := hBs4x7.below hbm76;replace hBs8x5 := hBs8x5.below hbm76
     simp only [List.drop_succ_cons, List.drop_zero]
     refine SG_nil (D_then ?_);refine W_cond rfl ?_ ?_
     ·intro g80; exfalso; (try simp only [dd] at g80); (rw [hnz] at g66; have hn : nextR C = none := (by simpa using g66); simp [hck0, hn] at g80)
     ·intro g80
      try simp only [dd] at g80
      refine W_skip ?_;refine D_then ?_;refine W_seq ?_;refine W_seq ?_;refine W_region ?_;refine SG_q (Rq_fieldAddr fa45_1 rfl) rfl ?_;refine SG_q (Rq_loadB (hB3) Tryz.isAgg3 rfl rfl) rfl ?_;refine SG_q (Rq_lss rfl rfl) rfl ?_;refine SG_q (Rq_move rfl) rfl ?_;refine SG_or (r := ?r84n14) 7 91 84 rfl ?_ ?_ ?_; rotate_left
      ·intro g84 K84
       have g84' := g84; try simp only [dd] at g84'
       have hm84 := Below.refl (wm76).heap.size wm76;refine SG_yes 84 rfl rfl g84 (SG_q (Rq_fieldAddr fa45_1 rfl) rfl (SG_yes 84 rfl rfl g84 (SG_q (Rq_loadB (hB3) Tryz.isAgg3 rfl rfl) rfl (SG_yes 84 rfl rfl g84 (SG_q (Rq_fieldAddr fa26_1 rfl) rfl (SG_yes 84 rfl rfl g84 (SG_q (Rq_loadB (hB2) Tryz.isAgg23 rfl rfl) rfl (SG_yes 84 rfl rfl g84 ?_))))))))
       first | refine SG_q (Rq_len (hu1) Tryz.runUnderlying23 rfl) rfl ?_ | refine SG_q (Rq_len (hu2) Tryz.runUnderlying23 rfl) rfl ?_ | refine SG_q (Rq_len (hu3) Tryz.runUnderlying23 rfl) rfl ?_ | refine SG_q (Rq_len (hx1) Tryz.runUnderlying23 rfl) rfl ?_ | refine SG_q (Rq_len (hx2) Tryz.runUnderlying23 rfl) rfl ?_ | refine SG_q (Rq_len (hx3) Tryz.runUnderlying23 rfl) rfl ?_ | refine SG_q (Rq_len (hy1) Tryz.runUnderlying23 rfl) rfl ?_ | refine SG_q (Rq_len (hy2) Tryz.runUnderlying23 rfl) rfl ?_ | refine SG_q (Rq_len (hy3) Tryz.runUnderlying23 rfl) rfl ?_
       refine SG_yes 84 rfl rfl g84 (SG_q (Rq_geq rfl rfl) rfl (SG_q (Rq_pick rfl (fun h => absurd (g84.symm.trans h) (by decide)) (fun _ => rfl)) rfl ?_));exact K84 _ _ hm84 (by repeat (first | exact Sub.refl | refine Sub.shadow ?_ | refine Sub.same ?_ | refine Sub.push rfl ?_))
      ·intro g84 K84
       have g84' := g84; try simp only [dd] at g84'
       have hm84 := Below.refl (wm76).heap.size wm76;refine SG_no 84 rfl rfl g84 rfl (SG_no 84 rfl rfl g84 rfl (SG_no 84 rfl rfl g84 rfl (SG_no 84 rfl rfl g84 rfl (SG_no 84 rfl rfl g84 rfl (SG_no 84 rfl rfl g84 rfl (SG_q (Rq_pick rfl (fun _ => rfl) (fun h => absurd (g84.symm.trans h) (by decide))) rfl ?_))))));exact K84 _ _ hm84 (by repeat (first | exact Sub.refl | refine Sub.shadow ?_ | refine Sub.same ?_ | refine Sub.push rfl ?_))
      intro wm84 hbm84;replace hb0 := btr hb0 hbm84;replace hu1 := hu1.below hbm84;replace hu2 := hu2.below hbm84;replace hu3 := hu3.below hbm84;replace hB2 := hB2.below hbm84;replace hB3 := hB3.below hbm84;replace hy1 := hy1.below hbm84;replace hy2 := hy2.below hbm84;replace hy3 := hy3.below hbm84;replace hBs4x7 := hBs4x7.below hbm84;replace hBs8x5 := hBs8x5.below hbm84
      simp only [List.drop_succ_cons, List.drop_zero]
      refine SG_nil (D_then ?_);refine W_cond rfl ?_ ?_
      ·intro g91
       try simp only [dd] at g91
       have hrp := replay_out (r := ⟨rr, ro⟩) hck0 (by dsimp only; omega);rw [hrp] at hy1 hy2 hy3;refine W_seq ?_;refine W_region ?_;refine SG_q (Rq_move rfl) rfl ?_;refine SG_q (Rq_eql rfl rfl) rfl ?_;refine SG_q (Rq_move rfl) rfl ?_;refine SG_and (r := ?r94n15) 4 98 94 rfl ?_ ?_ ?_; rotate_left
       ·intro g94 K94
        have g94' := g94; try simp only [dd] at g94'
        have hm94 := Below.refl (wm84).heap.size wm84;refine SG_yes 94 rfl rfl g94 ?_
        first | refine SG_q (Rq_loadBW (hBs4x7) Tryz.isAgg26 Tryz.sizeOf26 rfl rfl) rfl ?_ | refine SG_q (Rq_loadBA (hBs4x7) Tryz.isAgg26 Tryz.sizeOf26 rfl rfl rfl) rfl ?_
        refine SG_yes 94 rfl rfl g94 ?_
        first | refine SG_q (Rq_loadBW (hBs8x5) Tryz.isAgg26 Tryz.sizeOf26 rfl rfl) rfl ?_ | refine SG_q (Rq_loadBA (hBs8x5) Tryz.isAgg26 Tryz.sizeOf26 rfl rfl rfl) rfl ?_
        refine SG_yes 94 rfl rfl g94 (SG_pure rfl Tryz.call14 rfl (f14_c (⟨⟨_, _, _, rfl, (hy1), (hy2), (hy3)⟩⟩ : CoS _ _ noCo) ((CoV.no 0 0 _).s : CoS _ _ noCo) (by decide) (by decide) (by decide) (by decide) (by decide) (by decide)) ?_);intro w97 hb97;replace hb0 := btr hb0 hb97;replace hm94 := btr hm94 hb97;refine SG_q (Rq_pick rfl (fun _ => rfl) (fun h => absurd (g94.symm.trans h) (by decide))) rfl ?_;exact K94 _ _ hm94 (by repeat (first | exact Sub.refl | refine Sub.shadow ?_ | refine Sub.same ?_ | refine Sub.push rfl ?_))
       ·intro g94 K94
        have g94' := g94; try simp only [dd] at g94'
        have hm94 := Below.refl (wm84).heap.size wm84;refine SG_no 94 rfl rfl g94 rfl (SG_no 94 rfl rfl g94 rfl (SG_no 94 rfl rfl g94 rfl (SG_q (Rq_pick rfl (fun h => absurd (g94.symm.trans h) (by decide)) (fun _ => rfl)) rfl ?_)));exact K94 _ _ hm94 (by repeat (first | exact Sub.refl | refine Sub.shadow ?_ | refine Sub.same ?_ | refine Sub.push rfl ?_))
       intro wm94 hbm94;replace hb0 := btr hb0 hbm94
       simp only [List.drop_succ_cons, List.drop_zero]
       refine SG_q (Rq_move rfl) rfl ?_;refine SG_and (r := ?r99n16) 2 101 99 rfl ?_ ?_ ?_; rotate_left
       ·intro g99 K99
        have g99' := g99; try simp only [dd] at g99'
        have hm99 := Below.refl (wm94).heap.size wm94;refine SG_yes 99 rfl rfl g99 (SG_pure rfl Tryz.call10 rfl (f10_c _) ?_);intro w100 hb100;replace hb0 := btr hb0 hb100;replace hm99 := btr hm99 hb100;refine SG_q (Rq_pick rfl (fun _ => rfl) (fun h => absurd (g99.symm.trans h) (by decide))) rfl ?_;exact K99 _ _ hm99 (by repeat (first | exact Sub.refl | refine Sub.shadow ?_ | refine Sub.same ?_ | refine Sub.push rfl ?_))
       ·intro g99 K99
        have g99' := g99; try simp only [dd] at g99'
        have hm99 := Below.refl (wm94).heap.size wm94;refine SG_no 99 rfl rfl g99 rfl (SG_q (Rq_pick rfl (fun h => absurd (g99.symm.trans h) (by decide)) (fun _ => rfl)) rfl ?_);exact K99 _ _ hm99 (by repeat (first | exact Sub.refl | refine Sub.shadow ?_ | refine Sub.same ?_ | refine Sub.push rfl ?_))
       intro wm99 hbm99;replace hb0 := btr hb0 hbm99
       simp only [List.drop_succ_cons, List.drop_zero]
       refine SG_q (Rq_assign rfl) rfl (SG_nil (D_then (W_ret (D_then_ret (D_body1 rfl rfl rfl ?_)))));exact ⟨by simp [hrp, hck0], hb0⟩
      ·intro g91
       try simp only [dd] at g91
       obtain ⟨o, rfl⟩ := Int.eq_ofNat_of_zero_le (show 0 ≤ ro by omega)
       have ho : o < C.ops.length := by omega
       obtain ⟨hrp1, hrp⟩ := replay_ap (r := ⟨rr, (o : Int)⟩) hck0 (by dsimp only; omega) (by dsimp only; omega);rw [hrp1] at hy1 hy2 hy3 ne_hy1_b11 ne_hy2_b11 ne_hy3_b11;have hal := apC_len C ⟨rr, (o : Int)⟩;refine W_skip ?_;refine D_then ?_;refine W_seq ?_;refine W_region ?_
       first | refine SG_q (Rq_loadBW (hB2) Tryz.isAgg26 Tryz.sizeOf26 rfl rfl) rfl ?_ | refine SG_q (Rq_loadBA (hB2) Tryz.isAgg26 Tryz.sizeOf26 rfl rfl rfl) rfl ?_
       first | refine SG_q (Rq_loadBW (hB3) Tryz.isAgg45 Tryz.sizeOf45 rfl rfl) rfl ?_ | refine SG_q (Rq_loadBA (hB3) Tryz.isAgg45 Tryz.sizeOf45 rfl rfl rfl) rfl ?_
       have hz11 := hBs8x5.lt;refine SG_call rfl Tryz.call24 rfl (f24_c (⟨⟨_, _, _, rfl, (hu1), (hu2), (hu3)⟩⟩ : CoS _ _ C) hck0 rr ho) ?_;rintro v105 w105 hb105 ⟨vd, rfl, da1, dn1, dc1, da2, dn2, dc2, da3, dn3, dc3, rfl, hd1, hd2, hd3⟩;replace hb0 := btr hb0 hb105;replace hy1 := hy1.below hb105;replace hy2 := hy2.below hb105;replace hy3 := hy3.below hb105;replace hBs4x7 := hBs4x7.below hb105;replace hBs8x5 := hBs8x5.below hb105
       have ne_hd1_b11 : 0 < (apC C ⟨rr, (o : Int)⟩).ch.length → ¬ sb (.slice da1 dn1 dc1) = b11 := fun hp e => by have := (hd1.lt (sb_own hd1.sl hp)).1; omega
       have ne_hd2_b11 : 0 < (apC C ⟨rr, (o : Int)⟩).ops.length → ¬ sb (.slice da2 dn2 dc2) = b11 := fun hp e => by have := (hd2.lt (sb_own hd2.sl hp)).1; omega
       have ne_hd3_b11 : 0 < (apC C ⟨rr, (o : Int)⟩).roots.length → ¬ sb (.slice da3 dn3 dc3) = b11 := fun hp e => by have := (hd3.lt (sb_own hd3.sl hp)).1; omega
       replace hd1 := hd1.sl; replace hd2 := hd2.sl; replace hd3 := hd3.sl;refine SG_q (Rq_move rfl) rfl (SG_q (Rq_extract rfl rfl) rfl (SG_q (Rq_extract rfl rfl) rfl (SG_storeW (hBs8x5) rfl rfl rfl rfl Tryz.sizeOf26 rfl rfl ?_)));intro ws19x6 hchs19x6 hBs19x6;replace hb0 := bchg hb0 hchs19x6 hle11;replace hy1 := hy1.chg hchs19x6 ne_hy1_b11;replace hy2 := hy2.chg hchs19x6 ne_hy2_b11;replace hy3 := hy3.chg hchs19x6 ne_hy3_b11;replace hBs4x7 := hBs4x7.chg hchs19x6 ne_b6_11;replace hd1 := hd1.chg hchs19x6 ne_hd1_b11;replace hd2 := hd2.chg hchs19x6 ne_hd2_b11;replace hd3 := hd3.chg hchs19x6 ne_hd3_b11;clear hBs8x5;refine SG_q (Rq_assign rfl) rfl (SG_nil (D_then (W_seq (W_seq (W_region (SG_q (Rq_move rfl) rfl (SG_q (Rq_not rfl) rfl (SG_nil (D_then ?_)))))))));refine W_cond rfl ?_ ?_
       ·intro g109
        try simp only [dd] at g109
        rw [if_neg (by have h9 : (atC C rr (o : Int)).ap = false := g109; dsimp only; rw [h9]; decide)] at hrp;refine W_region ?_;refine SG_q (Rq_assign rfl) rfl ?_;refine SG_nil ?_;refine D_then ?_;refine W_seq ?_;refine W_region ?_;refine SG_q (Rq_move rfl) rfl ?_;refine SG_q (Rq_move rfl) rfl ?_;refine SG_q (Rq_eql rfl rfl) rfl ?_;refine SG_q (Rq_move rfl) rfl ?_;refine SG_and (r := ?r113n17) 4 117 113 rfl ?_ ?_ ?_; rotate_left
        ·intro g113 K113
         have g113' := g113; try simp only [dd] at g113'
         have hm113 := Below.refl (ws19x6).heap.size ws19x6;refine SG_yes 113 rfl rfl g113 ?_
         first | refine SG_q (Rq_loadBW (hBs4x7) Tryz.isAgg26 Tryz.sizeOf26 rfl rfl) rfl ?_ | refine SG_q (Rq_loadBA (hBs4x7) Tryz.isAgg26 Tryz.sizeOf26 rfl rfl rfl) rfl ?_
         refine SG_yes 113 rfl rfl g113 ?_
         first | refine SG_q (Rq_loadBW (hBs19x6) Tryz.isAgg26 Tryz.sizeOf26 rfl rfl) rfl ?_ | refine SG_q (Rq_loadBA (hBs19x6) Tryz.isAgg26 Tryz.sizeOf26 rfl rfl rfl) rfl ?_
         refine SG_yes 113 rfl rfl g113 (SG_pure rfl Tryz.call14 rfl (f14_c (⟨⟨_, _, _, rfl, (hy1), (hy2), (hy3)⟩⟩ : CoS _ _ (apC C ⟨rr, (o : Int)⟩)) (⟨⟨_, _, _, rfl, (hd1), (hd2), (hd3)⟩⟩ : CoS _ _ (apC C ⟨rr, (o : Int)⟩)) (by omega) (by omega) (by omega) (by omega) (by omega) (by omega)) ?_);intro w116 hb116;replace hb0 := btr hb0 hb116;replace hm113 := btr hm113 hb116;refine SG_q (Rq_pick rfl (fun _ => rfl) (fun h => absurd (g113.symm.trans h) (by decide))) rfl ?_;exact K113 _ _ hm113 (by repeat (first | exact Sub.refl | refine Sub.shadow ?_ | refine Sub.same ?_ | refine Sub.push rfl ?_))
        ·intro g113 K113
         have g113' := g113; try simp only [dd] at g113'
         have hm113 := Below.refl (ws19x6).heap.size ws19x6;refine SG_no 113 rfl rfl g113 rfl (SG_no 113 rfl rfl g113 rfl (SG_no 113 rfl rfl g113 rfl (SG_q (Rq_pick rfl (fun h => absurd (g113.symm.trans h) (by decide)) (fun _ => rfl)) rfl ?_)));exact K113 _ _ hm113 (by repeat (first | exact Sub.refl | refine Sub.shadow ?_ | refine Sub.same ?_ | refine Sub.push rfl ?_))
        intro wm113 hbm113;replace hb0 := btr hb0 hbm113
        simp only [List.drop_succ_cons, List.drop_zero]
        refine SG_q (Rq_move rfl) rfl ?_;refine SG_and (r := ?r118n18) 2 120 118 rfl ?_ ?_ ?_; rotate_left
        ·intro g118 K118
         have g118' := g118; try simp only [dd] at g118'
         have hm118 := Below.refl (wm113).heap.size wm113;refine SG_yes 118 rfl rfl g118 (SG_pure rfl Tryz.call10 rfl (f10_c _) ?_);intro w119 hb119;replace hb0 := btr hb0 hb119;replace hm118 := btr hm118 hb119;refine SG_q (Rq_pick rfl (fun _ => rfl) (fun h => absurd (g118.symm.trans h) (by decide))) rfl ?_;exact K118 _ _ hm118 (by repeat (first | exact Sub.refl | refine Sub.shadow ?_ | refine Sub.same ?_ | refine Sub.push rfl ?_))
        ·intro g118 K118
         have g118' := g118; try simp only [dd] at g118'
         have hm118 := Below.refl (wm113).heap.size wm113;refine SG_no 118 rfl rfl g118 rfl (SG_q (Rq_pick rfl (fun h => absurd (g118.symm.trans h) (by decide)) (fun _ => rfl)) rfl ?_);exact K118 _ _ hm118 (by repeat (first | exact Sub.refl | refine Sub.shadow ?_ | refine Sub.same ?_ | refine Sub.push rfl ?_))
        intro wm118 hbm118;replace hb0 := btr hb0 hbm118
        simp only [List.drop_succ_cons, List.drop_zero]
        refine SG_q (Rq_assign rfl) rfl (SG_nil (D_then (W_ret (D_body1 rfl rfl rfl ?_))));exact ⟨by simp [hrp, hck0], hb0⟩
       ·intro g109
        try simp only [dd] at g109
        rw [if_pos (by exact g109)] at hrp;refine W_skip ?_;refine D_then ?_;refine W_seq ?_;refine W_region ?_;refine SG_q (Rq_move rfl) rfl ?_;refine SG_q (Rq_move rfl) rfl ?_;refine SG_q (Rq_eql rfl rfl) rfl ?_;refine SG_q (Rq_move rfl) rfl ?_;refine SG_and (r := ?r113n19) 4 117 113 rfl ?_ ?_ ?_; rotate_left
        ·intro g113 K113
         have g113' := g113; try simp only [dd] at g113'
         have hm113 := Below.refl (ws19x6).heap.size ws19x6;refine SG_yes 113 rfl rfl g113 ?_
         first | refine SG_q (Rq_loadBW (hBs4x7) Tryz.isAgg26 Tryz.sizeOf26 rfl rfl) rfl ?_ | refine SG_q (Rq_loadBA (hBs4x7) Tryz.isAgg26 Tryz.sizeOf26 rfl rfl rfl) rfl ?_
         refine SG_yes 113 rfl rfl g113 ?_
         first | refine SG_q (Rq_loadBW (hBs19x6) Tryz.isAgg26 Tryz.sizeOf26 rfl rfl) rfl ?_ | refine SG_q (Rq_loadBA (hBs19x6) Tryz.isAgg26 Tryz.sizeOf26 rfl rfl rfl) rfl ?_
         refine SG_yes 113 rfl rfl g113 (SG_pure rfl Tryz.call14 rfl (f14_c (⟨⟨_, _, _, rfl, (hy1), (hy2), (hy3)⟩⟩ : CoS _ _ (apC C ⟨rr, (o : Int)⟩)) (⟨⟨_, _, _, rfl, (hd1), (hd2), (hd3)⟩⟩ : CoS _ _ (apC C ⟨rr, (o : Int)⟩)) (by omega) (by omega) (by omega) (by omega) (by omega) (by omega)) ?_);intro w116 hb116;replace hb0 := btr hb0 hb116;replace hm113 := btr hm113 hb116;refine SG_q (Rq_pick rfl (fun _ => rfl) (fun h => absurd (g113.symm.trans h) (by decide))) rfl ?_;exact K113 _ _ hm113 (by repeat (first | exact Sub.refl | refine Sub.shadow ?_ | refine Sub.same ?_ | refine Sub.push rfl ?_))
        ·intro g113 K113
         have g113' := g113; try simp only [dd] at g113'
         have hm113 := Below.refl (ws19x6).heap.size ws19x6;refine SG_no 113 rfl rfl g113 rfl (SG_no 113 rfl rfl g113 rfl (SG_no 113 rfl rfl g113 rfl (SG_q (Rq_pick rfl (fun h => absurd (g113.symm.trans h) (by decide)) (fun _ => rfl)) rfl ?_)));exact K113 _ _ hm113 (by repeat (first | exact Sub.refl | refine Sub.shadow ?_ | refine Sub.same ?_ | refine Sub.push rfl ?_))
        intro wm113 hbm113;replace hb0 := btr hb0 hbm113
        simp only [List.drop_succ_cons, List.drop_zero]
        refine SG_q (Rq_move rfl) rfl ?_;refine SG_and (r := ?r118n20) 2 120 118 rfl ?_ ?_ ?_; rotate_left
        ·intro g118 K118
         have g118' := g118; try simp only [dd] at g118'
         have hm118 := Below.refl (wm113).heap.size wm113;refine SG_yes 118 rfl rfl g118 (SG_pure rfl Tryz.call10 rfl (f10_c _) ?_);intro w119 hb119;replace hb0 := btr hb0 hb119;replace hm118 := btr hm118 hb119;refine SG_q (Rq_pick rfl (fun _ => rfl) (fun h => absurd (g118.symm.trans h) (by decide))) rfl ?_;exact K118 _ _ hm118 (by repeat (first | exact Sub.refl | refine Sub.shadow ?_ | refine Sub.same ?_ | refine Sub.push rfl ?_))
        ·intro g118 K118
         have g118' := g118; try simp only [dd] at g118'
         have hm118 := Below.refl (wm113).heap.size wm113;refine SG_no 118 rfl rfl g118 rfl (SG_q (Rq_pick rfl (fun h => absurd (g118.symm.trans h) (by decide)) (fun _ => rfl)) rfl ?_);exact K118 _ _ hm118 (by repeat (first | exact Sub.refl | refine Sub.shadow ?_ | refine Sub.same ?_ | refine Sub.push rfl ?_))
        intro wm118 hbm118;replace hb0 := btr hb0 hbm118
        simp only [List.drop_succ_cons, List.drop_zero]
        refine SG_q (Rq_assign rfl) rfl (SG_nil (D_then (W_ret (D_body1 rfl rfl rfl ?_))));exact ⟨by simp [hrp, hck0], hb0⟩
end Go.Proofs.YtphmoebiobjfhaaGreat
