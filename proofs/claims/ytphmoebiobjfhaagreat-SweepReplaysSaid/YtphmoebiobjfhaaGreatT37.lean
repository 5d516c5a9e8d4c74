/- Walks of functions, printed by a program of the author. -/
import Derived.Test.YtphmoebiobjfhaaGreatT36
set_option linter.all false
namespace Go.Proofs.YtphmoebiobjfhaaGreat
open Go Go.Mi Go.RowKit
set_option maxHeartbeats 4000000 in
theorem f4_c {v vl : Value} {C : Co} {l : List Rw} {w : World} (hC : CoS w v C) (hL : SL w vl 2 encR l) : Pure Tryz.prog 4 #[v, vl] w (.bool true) := by
 obtain ⟨uC, uO, uR, rfl, hu1, hu2, hu3⟩ := hC.ex;have hb0 := Below.refl w.heap.size w;refine calls_of_W Tryz.func4 rfl Tryz.ntmps4 rfl ?_;refine W_seq (W_region (SG_box rfl rfl rfl ?_));intro w2 b2 e2 hb2 hz2 hB2
 have hle2 : w.heap.size ≤ b2 := by have := hb0.size; omega
 replace hb0 := btr hb0 hb2;replace hu1 := hu1.below hb2;replace hu2 := hu2.below hb2;replace hu3 := hu3.below hb2;replace hL := hL.below hb2;refine SG_q (Rq_assign rfl) rfl (SG_nil (D_then (W_seq (W_seq (W_region ?_)))))
 first | refine SG_q (Rq_loadBW (hB2) Tryz.isAgg26 Tryz.sizeOf26 rfl rfl) rfl ?_ | refine SG_q (Rq_loadBA (hB2) Tryz.isAgg26 Tryz.sizeOf26 rfl rfl rfl) rfl ?_
 refine SG_pure rfl Tryz.call9 rfl (f9_c (⟨⟨_, _, _, rfl, (hu1), (hu2), (hu3)⟩⟩ : CoS _ _ C)) ?_;intro w15 hb15;replace hb0 := btr hb0 hb15;replace hu1 := hu1.below hb15;replace hu2 := hu2.below hb15;replace hu3 := hu3.below hb15;replace hL := hL.below hb15;replace hB2 := hB2.below hb15;refine SG_q (Rq_move rfl) rfl ?_;refine SG_or (r := ?r16n1) 4 20 16 rfl ?_ ?_ ?_; rotate_left
 ·intro g16 K16
  have g16' := g16; try simp only [dd] at g16'
  have hm16 := Below.refl (w15).heap.size w15;refine SG_yes 16 rfl rfl g16 (SG_q (Rq_move rfl) rfl (SG_yes 16 rfl rfl g16 ?_))
  first | refine SG_q (Rq_len (hu1) Tryz.runUnderlying30 rfl) rfl ?_ | refine SG_q (Rq_len (hu2) Tryz.runUnderlying30 rfl) rfl ?_ | refine SG_q (Rq_len (hu3) Tryz.runUnderlying30 rfl) rfl ?_ | refine SG_q (Rq_len (hL) Tryz.runUnderlying30 rfl) rfl ?_
  refine SG_yes 16 rfl rfl g16 (SG_q (Rq_gtr rfl rfl) rfl (SG_q (Rq_pick rfl (fun h => absurd (g16.symm.trans h) (by decide)) (fun _ => rfl)) rfl ?_));exact K16 _ _ hm16 (by repeat (first | exact Sub.refl | refine Sub.shadow ?_ | refine Sub.same ?_ | refine Sub.push rfl ?_))
 ·intro g16 K16
  have g16' := g16; try simp only [dd] at g16'
  have hm16 := Below.refl (w15).heap.size w15;refine SG_no 16 rfl rfl g16 rfl (SG_no 16 rfl rfl g16 rfl (SG_no 16 rfl rfl g16 rfl (SG_q (Rq_pick rfl (fun _ => rfl) (fun h => absurd (g16.symm.trans h) (by decide))) rfl ?_)));exact K16 _ _ hm16 (by repeat (first | exact Sub.refl | refine Sub.shadow ?_ | refine Sub.same ?_ | refine Sub.push rfl ?_))
 intro wm16 hbm16;replace hb0 := btr hb0 hbm16;replace hu1 := hu1.below hbm16;replace hu2 := hu2.below hbm16;replace hu3 := hu3.below hbm16;replace hL := hL.below hbm16;replace hB2 := hB2.below hbm16
 simp only [List.drop_succ_cons, List.drop_zero]
 refine SG_nil (D_then ?_);refine W_cond rfl ?_ ?_
 ·intro g20
  try simp only [dd] at g20
  refine W_seq (W_region (SG_pure rfl Tryz.call10 rfl (f10_c _) ?_));intro w21 hb21;replace hb0 := btr hb0 hb21;refine SG_q (Rq_assign rfl) rfl (SG_nil (D_then (W_ret (D_then_ret (D_body1 rfl rfl rfl ?_)))));exact ⟨rfl, hb0⟩
 ·intro g20
  try simp only [dd] at g20
  have p1 : C.ch.length ≤ 100000 := by omega
  have p2 : C.ops.length ≤ 100000 := by omega
  have p3 : C.roots.length ≤ 100000 := by omega
  refine W_skip (D_then (W_seq (W_region ?_)))
  first | refine SG_q (Rq_loadBW (hB2) Tryz.isAgg26 Tryz.sizeOf26 rfl rfl) rfl ?_ | refine SG_q (Rq_loadBA (hB2) Tryz.isAgg26 Tryz.sizeOf26 rfl rfl rfl) rfl ?_
  refine SG_call rfl Tryz.call11 rfl (f11_c (⟨⟨_, _, _, rfl, (hu1), (hu2), (hu3)⟩⟩ : CoS _ _ C) p1 p2 p3) ?_;rintro v23 w23 hb23 ⟨xa1, xn1, xc1, xa2, xn2, xc2, xa3, xn3, xc3, rfl, ⟨hx1, hx2, hx3⟩, _⟩;replace hb0 := btr hb0 hb23;replace hu1 := hu1.below hb23;replace hu2 := hu2.below hb23;replace hu3 := hu3.below hb23;replace hL := hL.below hb23;replace hB2 := hB2.below hb23;have hxl1 := hx1.lt; have hxl2 := hx2.lt; have hxl3 := hx3.lt; have hul1 := hu1.lt; have hul2 := hu2.lt; have hul3 := hu3.lt; have hLl := hL.lt; have hz2l := hB2.lt;refine SG_bslice (enc := encR) (val := valR) (os := []) rfl rfl MV.nil (fun _ => rfl) (fun _ => rfl) Tryz.runUnderlying30 Tryz.sizeOf45 Tryz.zeroValue45 rfl (by decide) (by decide) rfl ?_;intro w24 v24 b24 e24 hb24 hz24 hob24 hO24
  have hle24 : w.heap.size ≤ b24 := by have := hb0.size; omega
  have lt_b2_24 : b2 < b24 := by have := hB2.lt; omega
  replace hb0 := btr hb0 hb24;replace hu1 := hu1.below hb24;replace hu2 := hu2.below hb24;replace hu3 := hu3.below hb24;replace hL := hL.below hb24;replace hB2 := hB2.below hb24;replace hx1 := hx1.below hb24;replace hx2 := hx2.below hb24;replace hx3 := hx3.below hb24;refine SG_q (Rq_move rfl) rfl ?_;refine SG_append (hO24) (hL) Tryz.underlying30 info45 rfl rfl rfl (fun _ _ => rfl) (by simp only [List.length_append, List.length_cons, List.length_nil]; omega) (by simp only [List.length_append, List.length_cons, List.length_nil]; omega) (by omega) rfl ?_;intro v26 w26 hO26 hch26 hsn26;replace hb0 := hb0.trans (hch26.below hb0.size (fun k hk e => by have := (hO24).lt e; omega))
  replace hu1 := (hu1.chg hch26 (fun hp e => by have e9 := Option.some.inj (hob24.symm.trans e); have := hul1 hp; omega))
  replace hu2 := (hu2.chg hch26 (fun hp e => by have e9 := Option.some.inj (hob24.symm.trans e); have := hul2 hp; omega))
  replace hu3 := (hu3.chg hch26 (fun hp e => by have e9 := Option.some.inj (hob24.symm.trans e); have := hul3 hp; omega))
  replace hL := (hL.chg hch26 (fun hp e => by have e9 := Option.some.inj (hob24.symm.trans e); have := hLl hp; omega))
  replace hB2 := (hB2.chg hch26 (fun e => by have e9 := Option.some.inj (hob24.symm.trans e); omega))
  replace hx1 := (hx1.chg hch26 (fun hp e => by have e9 := Option.some.inj (hob24.symm.trans e); have := hxl1 hp; omega))
  replace hx2 := (hx2.chg hch26 (fun hp e => by have e9 := Option.some.inj (hob24.symm.trans e); have := hxl2 hp; omega))
  replace hx3 := (hx3.chg hch26 (fun hp e => by have e9 := Option.some.inj (hob24.symm.trans e); have := hxl3 hp; omega))
  clear hO24;rw [List.nil_append] at hO26;refine SG_alloc Tryz.zeroValue26 rfl rfl ?_;intro w5 b5 e5 hb5 hz5 hB5
  have hle5 : w.heap.size ≤ b5 := by have := hb0.size; omega
  have ne_hu1_b5 := hu1.fresh (b := b5) (by omega);have ne_hu2_b5 := hu2.fresh (b := b5) (by omega);have ne_hu3_b5 := hu3.fresh (b := b5) (by omega);have ne_hL_b5 := hL.fresh (b := b5) (by omega)
  have ne_b2_5 : ¬ b2 = b5 := by have := hB2.lt; omega
  have ne_hx1_b5 := hx1.fresh (b := b5) (by omega);have ne_hx2_b5 := hx2.fresh (b := b5) (by omega);have ne_hx3_b5 := hx3.fresh (b := b5) (by omega)
  have ne_hO26_b5 : ∀ k, Value.ownBlock v26 = some k → ¬ k = b5 := fun k e => by have := hO26.lt e; omega
  replace hb0 := btr hb0 hb5;replace hu1 := hu1.below hb5;replace hu2 := hu2.below hb5;replace hu3 := hu3.below hb5;replace hL := hL.below hb5;replace hB2 := hB2.below hb5;replace hx1 := hx1.below hb5;replace hx2 := hx2.below hb5;replace hx3 := hx3.below hb5;replace hO26 := hO26.below hb5;refine SG_storeW (hB5) rfl rfl rfl rfl Tryz.sizeOf26 rfl rfl ?_;intro ws3x6 hchs3x6 hBs3x6;replace hb0 := bchg hb0 hchs3x6 hle5;replace hu1 := hu1.chg hchs3x6 ne_hu1_b5;replace hu2 := hu2.chg hchs3x6 ne_hu2_b5;replace hu3 := hu3.chg hchs3x6 ne_hu3_b5;replace hL := hL.chg hchs3x6 ne_hL_b5;replace hB2 := hB2.chg hchs3x6 ne_b2_5;replace hx1 := hx1.chg hchs3x6 ne_hx1_b5;replace hx2 := hx2.chg hchs3x6 ne_hx2_b5;replace hx3 := hx3.chg hchs3x6 ne_hx3_b5;replace hO26 := hO26.chg hchs3x6 (fun k e e2 => by first | exact ne_hO26_b5 k e e2 | (have := hO26.lt e; have := ne_hO26_b5; omega));clear hB5;refine SG_q (Rq_assign rfl) rfl ?_;refine SG_nil ?_;refine D_then ?_;refine W_seq ?_;refine W_region ?_
  first | refine SG_q (Rq_loadBW (hBs3x6) Tryz.isAgg26 Tryz.sizeOf26 rfl rfl) rfl ?_ | refine SG_q (Rq_loadBA (hBs3x6) Tryz.isAgg26 Tryz.sizeOf26 rfl rfl rfl) rfl ?_
  refine SG_q (Rq_move rfl) rfl (SG_call rfl Tryz.call19 rfl (f19_c (C := C) (hx1) (hx2) (hx3) p1 p2 p3 (hO26.sl)) ?_);rintro v30 w30 hb30 ⟨u30, rfl, hCV30⟩;replace hb0 := btr hb0 hb30;replace hu1 := hu1.below hb30;replace hu2 := hu2.below hb30;replace hu3 := hu3.below hb30;replace hL := hL.below hb30;replace hB2 := hB2.below hb30;replace hx1 := hx1.below hb30;replace hx2 := hx2.below hb30;replace hx3 := hx3.below hb30;replace hO26 := hO26.below hb30;replace hBs3x6 := hBs3x6.below hb30;obtain ⟨qyC, qyO, qyR, rfl, ⟨hy1, hy2, hy3⟩, _⟩ := hCV30.ex
  obtain ⟨a_qyC, n_qyC, c_qyC, h_qyC⟩ : ∃ a n c, qyC = Value.slice a n c := by obtain ⟨a, c, h⟩ := (hy1).len; exact ⟨_, _, _, h⟩
  subst h_qyC
  obtain ⟨a_qyO, n_qyO, c_qyO, h_qyO⟩ : ∃ a n c, qyO = Value.slice a n c := by obtain ⟨a, c, h⟩ := (hy2).len; exact ⟨_, _, _, h⟩
  subst h_qyO
  obtain ⟨a_qyR, n_qyR, c_qyR, h_qyR⟩ : ∃ a n c, qyR = Value.slice a n c := by obtain ⟨a, c, h⟩ := (hy3).len; exact ⟨_, _, _, h⟩
  subst h_qyR;refine SG_q (Rq_move rfl) rfl (SG_q (Rq_extract rfl rfl) rfl (SG_q (Rq_extract rfl rfl) rfl (SG_q (Rq_extract rfl rfl) rfl (SG_alloc Tryz.zeroValue26 rfl rfl ?_))));intro w7 b7 e7 hb7 hz7 hB7
  have hle7 : w.heap.size ≤ b7 := by have := hb0.size; omega
  have ne_hu1_b7 := hu1.fresh (b := b7) (by omega);have ne_hu2_b7 := hu2.fresh (b := b7) (by omega);have ne_hu3_b7 := hu3.fresh (b := b7) (by omega);have ne_hL_b7 := hL.fresh (b := b7) (by omega)
  have ne_b2_7 : ¬ b2 = b7 := by have := hB2.lt; omega
  have ne_hx1_b7 := hx1.fresh (b := b7) (by omega);have ne_hx2_b7 := hx2.fresh (b := b7) (by omega);have ne_hx3_b7 := hx3.fresh (b := b7) (by omega)
  have ne_hO26_b7 : ∀ k, Value.ownBlock v26 = some k → ¬ k = b7 := fun k e => by have := hO26.lt e; omega
  have ne_b5_7 : ¬ b5 = b7 := by have := hBs3x6.lt; omega
  have ne_hy1_b7 := hy1.fresh (b := b7) (by omega);have ne_hy2_b7 := hy2.fresh (b := b7) (by omega);have ne_hy3_b7 := hy3.fresh (b := b7) (by omega);replace hb0 := btr hb0 hb7;replace hu1 := hu1.below hb7;replace hu2 := hu2.below hb7;replace hu3 := hu3.below hb7;replace hL := hL.below hb7;replace hB2 := hB2.below hb7;replace hx1 := hx1.below hb7;replace hx2 := hx2.below hb7;replace hx3 := hx3.below hb7;replace hO26 := hO26.below hb7;replace hBs3x6 := hBs3x6.below hb7;replace hy1 := hy1.below hb7;replace hy2 := hy2.below hb7;replace hy3 := hy3.below hb7;refine SG_storeW (hB7) rfl rfl rfl rfl Tryz.sizeOf26 rfl rfl ?_;intro ws4x8 hchs4x8 hBs4x8;replace hb0 := bchg hb0 hchs4x8 hle7;replace hu1 := hu1.chg hchs4x8 ne_hu1_b7;replace hu2 := hu2.chg hchs4x8 ne_hu2_b7;replace hu3 := hu3.chg hchs4x8 ne_hu3_b7;replace hL := hL.chg hchs4x8 ne_hL_b7;replace hB2 := hB2.chg hchs4x8 ne_b2_7;replace hx1 := hx1.chg hchs4x8 ne_hx1_b7;replace hx2 := hx2.chg hchs4x8 ne_hx2_b7;replace hx3 := hx3.chg hchs4x8 ne_hx3_b7;replace hO26 := hO26.chg hchs4x8 (fun k e e2 => by first | exact ne_hO26_b7 k e e2 | (have := hO26.lt e; have := ne_hO26_b7; omega));replace hBs3x6 := hBs3x6.chg hchs4x8 ne_b5_7;replace hy1 := hy1.chg hchs4x8 ne_hy1_b7;replace hy2 := hy2.chg hchs4x8 ne_hy2_b7;replace hy3 := hy3.chg hchs4x8 ne_hy3_b7;clear hB7;refine SG_q (Rq_assign rfl) rfl ?_;refine SG_q (Rq_assign rfl) rfl ?_;refine SG_nil ?_;refine D_then ?_;refine W_seq ?_;refine W_seq ?_;refine W_region ?_
  first | refine SG_q (Rq_loadBW (hBs3x6) Tryz.isAgg26 Tryz.sizeOf26 rfl rfl) rfl ?_ | refine SG_q (Rq_loadBA (hBs3x6) Tryz.isAgg26 Tryz.sizeOf26 rfl rfl rfl) rfl ?_
  first | refine SG_q (Rq_loadBW (hB2) Tryz.isAgg26 Tryz.sizeOf26 rfl rfl) rfl ?_ | refine SG_q (Rq_loadBA (hB2) Tryz.isAgg26 Tryz.sizeOf26 rfl rfl rfl) rfl ?_
  refine SG_pure rfl Tryz.call14 rfl (f14_c (⟨⟨_, _, _, rfl, (hx1), (hx2), (hx3)⟩⟩ : CoS _ _ C) (⟨⟨_, _, _, rfl, (hu1), (hu2), (hu3)⟩⟩ : CoS _ _ C) p1 p2 p3 p1 p2 p3) ?_;intro w36 hb36;replace hb0 := btr hb0 hb36;replace hu1 := hu1.below hb36;replace hu2 := hu2.below hb36;replace hu3 := hu3.below hb36;replace hL := hL.below hb36;replace hB2 := hB2.below hb36;replace hO26 := hO26.below hb36;replace hBs3x6 := hBs3x6.below hb36;replace hy1 := hy1.below hb36;replace hy2 := hy2.below hb36;replace hy3 := hy3.below hb36;replace hBs4x8 := hBs4x8.below hb36;refine SG_q (Rq_not rfl) rfl ?_;refine SG_q (Rq_move rfl) rfl ?_;refine SG_or (r := ?r38n2) 5 43 38 rfl ?_ ?_ ?_; rotate_left
  ·intro g38 K38
   have g38' := g38; try simp only [dd] at g38'
   have hm38 := Below.refl (w36).heap.size w36;refine SG_yes 38 rfl rfl g38 (SG_q (Rq_move rfl) rfl (SG_yes 38 rfl rfl g38 (SG_q (Rq_move rfl) rfl (SG_yes 38 rfl rfl g38 (SG_pure rfl Tryz.call17 rfl (f17_c (hO26.sl) (hL) (by omega)) ?_)))));intro w41 hb41;replace hb0 := btr hb0 hb41;replace hm38 := btr hm38 hb41;refine SG_yes 38 rfl rfl g38 (SG_q (Rq_not rfl) rfl (SG_q (Rq_pick rfl (fun h => absurd (g38.symm.trans h) (by decide)) (fun _ => rfl)) rfl ?_));exact K38 _ _ hm38 (by repeat (first | exact Sub.refl | refine Sub.shadow ?_ | refine Sub.same ?_ | refine Sub.push rfl ?_))
  ·intro g38 K38
   have g38' := g38; try simp only [dd] at g38'
   have hm38 := Below.refl (w36).heap.size w36;refine SG_no 38 rfl rfl g38 rfl (SG_no 38 rfl rfl g38 rfl (SG_no 38 rfl rfl g38 rfl (SG_no 38 rfl rfl g38 rfl (SG_q (Rq_pick rfl (fun _ => rfl) (fun h => absurd (g38.symm.trans h) (by decide))) rfl ?_))));exact K38 _ _ hm38 (by repeat (first | exact Sub.refl | refine Sub.shadow ?_ | refine Sub.same ?_ | refine Sub.push rfl ?_))
  intro wm38 hbm38;replace hb0 := btr hb0 hbm38;replace hu1 := hu1.below hbm38;replace hu2 := hu2.below hbm38;replace hu3 := hu3.below hbm38;replace hL := hL.below hbm38;replace hB2 := hB2.below hbm38;replace hO26 := hO26.below hbm38;replace hBs3x6 := hBs3x6.below hbm38;replace hy1 := hy1.below hbm38;replace hy2 := hy2.below hbm38;replace hy3 := hy3.below hbm38;replace hBs4x8 := hBs4x8.below hbm38
  simp only [List.drop_succ_cons, List.drop_zero]
  refine SG_nil (D_then ?_);refine W_cond rfl ?_ ?_
  ·intro g43; exfalso; (try simp only [dd] at g43); simp at g43
  ·intro g43
   try simp only [dd] at g43
   refine W_skip (D_then (W_seq (W_seq (W_region ?_))))
   first | refine SG_q (Rq_loadBW (hB2) Tryz.isAgg26 Tryz.sizeOf26 rfl rfl) rfl ?_ | refine SG_q (Rq_loadBA (hB2) Tryz.isAgg26 Tryz.sizeOf26 rfl rfl rfl) rfl ?_
   refine SG_pure rfl Tryz.call15 rfl (f15_c (⟨⟨_, _, _, rfl, (hu1), (hu2), (hu3)⟩⟩ : CoS _ _ C)) ?_;intro w45 hb45;replace hb0 := btr hb0 hb45;replace hu1 := hu1.below hb45;replace hu2 := hu2.below hb45;replace hu3 := hu3.below hb45;replace hL := hL.below hb45;replace hB2 := hB2.below hb45;replace hO26 := hO26.below hb45;replace hBs3x6 := hBs3x6.below hb45;replace hy1 := hy1.below hb45;replace hy2 := hy2.below hb45;replace hy3 := hy3.below hb45;replace hBs4x8 := hBs4x8.below hb45;refine SG_q (Rq_assign rfl) rfl (SG_nil (D_then (W_seq (W_region (SG_q (Rq_move rfl) rfl (SG_q (Rq_neq rfl rfl) rfl (SG_nil (D_then ?_))))))));refine W_cond rfl ?_ ?_
   ·intro g47
    try simp only [dd] at g47
    have hckn : ¬ checkR C = 0 := by simpa using g47
    have hrp : replayR C l = (noCo, 0, checkR C) := by unfold replayR; rw [if_pos hckn]
    rw [hrp] at hy1 hy2 hy3;refine W_seq ?_;refine W_region ?_;refine SG_q (Rq_move rfl) rfl ?_;refine SG_q (Rq_move rfl) rfl ?_;refine SG_q (Rq_eql rfl rfl) rfl ?_;refine SG_q (Rq_move rfl) rfl ?_;refine SG_and (r := ?r51n3) 3 54 51 rfl ?_ ?_ ?_; rotate_left
    ·intro g51 K51
     have g51' := g51; try simp only [dd] at g51'
     have hm51 := Below.refl (w45).heap.size w45;refine SG_yes 51 rfl rfl g51 (SG_q (Rq_move rfl) rfl (SG_yes 51 rfl rfl g51 (SG_q (Rq_eql rfl rfl) rfl (SG_q (Rq_pick rfl (fun _ => rfl) (fun h => absurd (g51.symm.trans h) (by decide))) rfl ?_))));exact K51 _ _ hm51 (by repeat (first | exact Sub.refl | refine Sub.shadow ?_ | refine Sub.same ?_ | refine Sub.push rfl ?_))
    ·intro g51 K51
     have g51' := g51; try simp only [dd] at g51'
     have hm51 := Below.refl (w45).heap.size w45;refine SG_no 51 rfl rfl g51 rfl (SG_no 51 rfl rfl g51 rfl (SG_q (Rq_pick rfl (fun h => absurd (g51.symm.trans h) (by decide)) (fun _ => rfl)) rfl ?_));exact K51 _ _ hm51 (by repeat (first | exact Sub.refl | refine Sub.shadow ?_ | refine Sub.same ?_ | refine Sub.push rfl ?_))
    intro wm51 hbm51;replace hb0 := btr hb0 hbm51;replace hy1 := hy1.below hbm51;replace hy2 := hy2.below hbm51;replace hy3 := hy3.below hbm51;replace hBs4x8 := hBs4x8.below hbm51
    simp only [List.drop_succ_cons, List.drop_zero]
    refine SG_q (Rq_move rfl) rfl ?_;refine SG_and (r := ?r55n4) 4 59 55 rfl ?_ ?_ ?_; rotate_left
    ·intro g55 K55
     have g55' := g55; try simp only [dd] at g55'
     have hm55 := Below.refl (wm51).heap.size wm51;refine SG_yes 55 rfl rfl g55 ?_
     first | refine SG_q (Rq_loadBW (hBs4x8) Tryz.isAgg26 Tryz.sizeOf26 rfl rfl) rfl ?_ | refine SG_q (Rq_loadBA (hBs4x8) Tryz.isAgg26 Tryz.sizeOf26 rfl rfl rfl) rfl ?_
     refine SG_yes 55 rfl rfl g55 (SG_q (Rq_build0 build26_) rfl (SG_yes 55 rfl rfl g55 (SG_pure rfl Tryz.call14 rfl (f14_c (⟨⟨_, _, _, rfl, (hy1), (hy2), (hy3)⟩⟩ : CoS _ _ noCo) ((CoV.no 0 0 _).s : CoS _ _ noCo) (by decide) (by decide) (by decide) (by decide) (by decide) (by decide)) ?_)));intro w58 hb58;replace hb0 := btr hb0 hb58;replace hm55 := btr hm55 hb58;refine SG_q (Rq_pick rfl (fun _ => rfl) (fun h => absurd (g55.symm.trans h) (by decide))) rfl ?_;exact K55 _ _ hm55 (by repeat (first | exact Sub.refl | refine Sub.shadow ?_ | refine Sub.same ?_ | refine Sub.push rfl ?_))
    ·intro g55 K55
     have g55' := g55; try simp only [dd] at g55'
     have hm55 := Below.refl (wm51).heap.size wm51;refine SG_no 55 rfl rfl g55 rfl (SG_no 55 rfl rfl g55 rfl (SG_no 55 rfl rfl g55 rfl (SG_q (Rq_pick rfl (fun h => absurd (g55.symm.trans h) (by decide)) (fun _ => rfl)) rfl ?_)));exact K55 _ _ hm55 (by repeat (first | exact Sub.refl | refine Sub.shadow ?_ | refine Sub.same ?_ | refine Sub.push rfl ?_))
    intro wm55 hbm55;replace hb0 := btr hb0 hbm55
    simp only [List.drop_succ_cons, List.drop_zero]
    refine SG_q (Rq_move rfl) rfl ?_;refine SG_and (r := ?r60n5) 2 62 60 rfl ?_ ?_ ?_; rotate_left
    ·intro g60 K60
     have g60' := g60; try simp only [dd] at g60'
     have hm60 := Below.refl (wm55).heap.size wm55;refine SG_yes 60 rfl rfl g60 (SG_pure rfl Tryz.call10 rfl (f10_c _) ?_);intro w61 hb61;replace hb0 := btr hb0 hb61;replace hm60 := btr hm60 hb61;refine SG_q (Rq_pick rfl (fun _ => rfl) (fun h => absurd (g60.symm.trans h) (by decide))) rfl ?_;exact K60 _ _ hm60 (by repeat (first | exact Sub.refl | refine Sub.shadow ?_ | refine Sub.same ?_ | refine Sub.push rfl ?_))
    ·intro g60 K60
     have g60' := g60; try simp only [dd] at g60'
     have hm60 := Below.refl (wm55).heap.size wm55;refine SG_no 60 rfl rfl g60 rfl (SG_q (Rq_pick rfl (fun h => absurd (g60.symm.trans h) (by decide)) (fun _ => rfl)) rfl ?_);exact K60 _ _ hm60 (by repeat (first | exact Sub.refl | refine Sub.shadow ?_ | refine Sub.same ?_ | refine Sub.push rfl ?_))
    intro wm60 hbm60;replace hb0 := btr hb0 hbm60
    simp only [List.drop_succ_cons, List.drop_zero]
    refine SG_q (Rq_assign rfl) rfl (SG_nil (D_then (W_ret (D_then_ret (D_body1 rfl rfl rfl ?_)))));exact ⟨by simp [hrp, hckn], hb0⟩
   ·intro g47
    try simp only [dd] at g47
    have hck0 : checkR C = 0 := by simpa using g47
    have hlr := (check_ok (replayR_check hck0 l)).1;refine W_skip (D_then (W_seq (W_region ?_)))
    first | refine SG_q (Rq_loadBW (hB2) Tryz.isAgg26 Tryz.sizeOf26 rfl rfl) rfl ?_ | refine SG_q (Rq_loadBA (hB2) Tryz.isAgg26 Tryz.sizeOf26 rfl rfl rfl) rfl ?_
    refine SG_call rfl Tryz.call11 rfl (f11_c (⟨⟨_, _, _, rfl, (hu1), (hu2), (hu3)⟩⟩ : CoS _ _ C) p1 p2 p3) ?_;rintro v65 w65 hb65 ⟨za1, zn1, zc1, za2, zn2, zc2, za3, zn3, zc3, rfl, ⟨hz1, hz2, hz3⟩, _⟩;replace hb0 := btr hb0 hb65;replace hL := hL.below hb65;replace hB2 := hB2.below hb65;replace hO26 := hO26.below hb65;replace hBs3x6 := hBs3x6.below hb65;replace hy1 := hy1.below hb65;replace hy2 := hy2.below hb65;replace hy3 := hy3.below hb65;replace hBs4x8 := hBs4x8.below hb65;refine SG_q (Rq_move rfl) rfl (SG_call rfl Tryz.call20 rfl (f20_c (⟨⟨_, _, _, rfl, (hz1), (hz2), (hz3)⟩⟩ : CoS _ _ C) hck0 (hL) (by omega)) ?_);rintro v67 w67 hb67 ⟨vd, rfl, da1, dn1, dc1, da2, dn2, dc2, da3, dn3, dc3, rfl, ⟨hd1, hd2, hd3⟩, _⟩;replace hb0 := btr hb0 hb67;replace hB2 := hB2.below hb67;replace hO26 := hO26.below hb67;replace hBs3x6 := hBs3x6.below hb67;replace hy1 := hy1.below hb67;replace hy2 := hy2.below hb67;replace hy3 := hy3.below hb67;replace hBs4x8 := hBs4x8.below hb67;refine SG_q (Rq_move rfl) rfl (SG_q (Rq_extract rfl rfl) rfl (SG_q (Rq_extract rfl rfl) rfl (SG_q (Rq_extract rfl rfl) rfl (SG_alloc Tryz.zeroValue26 rfl rfl ?_))));intro w11 b11 e11 hb11 hz11 hB11
    have hle11 : w.heap.size ≤ b11 := by have := hb0.size; omega
    have ne_b2_11 : ¬ b2 = b11 := by have := hB2.lt; omega
    have ne_hO26_b11 : ∀ k, Value.ownBlock v26 = some k → ¬ k = b11 := fun k e => by have := hO26.lt e; omega
    have ne_b5_11 : ¬ b5 = b11 := by have := hBs3x6.lt; omega
    have ne_hy1_b11 := hy1.fresh (b := b11) (by omega);have ne_hy2_b11 := hy2.fresh (b := b11) (by omega);have ne_hy3_b11 := hy3.fresh (b := b11) (by omega)
    have ne_b7_11 : ¬ b7 = b11 := by have := hBs4x8.lt; omega
    have ne_hd1_b11 := hd1.fresh (b := b11) (by omega);have ne_hd2_b11 := hd2.fresh (b := b11) (by omega);have ne_hd3_b11 := hd3.fresh (b := b11) (by omega);replace hb0 := btr hb0 hb11;replace hO26 := hO26.below hb11;replace hy1 := hy1.below hb11;replace hy2 := hy2.below hb11;replace hy3 := hy3.below hb11;replace hBs4x8 := hBs4x8.below hb11;replace hd1 := hd1.below hb11;replace hd2 := hd2.below hb11;replace hd3 := hd3.below hb11;refine SG_storeW (hB11) rfl rfl rfl rfl Tryz.sizeOf26 rfl rfl ?_;intro ws10x9 hchs10x9 hBs10x9;replace hb0 := bchg hb0 hchs10x9 hle11;replace hO26 := hO26.chg hchs10x9 (fun k e e2 => by first | exact ne_hO26_b11 k e e2 | (have := hO26.lt e; have := ne_hO26_b11; omega));replace hy1 := hy1.chg hchs10x9 ne_hy1_b11;replace hy2 := hy2.chg hchs10x9 ne_hy2_b11;replace hy3 := hy3.chg hchs10x9 ne_hy3_b11;replace hBs4x8 := hBs4x8.chg hchs10x9 ne_b7_11;replace hd1 := hd1.chg hchs10x9 ne_hd1_b11;replace hd2 := hd2.chg hchs10x9 ne_hd2_b11;replace hd3 := hd3.chg hchs10x9 ne_hd3_b11;clear hB11;refine SG_q (Rq_assign rfl) rfl ?_;refine SG_q (Rq_assign rfl) rfl ?_;refine SG_nil ?_;refine D_then ?_;refine W_seq ?_;refine W_region ?_;refine SG_q (Rq_move rfl) rfl ?_;refine SG_q (Rq_move rfl) rfl ?_;refine SG_q (Rq_eql rfl rfl) rfl ?_;refine SG_q (Rq_move rfl) rfl ?_;refine SG_and (r := ?r74n6) 4 78 74 rfl ?_ ?_ ?_; rotate_left
    ·intro g74 K74
     have g74' := g74; try simp only [dd] at g74'
     have hm74 := Below.refl (ws10x9).heap.size ws10x9;refine SG_yes 74 rfl rfl g74 (SG_q (Rq_move rfl) rfl (SG_yes 74 rfl rfl g74 (SG_q (Rq_move rfl) rfl (SG_yes 74 rfl rfl g74 (SG_q (Rq_eql rfl rfl) rfl (SG_q (Rq_pick rfl (fun _ => rfl) (fun h => absurd (g74.symm.trans h) (by decide))) rfl ?_))))));exact K74 _ _ hm74 (by repeat (first | exact Sub.refl | refine Sub.shadow ?_ | refine Sub.same ?_ | refine Sub.push rfl ?_))
    ·intro g74 K74
     have g74' := g74; try simp only [dd] at g74'
     have hm74 := Below.refl (ws10x9).heap.size ws10x9;refine SG_no 74 rfl rfl g74 rfl (SG_no 74 rfl rfl g74 rfl (SG_no 74 rfl rfl g74 rfl (SG_q (Rq_pick rfl (fun h => absurd (g74.symm.trans h) (by decide)) (fun _ => rfl)) rfl ?_)));exact K74 _ _ hm74 (by repeat (first | exact Sub.refl | refine Sub.shadow ?_ | refine Sub.same ?_ | refine Sub.push rfl ?_))
    intro wm74 hbm74;replace hb0 := btr hb0 hbm74;replace hy1 := hy1.below hbm74;replace hy2 := hy2.below hbm74;replace hy3 := hy3.below hbm74;replace hBs4x8 := hBs4x8.below hbm74;replace hd1 := hd1.below hbm74;replace hd2 := hd2.below hbm74;replace hd3 := hd3.below hbm74;replace hBs10x9 := hBs10x9.below hbm74
    simp only [List.drop_succ_cons, List.drop_zero]
    refine SG_q (Rq_move rfl) rfl ?_;refine SG_and (r := ?r79n7) 4 83 79 rfl ?_ ?_ ?_; rotate_left
    ·intro g79 K79
     have g79' := g79; try simp only [dd] at g79'
     have hm79 := Below.refl (wm74).heap.size wm74;refine SG_yes 79 rfl rfl g79 ?_
     first | refine SG_q (Rq_loadBW (hBs4x8) Tryz.isAgg26 Tryz.sizeOf26 rfl rfl) rfl ?_ | refine SG_q (Rq_loadBA (hBs4x8) Tryz.isAgg26 Tryz.sizeOf26 rfl rfl rfl) rfl ?_
     refine SG_yes 79 rfl rfl g79 ?_
     first | refine SG_q (Rq_loadBW (hBs10x9) Tryz.isAgg26 Tryz.sizeOf26 rfl rfl) rfl ?_ | refine SG_q (Rq_loadBA (hBs10x9) Tryz.isAgg26 Tryz.sizeOf26 rfl rfl rfl) rfl ?_
     refine SG_yes 79 rfl rfl g79 (SG_pure rfl Tryz.call14 rfl (f14_c (⟨⟨_, _, _, rfl, (hy1), (hy2), (hy3)⟩⟩ : CoS _ _ (replayR C l).1) (⟨⟨_, _, _, rfl, (hd1), (hd2), (hd3)⟩⟩ : CoS _ _ (replayR C l).1) (by omega) (by omega) (by omega) (by omega) (by omega) (by omega)) ?_);intro w82 hb82;replace hb0 := btr hb0 hb82;replace hm79 := btr hm79 hb82;refine SG_q (Rq_pick rfl (fun _ => rfl) (fun h => absurd (g79.symm.trans h) (by decide))) rfl ?_;exact K79 _ _ hm79 (by repeat (first | exact Sub.refl | refine Sub.shadow ?_ | refine Sub.same ?_ | refine Sub.push rfl ?_))
    ·intro g79 K79
     have g79' := g79; try simp only [dd] at g79'
     have hm79 := Below.refl (wm74).heap.size wm74;refine SG_no 79 rfl rfl g79 rfl (SG_no 79 rfl rfl g79 rfl (SG_no 79 rfl rfl g79 rfl (SG_q (Rq_pick rfl (fun h => absurd (g79.symm.trans h) (by decide)) (fun _ => rfl)) rfl ?_)));exact K79 _ _ hm79 (by repeat (first | exact Sub.refl | refine Sub.shadow ?_ | refine Sub.same ?_ | refine Sub.push rfl ?_))
    intro wm79 hbm79;replace hb0 := btr hb0 hbm79
    simp only [List.drop_succ_cons, List.drop_zero]
    refine SG_q (Rq_move rfl) rfl ?_;refine SG_and (r := ?r84n8) 2 86 84 rfl ?_ ?_ ?_; rotate_left
    ·intro g84 K84
     have g84' := g84; try simp only [dd] at g84'
     have hm84 := Below.refl (wm79).heap.size wm79;refine SG_yes 84 rfl rfl g84 (SG_pure rfl Tryz.call10 rfl (f10_c _) ?_);intro w85 hb85;replace hb0 := btr hb0 hb85;replace hm84 := btr hm84 hb85;refine SG_q (Rq_pick rfl (fun _ => rfl) (fun h => absurd (g84.symm.trans h) (by decide))) rfl ?_;exact K84 _ _ hm84 (by repeat (first | exact Sub.refl | refine Sub.shadow ?_ | refine Sub.same ?_ | refine Sub.push rfl ?_))
    ·intro g84 K84
     have g84' := g84; try simp only [dd] at g84'
     have hm84 := Below.refl (wm79).heap.size wm79;refine SG_no 84 rfl rfl g84 rfl (SG_q (Rq_pick rfl (fun h => absurd (g84.symm.trans h) (by decide)) (fun _ => rfl)) rfl ?_);exact K84 _ _ hm84 (by repeat (first | exact Sub.refl | refine Sub.shadow ?_ | refine Sub.same ?_ | refine Sub.push rfl ?_))
    intro wm84 hbm84;replace hb0 := btr hb0 hbm84
    simp only [List.drop_succ_cons, List.drop_zero]
    refine SG_q (Rq_assign rfl) rfl (SG_nil (D_then (W_ret (D_body1 rfl rfl rfl ?_))));exact ⟨by simp, hb0⟩
end Go.Proofs.YtphmoebiobjfhaaGreat
