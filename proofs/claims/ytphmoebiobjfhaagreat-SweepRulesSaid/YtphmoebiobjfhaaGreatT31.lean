/- Walks of functions, printed by a program of the author. -/
import Derived.Test.YtphmoebiobjfhaaGreatT30
set_option linter.all false
namespace Go.Proofs.YtphmoebiobjfhaaGreat
open Go Go.Mi Go.RowKit
set_option maxHeartbeats 4000000 in
theorem f6_c {v : Value} {C : Co} {w : World} (hC : CoS w v C) (op : Int) : Pure Tryz.prog 6 #[v, .int .i64 op] w (.bool true) := by
 obtain ⟨uC, uO, uR, rfl, hu1, hu2, hu3⟩ := hC.ex;have hlo1 := hu1.lt; have hlo2 := hu2.lt; have hlo3 := hu3.lt;have hb0 := Below.refl w.heap.size w;refine calls_of_W Tryz.func6 rfl Tryz.ntmps6 rfl ?_;refine W_seq (W_region (SG_box rfl rfl rfl ?_));intro w2 b2 e2 hb2 hz2 hB2
 have hle2 : w.heap.size ≤ b2 := by have := hb0.size; omega
 replace hb0 := btr hb0 hb2;replace hu1 := hu1.below hb2;replace hu2 := hu2.below hb2;replace hu3 := hu3.below hb2;refine SG_q (Rq_assign rfl) rfl ?_;refine SG_nil (D_then (W_seq (W_seq (W_region ?_))))
 first | refine SG_q (Rq_loadBW (hB2) Tryz.isAgg26 Tryz.sizeOf26 rfl rfl) rfl ?_ | refine SG_q (Rq_loadBA (hB2) Tryz.isAgg26 Tryz.sizeOf26 rfl rfl rfl) rfl ?_
 refine SG_pure rfl Tryz.call9 rfl (f9_c (⟨⟨_, _, _, rfl, (hu1), (hu2), (hu3)⟩⟩ : CoS _ _ C)) ?_;intro w14 hb14;replace hb0 := btr hb0 hb14;replace hu1 := hu1.below hb14;replace hu2 := hu2.below hb14;replace hu3 := hu3.below hb14;replace hB2 := hB2.below hb14;refine SG_nil (D_then ?_);refine W_cond rfl ?_ ?_
 ·intro g14
  try simp only [dd] at g14
  refine W_seq (W_region (SG_pure rfl Tryz.call10 rfl (f10_c _) ?_));intro w15 hb15;replace hb0 := btr hb0 hb15;refine SG_q (Rq_assign rfl) rfl ?_;refine SG_nil (D_then (W_ret (D_then_ret (D_body1 rfl rfl rfl ?_))));exact ⟨rfl, hb0⟩
 ·intro g14
  try simp only [dd] at g14
  have p1 : C.ch.length ≤ 100000 := by omega
  have p2 : C.ops.length ≤ 100000 := by omega
  have p3 : C.roots.length ≤ 100000 := by omega
  refine W_skip (D_then (W_seq (W_region ?_)))
  first | refine SG_q (Rq_loadBW (hB2) Tryz.isAgg26 Tryz.sizeOf26 rfl rfl) rfl ?_ | refine SG_q (Rq_loadBA (hB2) Tryz.isAgg26 Tryz.sizeOf26 rfl rfl rfl) rfl ?_
  refine SG_call rfl Tryz.call11 rfl (f11_c (⟨⟨_, _, _, rfl, (hu1), (hu2), (hu3)⟩⟩ : CoS _ _ C) p1 p2 p3) ?_;rintro v17 w17 hb17 ⟨xa1, xn1, xc1, xa2, xn2, xc2, xa3, xn3, xc3, rfl, ⟨hx1, hx2, hx3⟩, _⟩;replace hb0 := btr hb0 hb17;replace hu1 := hu1.below hb17;replace hu2 := hu2.below hb17;replace hu3 := hu3.below hb17;replace hB2 := hB2.below hb17;refine SG_alloc Tryz.zeroValue26 rfl rfl ?_;intro w5 b5 e5 hb5 hz5 hB5
  have hle5 : w.heap.size ≤ b5 := by have := hb0.size; omega
  have ne_hu1_b5 := hu1.fresh (b := b5) (by omega);have ne_hu2_b5 := hu2.fresh (b := b5) (by omega);have ne_hu3_b5 := hu3.fresh (b := b5) (by omega)
  have ne_b2_5 : ¬ b2 = b5 := by have := hB2.lt; omega
  have ne_hx1_b5 := hx1.fresh (b := b5) (by omega);have ne_hx2_b5 := hx2.fresh (b := b5) (by omega);have ne_hx3_b5 := hx3.fresh (b := b5) (by omega);replace hb0 := btr hb0 hb5;replace hu1 := hu1.below hb5;replace hu2 := hu2.below hb5;replace hu3 := hu3.below hb5;replace hB2 := hB2.below hb5;replace hx1 := hx1.below hb5;replace hx2 := hx2.below hb5;replace hx3 := hx3.below hb5;refine SG_storeW (hB5) rfl rfl rfl rfl Tryz.sizeOf26 rfl rfl ?_;intro ws3x3 hchs3x3 hBs3x3;replace hb0 := bchg hb0 hchs3x3 hle5;replace hu1 := hu1.chg hchs3x3 ne_hu1_b5;replace hu2 := hu2.chg hchs3x3 ne_hu2_b5;replace hu3 := hu3.chg hchs3x3 ne_hu3_b5;replace hB2 := hB2.chg hchs3x3 ne_b2_5;replace hx1 := hx1.chg hchs3x3 ne_hx1_b5;replace hx2 := hx2.chg hchs3x3 ne_hx2_b5;replace hx3 := hx3.chg hchs3x3 ne_hx3_b5;clear hB5;refine SG_nil (D_then (W_seq (W_region ?_)))
  first | refine SG_q (Rq_loadBW (hBs3x3) Tryz.isAgg26 Tryz.sizeOf26 rfl rfl) rfl ?_ | refine SG_q (Rq_loadBA (hBs3x3) Tryz.isAgg26 Tryz.sizeOf26 rfl rfl rfl) rfl ?_
  refine SG_call rfl Tryz.call25 rfl (f25_c (C := C) (hx1) (hx2) (hx3) p1 p2 p3) ?_;rintro v20 w20 hb20 ⟨u20, rfl, hTn, hTy⟩;replace hb0 := btr hb0 hb20;replace hu1 := hu1.below hb20;replace hu2 := hu2.below hb20;replace hu3 := hu3.below hb20;replace hB2 := hB2.below hb20;replace hx1 := hx1.below hb20;replace hx2 := hx2.below hb20;replace hx3 := hx3.below hb20;replace hBs3x3 := hBs3x3.below hb20;have hy1 : SL w20 u20 1 encB (if checkR C = 0 then truthsR C.ops else []) := SL.ite (fun hq => (hTy hq).sl) (fun hq => by rw [hTn hq]; exact SL.nil (fun _ => Nat.lt_succ_self 0));clear hTn hTy;refine SG_q (Rq_move rfl) rfl ?_;refine SG_q (Rq_extract rfl rfl) rfl ?_;refine SG_q (Rq_extract rfl rfl) rfl ?_;refine SG_q (Rq_assign rfl) rfl ?_;refine SG_q (Rq_assign rfl) rfl ?_;refine SG_nil ?_;refine D_then ?_;refine W_seq ?_;refine W_region ?_
  first | refine SG_q (Rq_loadBW (hBs3x3) Tryz.isAgg26 Tryz.sizeOf26 rfl rfl) rfl ?_ | refine SG_q (Rq_loadBA (hBs3x3) Tryz.isAgg26 Tryz.sizeOf26 rfl rfl rfl) rfl ?_
  refine SG_q (Rq_move rfl) rfl ?_;refine SG_call rfl Tryz.call26 rfl (f26_c (C := C) (hx1) (hx2) (hx3) p1 p2 p3 op) ?_;rintro v26 w26 hb26 ⟨u26, rfl, hr1⟩;replace hb0 := btr hb0 hb26;replace hu1 := hu1.below hb26;replace hu2 := hu2.below hb26;replace hu3 := hu3.below hb26;replace hB2 := hB2.below hb26;replace hx1 := hx1.below hb26;replace hx2 := hx2.below hb26;replace hx3 := hx3.below hb26;replace hBs3x3 := hBs3x3.below hb26;replace hy1 := hy1.below hb26;replace hr1 := hr1.sl;refine SG_q (Rq_move rfl) rfl ?_;refine SG_q (Rq_extract rfl rfl) rfl ?_;refine SG_q (Rq_extract rfl rfl) rfl ?_;refine SG_q (Rq_assign rfl) rfl ?_;refine SG_q (Rq_assign rfl) rfl ?_;refine SG_nil (D_then (W_seq (W_seq (W_region ?_))))
  first | refine SG_q (Rq_loadBW (hBs3x3) Tryz.isAgg26 Tryz.sizeOf26 rfl rfl) rfl ?_ | refine SG_q (Rq_loadBA (hBs3x3) Tryz.isAgg26 Tryz.sizeOf26 rfl rfl rfl) rfl ?_
  first | refine SG_q (Rq_loadBW (hB2) Tryz.isAgg26 Tryz.sizeOf26 rfl rfl) rfl ?_ | refine SG_q (Rq_loadBA (hB2) Tryz.isAgg26 Tryz.sizeOf26 rfl rfl rfl) rfl ?_
  refine SG_pure rfl Tryz.call14 rfl (f14_c (⟨⟨_, _, _, rfl, (hx1), (hx2), (hx3)⟩⟩ : CoS _ _ C) (⟨⟨_, _, _, rfl, (hu1), (hu2), (hu3)⟩⟩ : CoS _ _ C) p1 p2 p3 p1 p2 p3) ?_;intro w31 hb31;replace hb0 := btr hb0 hb31;replace hu1 := hu1.below hb31;replace hu2 := hu2.below hb31;replace hu3 := hu3.below hb31;replace hB2 := hB2.below hb31;replace hx1 := hx1.below hb31;replace hx2 := hx2.below hb31;replace hx3 := hx3.below hb31;replace hy1 := hy1.below hb31;replace hr1 := hr1.below hb31;refine SG_q (Rq_not rfl) rfl ?_;refine SG_nil (D_then ?_);refine W_cond rfl ?_ ?_
  ·intro g32; exfalso; (try simp only [dd] at g32); simp at g32
  ·intro g32
   try simp only [dd] at g32
   refine W_skip (D_then (W_seq (W_seq (W_region ?_))))
   first | refine SG_q (Rq_loadBW (hB2) Tryz.isAgg26 Tryz.sizeOf26 rfl rfl) rfl ?_ | refine SG_q (Rq_loadBA (hB2) Tryz.isAgg26 Tryz.sizeOf26 rfl rfl rfl) rfl ?_
   refine SG_pure rfl Tryz.call15 rfl (f15_c (⟨⟨_, _, _, rfl, (hu1), (hu2), (hu3)⟩⟩ : CoS _ _ C)) ?_;intro w34 hb34;replace hb0 := btr hb0 hb34;replace hu1 := hu1.below hb34;replace hu2 := hu2.below hb34;replace hu3 := hu3.below hb34;replace hB2 := hB2.below hb34;replace hx1 := hx1.below hb34;replace hx2 := hx2.below hb34;replace hx3 := hx3.below hb34;replace hy1 := hy1.below hb34;replace hr1 := hr1.below hb34;refine SG_q (Rq_assign rfl) rfl ?_;refine SG_nil (D_then (W_seq (W_region (SG_q (Rq_move rfl) rfl ?_))));refine SG_q (Rq_neq rfl rfl) rfl ?_;refine SG_nil (D_then ?_);refine W_cond rfl ?_ ?_
   ·intro g36
    try simp only [dd] at g36
    have hckn : ¬ checkR C = 0 := by simpa using g36
    have hre : rulesE C op = checkR C := by rw [rulesE, if_pos hckn]
    rw [if_neg hckn] at hy1;rw [if_neg (by rw [hre]; exact hckn)] at hr1;refine W_seq ?_;refine W_region ?_;refine SG_q (Rq_move rfl) rfl ?_;refine SG_q (Rq_move rfl) rfl ?_;refine SG_q (Rq_eql rfl rfl) rfl ?_;refine SG_q (Rq_move rfl) rfl ?_;refine SG_and (r := ?r40n1) 4 44 40 rfl ?_ ?_ ?_; rotate_left
    ·intro g40 K40
     have g40' := g40; try simp only [dd] at g40'
     have hm40 := Below.refl (w34).heap.size w34;refine SG_yes 40 rfl rfl g40 ?_;refine SG_q (Rq_move rfl) rfl ?_;refine SG_yes 40 rfl rfl g40 ?_;refine SG_q (Rq_move rfl) rfl ?_;refine SG_yes 40 rfl rfl g40 ?_;refine SG_q (Rq_eql rfl rfl) rfl ?_;refine SG_q (Rq_pick rfl (fun _ => rfl) (fun h => absurd (g40.symm.trans h) (by decide))) rfl ?_;exact K40 _ _ hm40 (by repeat (first | exact Sub.refl | refine Sub.shadow ?_ | refine Sub.same ?_ | refine Sub.push rfl ?_))
    ·intro g40 K40
     have g40' := g40; try simp only [dd] at g40'
     have hm40 := Below.refl (w34).heap.size w34;refine SG_no 40 rfl rfl g40 rfl ?_;refine SG_no 40 rfl rfl g40 rfl ?_;refine SG_no 40 rfl rfl g40 rfl ?_;refine SG_q (Rq_pick rfl (fun h => absurd (g40.symm.trans h) (by decide)) (fun _ => rfl)) rfl ?_;exact K40 _ _ hm40 (by repeat (first | exact Sub.refl | refine Sub.shadow ?_ | refine Sub.same ?_ | refine Sub.push rfl ?_))
    intro wm40 hbm40;replace hb0 := btr hb0 hbm40;replace hu1 := hu1.below hbm40;replace hu2 := hu2.below hbm40;replace hu3 := hu3.below hbm40;replace hx1 := hx1.below hbm40;replace hx2 := hx2.below hbm40;replace hx3 := hx3.below hbm40;replace hy1 := hy1.below hbm40;replace hr1 := hr1.below hbm40
    simp only [List.drop_succ_cons, List.drop_zero]
    refine SG_q (Rq_move rfl) rfl ?_;refine SG_and (r := ?r45n2) 7 52 45 rfl ?_ ?_ ?_; rotate_left
    ·intro g45 K45
     have g45' := g45; try simp only [dd] at g45'
     have hm45 := Below.refl (wm40).heap.size wm40;refine SG_yes 45 rfl rfl g45 ?_;refine SG_q (Rq_move rfl) rfl ?_;refine SG_yes 45 rfl rfl g45 ?_
     first | refine SG_q (Rq_len (hu1) Tryz.runUnderlying54 rfl) rfl ?_ | refine SG_q (Rq_len (hu2) Tryz.runUnderlying54 rfl) rfl ?_ | refine SG_q (Rq_len (hu3) Tryz.runUnderlying54 rfl) rfl ?_ | refine SG_q (Rq_len (hx1) Tryz.runUnderlying54 rfl) rfl ?_ | refine SG_q (Rq_len (hx2) Tryz.runUnderlying54 rfl) rfl ?_ | refine SG_q (Rq_len (hx3) Tryz.runUnderlying54 rfl) rfl ?_ | refine SG_q (Rq_len (hy1) Tryz.runUnderlying54 rfl) rfl ?_ | refine SG_q (Rq_len (hr1) Tryz.runUnderlying54 rfl) rfl ?_
     refine SG_yes 45 rfl rfl g45 ?_;refine SG_q (Rq_move rfl) rfl ?_;refine SG_yes 45 rfl rfl g45 ?_
     first | refine SG_q (Rq_len (hu1) Tryz.runUnderlying57 rfl) rfl ?_ | refine SG_q (Rq_len (hu2) Tryz.runUnderlying57 rfl) rfl ?_ | refine SG_q (Rq_len (hu3) Tryz.runUnderlying57 rfl) rfl ?_ | refine SG_q (Rq_len (hx1) Tryz.runUnderlying57 rfl) rfl ?_ | refine SG_q (Rq_len (hx2) Tryz.runUnderlying57 rfl) rfl ?_ | refine SG_q (Rq_len (hx3) Tryz.runUnderlying57 rfl) rfl ?_ | refine SG_q (Rq_len (hy1) Tryz.runUnderlying57 rfl) rfl ?_ | refine SG_q (Rq_len (hr1) Tryz.runUnderlying57 rfl) rfl ?_
     refine SG_yes 45 rfl rfl g45 ?_;refine SG_q (Rq_add rfl rfl (wrap_i64 (by first | omega | simp) (by first | omega | simp))) rfl ?_;refine SG_yes 45 rfl rfl g45 ?_;refine SG_q (Rq_eql rfl rfl) rfl ?_;refine SG_q (Rq_pick rfl (fun _ => rfl) (fun h => absurd (g45.symm.trans h) (by decide))) rfl ?_;exact K45 _ _ hm45 (by repeat (first | exact Sub.refl | refine Sub.shadow ?_ | refine Sub.same ?_ | refine Sub.push rfl ?_))
    ·intro g45 K45
     have g45' := g45; try simp only [dd] at g45'
     have hm45 := Below.refl (wm40).heap.size wm40;refine SG_no 45 rfl rfl g45 rfl ?_;refine SG_no 45 rfl rfl g45 rfl ?_;refine SG_no 45 rfl rfl g45 rfl ?_;refine SG_no 45 rfl rfl g45 rfl ?_;refine SG_no 45 rfl rfl g45 rfl ?_;refine SG_no 45 rfl rfl g45 rfl ?_;refine SG_q (Rq_pick rfl (fun h => absurd (g45.symm.trans h) (by decide)) (fun _ => rfl)) rfl ?_;exact K45 _ _ hm45 (by repeat (first | exact Sub.refl | refine Sub.shadow ?_ | refine Sub.same ?_ | refine Sub.push rfl ?_))
    intro wm45 hbm45;replace hb0 := btr hb0 hbm45
    simp only [List.drop_succ_cons, List.drop_zero]
    refine SG_q (Rq_move rfl) rfl ?_;refine SG_and (r := ?r53n3) 2 55 53 rfl ?_ ?_ ?_; rotate_left
    ·intro g53 K53
     have g53' := g53; try simp only [dd] at g53'
     have hm53 := Below.refl (wm45).heap.size wm45;refine SG_yes 53 rfl rfl g53 ?_;refine SG_pure rfl Tryz.call10 rfl (f10_c _) ?_;intro w54 hb54;replace hb0 := btr hb0 hb54;replace hm53 := btr hm53 hb54;refine SG_q (Rq_pick rfl (fun _ => rfl) (fun h => absurd (g53.symm.trans h) (by decide))) rfl ?_;exact K53 _ _ hm53 (by repeat (first | exact Sub.refl | refine Sub.shadow ?_ | refine Sub.same ?_ | refine Sub.push rfl ?_))
    ·intro g53 K53
     have g53' := g53; try simp only [dd] at g53'
     have hm53 := Below.refl (wm45).heap.size wm45;refine SG_no 53 rfl rfl g53 rfl ?_;refine SG_q (Rq_pick rfl (fun h => absurd (g53.symm.trans h) (by decide)) (fun _ => rfl)) rfl ?_;exact K53 _ _ hm53 (by repeat (first | exact Sub.refl | refine Sub.shadow ?_ | refine Sub.same ?_ | refine Sub.push rfl ?_))
    intro wm53 hbm53;replace hb0 := btr hb0 hbm53
    simp only [List.drop_succ_cons, List.drop_zero]
    refine SG_q (Rq_assign rfl) rfl ?_;refine SG_nil (D_then (W_ret (D_then_ret (D_body1 rfl rfl rfl ?_))));exact ⟨by simp [hre], hb0⟩
   ·intro g36
    try simp only [dd] at g36
    have hck0 : checkR C = 0 := by simpa using g36
    rw [if_pos hck0] at hy1;have htl := truthsR_length C.ops;refine W_skip (D_then (W_seq (W_region ?_)))
    first | refine SG_q (Rq_loadBW (hB2) Tryz.isAgg26 Tryz.sizeOf26 rfl rfl) rfl ?_ | refine SG_q (Rq_loadBA (hB2) Tryz.isAgg26 Tryz.sizeOf26 rfl rfl rfl) rfl ?_
    refine SG_call rfl Tryz.call27 rfl (f27_c (⟨⟨_, _, _, rfl, (hu1), (hu2), (hu3)⟩⟩ : CoS _ _ C) hck0) ?_;rintro v57 w57 hb57 hd1;replace hb0 := btr hb0 hb57;replace hu1 := hu1.below hb57;replace hu2 := hu2.below hb57;replace hu3 := hu3.below hb57;replace hB2 := hB2.below hb57;replace hx1 := hx1.below hb57;replace hx2 := hx2.below hb57;replace hx3 := hx3.below hb57;replace hy1 := hy1.below hb57;replace hr1 := hr1.below hb57;replace hd1 := hd1.sl;refine SG_q (Rq_assign rfl) rfl ?_;refine SG_nil ?_;refine D_then ?_;refine W_seq ?_;refine W_seq ?_;refine W_region ?_;refine SG_q (Rq_move rfl) rfl ?_;refine SG_q (Rq_neq rfl rfl) rfl ?_;refine SG_q (Rq_move rfl) rfl ?_;refine SG_or (r := ?r60n4) 6 66 60 rfl ?_ ?_ ?_; rotate_left
    ·intro g60 K60
     have g60' := g60; try simp only [dd] at g60'
     have hm60 := Below.refl (w57).heap.size w57;refine SG_yes 60 rfl rfl g60 ?_;refine SG_q (Rq_move rfl) rfl ?_;refine SG_yes 60 rfl rfl g60 ?_
     first | refine SG_q (Rq_len (hu1) Tryz.runUnderlying54 rfl) rfl ?_ | refine SG_q (Rq_len (hu2) Tryz.runUnderlying54 rfl) rfl ?_ | refine SG_q (Rq_len (hu3) Tryz.runUnderlying54 rfl) rfl ?_ | refine SG_q (Rq_len (hx1) Tryz.runUnderlying54 rfl) rfl ?_ | refine SG_q (Rq_len (hx2) Tryz.runUnderlying54 rfl) rfl ?_ | refine SG_q (Rq_len (hx3) Tryz.runUnderlying54 rfl) rfl ?_ | refine SG_q (Rq_len (hy1) Tryz.runUnderlying54 rfl) rfl ?_ | refine SG_q (Rq_len (hr1) Tryz.runUnderlying54 rfl) rfl ?_ | refine SG_q (Rq_len (hd1) Tryz.runUnderlying54 rfl) rfl ?_
     refine SG_yes 60 rfl rfl g60 ?_;refine SG_q (Rq_move rfl) rfl ?_;refine SG_yes 60 rfl rfl g60 ?_
     first | refine SG_q (Rq_len (hu1) Tryz.runUnderlying54 rfl) rfl ?_ | refine SG_q (Rq_len (hu2) Tryz.runUnderlying54 rfl) rfl ?_ | refine SG_q (Rq_len (hu3) Tryz.runUnderlying54 rfl) rfl ?_ | refine SG_q (Rq_len (hx1) Tryz.runUnderlying54 rfl) rfl ?_ | refine SG_q (Rq_len (hx2) Tryz.runUnderlying54 rfl) rfl ?_ | refine SG_q (Rq_len (hx3) Tryz.runUnderlying54 rfl) rfl ?_ | refine SG_q (Rq_len (hy1) Tryz.runUnderlying54 rfl) rfl ?_ | refine SG_q (Rq_len (hr1) Tryz.runUnderlying54 rfl) rfl ?_ | refine SG_q (Rq_len (hd1) Tryz.runUnderlying54 rfl) rfl ?_
     refine SG_yes 60 rfl rfl g60 ?_;refine SG_q (Rq_neq rfl rfl) rfl ?_;refine SG_q (Rq_pick rfl (fun h => absurd (g60.symm.trans h) (by decide)) (fun _ => rfl)) rfl ?_;exact K60 _ _ hm60 (by repeat (first | exact Sub.refl | refine Sub.shadow ?_ | refine Sub.same ?_ | refine Sub.push rfl ?_))
    ·intro g60 K60
     have g60' := g60; try simp only [dd] at g60'
     have hm60 := Below.refl (w57).heap.size w57;refine SG_no 60 rfl rfl g60 rfl ?_;refine SG_no 60 rfl rfl g60 rfl ?_;refine SG_no 60 rfl rfl g60 rfl ?_;refine SG_no 60 rfl rfl g60 rfl ?_;refine SG_no 60 rfl rfl g60 rfl ?_;refine SG_q (Rq_pick rfl (fun _ => rfl) (fun h => absurd (g60.symm.trans h) (by decide))) rfl ?_;exact K60 _ _ hm60 (by repeat (first | exact Sub.refl | refine Sub.shadow ?_ | refine Sub.same ?_ | refine Sub.push rfl ?_))
    intro wm60 hbm60;replace hb0 := btr hb0 hbm60;replace hu1 := hu1.below hbm60;replace hu2 := hu2.below hbm60;replace hu3 := hu3.below hbm60;replace hB2 := hB2.below hbm60;replace hy1 := hy1.below hbm60;replace hr1 := hr1.below hbm60;replace hd1 := hd1.below hbm60
    simp only [List.drop_succ_cons, List.drop_zero]
    refine SG_nil (D_then ?_);refine W_cond rfl ?_ ?_
    ·intro g66; exfalso; (try simp only [dd] at g66); simp [hck0] at g66
    ·intro g66
     try simp only [dd] at g66
     refine W_skip (D_then (W_seq (W_seq (W_region (SG_q (Rq_assign rfl) rfl ?_)))));refine SG_nil (D_then (W_block ?_));refine W_loop (α := Nat) (fun x => [(12, .int .i64 (x : Nat)), (6, u20), (11, v57), (1, .int .i64 op), (9, .int .i64 (rulesE C op)), (8, u26), (2, .pointer (some ⟨b2, 0, none⟩))]) (fun x w' => Below w.heap.size w w' ∧ x ≤ (truthsR C.ops).length ∧ Blk w' b2 [uC, uO, uR] 26 ∧ (SL w' uC 3 encC C.ch ∧ SL w' uO 5 encO C.ops ∧ SL w' uR 1 encI C.roots) ∧ SL w' u20 1 encB (truthsR C.ops) ∧ SL w' v57 1 encB (truthsR C.ops) ∧ SL w' u26 1 encU (if rulesE C op = 0 then rulesC C op else [])) (fun x => (truthsR C.ops).length - x) (0) (by repeat (first | exact Sub.nil | refine Sub.cons rfl ?_)) ⟨hb0, Nat.zero_le _, hB2, ⟨hu1, hu2, hu3⟩, hy1, hd1, hr1⟩ ?_;clear hb0;clear hu1;clear hu2;clear hu3;clear hB2;clear hx1;clear hx2;clear hx3;clear hBs3x3;clear hy1;clear hr1;clear hd1;rintro x wl0 ⟨hb0, hxi, hB2, ⟨hu1, hu2, hu3⟩, hy1, hd1, hr1⟩;refine W_seq (W_seq (W_region (SG_q (Rq_move rfl) rfl ?_)));refine SG_q (Rq_move rfl) rfl ?_
     first | refine SG_q (Rq_len (hu1) Tryz.runUnderlying54 rfl) rfl ?_ | refine SG_q (Rq_len (hu2) Tryz.runUnderlying54 rfl) rfl ?_ | refine SG_q (Rq_len (hu3) Tryz.runUnderlying54 rfl) rfl ?_ | refine SG_q (Rq_len (hy1) Tryz.runUnderlying54 rfl) rfl ?_ | refine SG_q (Rq_len (hd1) Tryz.runUnderlying54 rfl) rfl ?_ | refine SG_q (Rq_len (hr1) Tryz.runUnderlying54 rfl) rfl ?_
     refine SG_q (Rq_lss rfl rfl) rfl ?_;refine SG_nil (D_then ?_);refine W_cond rfl ?_ ?_
     ·intro g70
      try simp only [dd] at g70
      refine W_skip (D_then (W_seq (W_block (W_seq (W_quiet (Tryz.mixed) (by kernel_rfl) ?_)))));refine QS_q (Rq_move rfl) rfl ?_;refine QS_q (Rq_move rfl) rfl ?_
      first | refine QS_index (hu1) Tryz.runUnderlying54 Tryz.sizeOf4 rfl rfl ?_ ?_ rfl ?_ | refine QS_index (hu2) Tryz.runUnderlying54 Tryz.sizeOf4 rfl rfl ?_ ?_ rfl ?_ | refine QS_index (hu3) Tryz.runUnderlying54 Tryz.sizeOf4 rfl rfl ?_ ?_ rfl ?_ | refine QS_index (hy1) Tryz.runUnderlying54 Tryz.sizeOf4 rfl rfl ?_ ?_ rfl ?_ | refine QS_index (hd1) Tryz.runUnderlying54 Tryz.sizeOf4 rfl rfl ?_ ?_ rfl ?_ | refine QS_index (hr1) Tryz.runUnderlying54 Tryz.sizeOf4 rfl rfl ?_ ?_ rfl ?_
      ·omega
      ·omega
      intro x75 hx75 hc75;refine QS_q (Rq_load Tryz.isAgg4 rfl ((hc75).cell 0 rfl)) rfl ?_;refine QS_q (Rq_move rfl) rfl ?_;refine QS_q (Rq_move rfl) rfl ?_
      first | refine QS_index (hu1) Tryz.runUnderlying54 Tryz.sizeOf4 rfl rfl ?_ ?_ rfl ?_ | refine QS_index (hu2) Tryz.runUnderlying54 Tryz.sizeOf4 rfl rfl ?_ ?_ rfl ?_ | refine QS_index (hu3) Tryz.runUnderlying54 Tryz.sizeOf4 rfl rfl ?_ ?_ rfl ?_ | refine QS_index (hy1) Tryz.runUnderlying54 Tryz.sizeOf4 rfl rfl ?_ ?_ rfl ?_ | refine QS_index (hd1) Tryz.runUnderlying54 Tryz.sizeOf4 rfl rfl ?_ ?_ rfl ?_ | refine QS_index (hr1) Tryz.runUnderlying54 Tryz.sizeOf4 rfl rfl ?_ ?_ rfl ?_
      ·omega
      ·omega
      intro x79 hx79 hc79;refine QS_q (Rq_load Tryz.isAgg4 rfl ((hc79).cell 0 rfl)) rfl ?_;refine QS_q (Rq_neq_bool Tryz.runUnderlying4 rfl rfl) rfl ?_;refine QS_nil ?_;intro wr17 hbr17;replace hb0 := btr hb0 hbr17;replace hB2 := hB2.below hbr17;replace hu1 := hu1.below hbr17;replace hu2 := hu2.below hbr17;replace hu3 := hu3.below hbr17;replace hy1 := hy1.below hbr17;replace hd1 := hd1.below hbr17;replace hr1 := hr1.below hbr17;refine D_then ?_;refine W_cond rfl ?_ ?_
      ·intro g81; exfalso; (try simp only [dd] at g81); have e := Option.some.inj (hx75.symm.trans hx79); subst e; simp at g81
      ·intro g81
       try simp only [dd] at g81
       refine W_skip (D_block (D_then (W_region (SG_q (Rq_move rfl) rfl ?_))));refine SG_q (Rq_add rfl rfl (wrap_i64 (by first | omega | simp) (by first | omega | simp))) rfl ?_;refine SG_q (Rq_assign rfl) rfl ?_;refine SG_nil ?_;refine D_loop (x + 1) (by repeat (first | exact Sub.nil | refine Sub.cons rfl ?_)) ⟨hb0, by omega, hB2, ⟨hu1, hu2, hu3⟩, hy1, hd1, hr1⟩ (by omega)
     ·intro g70
      try simp only [dd] at g70
      refine W_exit ?_;refine D_then_exit ?_;refine D_loop_exit ?_;refine D_block_exit ?_;refine D_then ?_;refine W_seq ?_;refine W_seq ?_;refine W_region ?_;refine SG_q (Rq_move rfl) rfl ?_;refine SG_q (Rq_lss rfl rfl) rfl ?_;refine SG_q (Rq_move rfl) rfl ?_;refine SG_or (r := ?r84n5) 6 90 84 rfl ?_ ?_ ?_; rotate_left
      ·intro g84 K84
       have g84' := g84; try simp only [dd] at g84'
       have hm84 := Below.refl (wl0).heap.size wl0;refine SG_yes 84 rfl rfl g84 ?_;refine SG_q (Rq_move rfl) rfl ?_;refine SG_yes 84 rfl rfl g84 ?_;refine SG_q (Rq_fieldAddr fa26_1 rfl) rfl ?_;refine SG_yes 84 rfl rfl g84 ?_;refine SG_q (Rq_loadB (hB2) Tryz.isAgg23 rfl rfl) rfl ?_;refine SG_yes 84 rfl rfl g84 ?_
       first | refine SG_q (Rq_len (hu1) Tryz.runUnderlying23 rfl) rfl ?_ | refine SG_q (Rq_len (hu2) Tryz.runUnderlying23 rfl) rfl ?_ | refine SG_q (Rq_len (hu3) Tryz.runUnderlying23 rfl) rfl ?_ | refine SG_q (Rq_len (hy1) Tryz.runUnderlying23 rfl) rfl ?_ | refine SG_q (Rq_len (hd1) Tryz.runUnderlying23 rfl) rfl ?_ | refine SG_q (Rq_len (hr1) Tryz.runUnderlying23 rfl) rfl ?_
       refine SG_yes 84 rfl rfl g84 ?_;refine SG_q (Rq_geq rfl rfl) rfl ?_;refine SG_q (Rq_pick rfl (fun h => absurd (g84.symm.trans h) (by decide)) (fun _ => rfl)) rfl ?_;exact K84 _ _ hm84 (by repeat (first | exact Sub.refl | refine Sub.shadow ?_ | refine Sub.same ?_ | refine Sub.push rfl ?_))
      ·intro g84 K84
       have g84' := g84; try simp only [dd] at g84'
       have hm84 := Below.refl (wl0).heap.size wl0;refine SG_no 84 rfl rfl g84 rfl ?_;refine SG_no 84 rfl rfl g84 rfl ?_;refine SG_no 84 rfl rfl g84 rfl ?_;refine SG_no 84 rfl rfl g84 rfl ?_;refine SG_no 84 rfl rfl g84 rfl ?_;refine SG_q (Rq_pick rfl (fun _ => rfl) (fun h => absurd (g84.symm.trans h) (by decide))) rfl ?_;exact K84 _ _ hm84 (by repeat (first | exact Sub.refl | refine Sub.shadow ?_ | refine Sub.same ?_ | refine Sub.push rfl ?_))
      intro wm84 hbm84;replace hb0 := btr hb0 hbm84;replace hB2 := hB2.below hbm84;replace hu1 := hu1.below hbm84;replace hu2 := hu2.below hbm84;replace hu3 := hu3.below hbm84;replace hy1 := hy1.below hbm84;replace hd1 := hd1.below hbm84;replace hr1 := hr1.below hbm84
      simp only [List.drop_succ_cons, List.drop_zero]
      refine SG_nil (D_then ?_);refine W_cond rfl ?_ ?_
      ·intro g90
       try simp only [dd] at g90
       have hre : rulesE C op = 7 := by rw [rulesE, if_neg (by simp [hck0]), if_pos (by omega)]
       rw [if_neg (by rw [hre]; decide)] at hr1;refine W_seq ?_;refine W_region ?_;refine SG_q (Rq_move rfl) rfl ?_;refine SG_q (Rq_eql rfl rfl) rfl ?_;refine SG_q (Rq_move rfl) rfl ?_;refine SG_and (r := ?r93n6) 4 97 93 rfl ?_ ?_ ?_; rotate_left
       ·intro g93 K93
        have g93' := g93; try simp only [dd] at g93'
        have hm93 := Below.refl (wm84).heap.size wm84;refine SG_yes 93 rfl rfl g93 ?_;refine SG_q (Rq_move rfl) rfl ?_;refine SG_yes 93 rfl rfl g93 ?_
        first | refine SG_q (Rq_len (hu1) Tryz.runUnderlying57 rfl) rfl ?_ | refine SG_q (Rq_len (hu2) Tryz.runUnderlying57 rfl) rfl ?_ | refine SG_q (Rq_len (hu3) Tryz.runUnderlying57 rfl) rfl ?_ | refine SG_q (Rq_len (hy1) Tryz.runUnderlying57 rfl) rfl ?_ | refine SG_q (Rq_len (hd1) Tryz.runUnderlying57 rfl) rfl ?_ | refine SG_q (Rq_len (hr1) Tryz.runUnderlying57 rfl) rfl ?_
        refine SG_yes 93 rfl rfl g93 ?_;refine SG_q (Rq_eql rfl rfl) rfl ?_;refine SG_q (Rq_pick rfl (fun _ => rfl) (fun h => absurd (g93.symm.trans h) (by decide))) rfl ?_;exact K93 _ _ hm93 (by repeat (first | exact Sub.refl | refine Sub.shadow ?_ | refine Sub.same ?_ | refine Sub.push rfl ?_))
       ·intro g93 K93
        have g93' := g93; try simp only [dd] at g93'
        have hm93 := Below.refl (wm84).heap.size wm84;refine SG_no 93 rfl rfl g93 rfl ?_;refine SG_no 93 rfl rfl g93 rfl ?_;refine SG_no 93 rfl rfl g93 rfl ?_;refine SG_q (Rq_pick rfl (fun h => absurd (g93.symm.trans h) (by decide)) (fun _ => rfl)) rfl ?_;exact K93 _ _ hm93 (by repeat (first | exact Sub.refl | refine Sub.shadow ?_ | refine Sub.same ?_ | refine Sub.push rfl ?_))
       intro wm93 hbm93;replace hb0 := btr hb0 hbm93
       simp only [List.drop_succ_cons, List.drop_zero]
       refine SG_q (Rq_move rfl) rfl ?_;refine SG_and (r := ?r98n7) 2 100 98 rfl ?_ ?_ ?_; rotate_left
       ·intro g98 K98
        have g98' := g98; try simp only [dd] at g98'
        have hm98 := Below.refl (wm93).heap.size wm93;refine SG_yes 98 rfl rfl g98 ?_;refine SG_pure rfl Tryz.call10 rfl (f10_c _) ?_;intro w99 hb99;replace hb0 := btr hb0 hb99;replace hm98 := btr hm98 hb99;refine SG_q (Rq_pick rfl (fun _ => rfl) (fun h => absurd (g98.symm.trans h) (by decide))) rfl ?_;exact K98 _ _ hm98 (by repeat (first | exact Sub.refl | refine Sub.shadow ?_ | refine Sub.same ?_ | refine Sub.push rfl ?_))
       ·intro g98 K98
        have g98' := g98; try simp only [dd] at g98'
        have hm98 := Below.refl (wm93).heap.size wm93;refine SG_no 98 rfl rfl g98 rfl ?_;refine SG_q (Rq_pick rfl (fun h => absurd (g98.symm.trans h) (by decide)) (fun _ => rfl)) rfl ?_;exact K98 _ _ hm98 (by repeat (first | exact Sub.refl | refine Sub.shadow ?_ | refine Sub.same ?_ | refine Sub.push rfl ?_))
       intro wm98 hbm98;replace hb0 := btr hb0 hbm98
       simp only [List.drop_succ_cons, List.drop_zero]
       refine SG_q (Rq_assign rfl) rfl ?_;refine SG_nil (D_then (W_ret (D_then_ret (D_body1 rfl rfl rfl ?_))));exact ⟨by simp [hre], hb0⟩
      ·intro g90
       try simp only [dd] at g90
       have hre : rulesE C op = 0 := by rw [rulesE, if_neg (by simp [hck0]), if_neg (by omega)]
       rw [if_pos hre] at hr1;obtain ⟨o, rfl⟩ := Int.eq_ofNat_of_zero_le (show 0 ≤ op by omega)
       have ho : o < C.ops.length := by omega
       refine W_skip ?_;refine D_then ?_;refine W_seq ?_;refine W_anyT 14 [[], [0], [1], [], [3], [], [], [5, 6], [7], [4, 8], [2, 9], [10], [], [11, 12]] [det [] ?a21_0n8, det [0] (.bool true), det [1] (.bool true), det [] ?a21_3n8, det [3] ?a21_4n8, det [] ?a21_5n8, det [] ?a21_6n8, frs [5, 6] (fun v w _ _ => SL w v 1 encU (rulesC C (o : Int))), det [7] ?a21_8n8, det [4, 8] (.bool true), det [2, 9] (.bool true), det [10] (.bool true), det [] ?a21_12n8, det [11, 12] (.bool true)] Tryz.mixed (by kernel_rfl) rfl ⟨.inl rfl, .inl rfl, .inl rfl, .inr ⟨2, true, _, 103, rfl, rfl, rfl, by kernel_rfl, fun _ _ _ _ h => h⟩, .inr ⟨2, true, _, 103, rfl, rfl, rfl, by kernel_rfl, fun _ _ _ _ h => h⟩, .inr ⟨2, true, _, 103, rfl, rfl, rfl, by kernel_rfl, fun _ _ _ _ h => h⟩, .inr ⟨2, true, _, 103, rfl, rfl, rfl, by kernel_rfl, fun _ _ _ _ h => h⟩, .inr ⟨2, true, _, 103, rfl, rfl, rfl, by kernel_rfl, fun _ _ _ _ h => h⟩, .inr ⟨2, true, _, 103, rfl, rfl, rfl, by kernel_rfl, fun _ _ _ _ h => h⟩, .inr ⟨2, true, _, 103, rfl, rfl, rfl, by kernel_rfl, fun _ _ _ _ h => h⟩, .inl rfl, .inl rfl, .inr ⟨11, true, _, 112, rfl, rfl, rfl, by kernel_rfl, fun _ _ _ _ h => h⟩, .inl rfl, trivial⟩ ⟨det_stab _ _, det_stab _ _, det_stab _ _, det_stab _ _, det_stab _ _, det_stab _ _, det_stab _ _, (fun _ _ _ _ _ hb _ h => SL.below h hb), det_stab _ _, det_stab _ _, det_stab _ _, det_stab _ _, det_stab _ _, det_stab _ _, trivial⟩ ?_ ?_; rotate_left 7
       ·refine Obls_cons ?_ ?_
        ·intro wq hbq
         refine Obl_nil ?_
         refine Ex_q2 (Rq_move rfl) ?_; first | exact rfl | rfl
        refine Obls_cons ?_ ?_
        ·intro wq hbq
         refine Obl_det rfl rfl ?_;refine Obl_nil ?_;refine Ex_q2 (Rq_eql rfl rfl) ?_;exact congrArg Value.bool (decide_eq_true hre).symm
        refine Obls_cons ?_ ?_
        ·intro wq hbq
         refine Obl_det rfl rfl ?_;refine Obl_nil ?_
         refine Ex_q2 (Rq_move rfl) ?_; first | exact rfl | rfl
        refine Obls_cons ?_ ?_
        ·intro wq hbq
         refine Obl_nil ?_
         refine Ex_q2 (Rq_move rfl) ?_; first | exact rfl | rfl
        refine Obls_cons ?_ ?_
        ·intro wq hbq
         refine Obl_det rfl rfl ?_;refine Obl_nil ?_
         refine Ex_q2 (Rq_bytes Tryz.underlying57 Tryz.underlying5 Tryz.underlying9 (hr1.below hbq) rfl) ?_; first | exact rfl | rfl
        refine Obls_cons ?_ ?_
        ·intro wq hbq
         refine Obl_nil ?_
         first | (refine Ex_q2 (Rq_loadBW ((hB2).below hbq) Tryz.isAgg26 Tryz.sizeOf26 rfl rfl) ?_; first | exact rfl | rfl) | (refine Ex_q2 (Rq_loadBA ((hB2).below hbq) Tryz.isAgg26 Tryz.sizeOf26 rfl rfl rfl) ?_; first | exact rfl | rfl)
        refine Obls_cons ?_ ?_
        ·intro wq hbq
         refine Obl_nil ?_
         refine Ex_q2 (Rq_move rfl) ?_; first | exact rfl | rfl
        refine Obls_cons ?_ ?_
        ·intro wq hbq
         refine Obl_det rfl rfl ?_;refine Obl_det rfl rfl ?_;refine Obl_nil ?_;refine Ex_call rfl Tryz.call28 (Fn.mono (f28_c (⟨⟨_, _, _, rfl, hu1.below hbq, hu2.below hbq, hu3.below hbq⟩⟩ : CoS _ _ C) hck0 ho) fun v w' hb h => h.1.sl)
        refine Obls_cons ?_ ?_
        ·intro wq hbq
         refine Obl_frs rfl rfl ?_; intro v108 lo108 hi108 hle108 hR108;refine Obl_nil ?_
         refine Ex_q2 (Rq_bytes Tryz.underlying57 Tryz.underlying5 Tryz.underlying9 hR108 rfl) ?_; first | exact rfl | rfl
        refine Obls_cons ?_ ?_
        ·intro wq hbq
         refine Obl_det rfl rfl ?_;refine Obl_det rfl rfl ?_;refine Obl_nil ?_;refine Ex_q2 (Rq_eql_str rfl rfl) ?_;exact congrArg Value.bool (bytes_self _).symm
        refine Obls_cons ?_ ?_
        ·intro wq hbq
         refine Obl_det rfl rfl ?_;refine Obl_det rfl rfl ?_;refine Obl_nil ?_
         refine Ex_q2 (Rq_pick rfl (fun _ => rfl) (fun h => by cases h)) ?_; first | exact rfl | rfl
        refine Obls_cons ?_ ?_
        ·intro wq hbq
         refine Obl_det rfl rfl ?_;refine Obl_nil ?_
         refine Ex_q2 (Rq_move rfl) ?_; first | exact rfl | rfl
        refine Obls_cons ?_ ?_
        ·intro wq hbq
         refine Obl_nil ?_
         refine Ex_call rfl Tryz.call10 (fn_det2 (f10_c _) ?_); first | exact rfl | rfl
        refine Obls_cons ?_ ?_
        ·intro wq hbq
         refine Obl_det rfl rfl ?_;refine Obl_det rfl rfl ?_;refine Obl_nil ?_
         refine Ex_q2 (Rq_pick rfl (fun _ => rfl) (fun h => by cases h)) ?_; first | exact rfl | rfl
        exact Obls_nil
       ·intro wa21 hba21
        replace hb0 := btr hb0 hba21;refine Fin_det rfl ?_;refine Fin_det rfl ?_;refine Fin_det rfl ?_;refine Fin_det rfl ?_;refine Fin_det rfl ?_;refine Fin_det rfl ?_;refine Fin_det rfl ?_;refine Fin_frs rfl ?_; intro v108 lo108 hi108 hR108 hlB108 hlh108 hhw108 hdj108;refine Fin_det rfl ?_;refine Fin_det rfl ?_;refine Fin_det rfl ?_;refine Fin_det rfl ?_;refine Fin_det rfl ?_;refine Fin_det rfl ?_;refine Fin_nil ?_
        simp only [List.drop_succ_cons, List.drop_zero]
        refine SG_q (Rq_assign rfl) rfl ?_;refine SG_nil (D_then (W_ret (D_body1 rfl rfl rfl ?_)));exact ⟨rfl, hb0⟩
end Go.Proofs.YtphmoebiobjfhaaGreat
