/- Walks of functions, printed by a program of the author. -/
import Derived.Test.YtphmoebiobjfhaaGreatT24
set_option linter.all false
namespace Go.Proofs.YtphmoebiobjfhaaGreat
open Go Go.Mi Go.RowKit
set_option maxHeartbeats 4000000 in
theorem f7_c {v : Value} {C : Co} {w : World} (hC : CoS w v C) : Pure Tryz.prog 7 #[v] w (.bool true) := by
  obtain ⟨uC, uO, uR, rfl, hu1, hu2, hu3⟩ := hC.ex
  have hb0 := Below.refl w.heap.size w
  refine calls_of_W Tryz.func7 rfl Tryz.ntmps7 rfl ?_
  refine W_seq ?_
  refine W_region ?_
  refine SG_box rfl rfl rfl ?_
  intro w1 b1 e1 hb1 hz1 hB1
  have hle1 : w.heap.size ≤ b1 := by have := hb0.size; omega
  have ne_hu1_b1 := hu1.fresh (b := b1) (by omega)
  have ne_hu2_b1 := hu2.fresh (b := b1) (by omega)
  have ne_hu3_b1 := hu3.fresh (b := b1) (by omega)
  replace hb0 := btr hb0 hb1
  replace hu1 := hu1.below hb1
  replace hu2 := hu2.below hb1
  replace hu3 := hu3.below hb1
  refine SG_q (Rq_assign rfl) rfl ?_
  refine SG_nil ?_
  refine D_then ?_
  refine W_seq ?_
  refine W_seq ?_
  refine W_region ?_
  first | refine SG_q (Rq_loadBW (hB1) Tryz.isAgg26 Tryz.sizeOf26 rfl rfl) rfl ?_ | refine SG_q (Rq_loadBA (hB1) Tryz.isAgg26 Tryz.sizeOf26 rfl rfl rfl) rfl ?_
  refine SG_pure rfl Tryz.call9 rfl (f9_c (⟨⟨_, _, _, rfl, (hu1), (hu2), (hu3)⟩⟩ : CoS _ _ C)) ?_
  intro w11 hb11
  replace hb0 := btr hb0 hb11
  replace hu1 := hu1.below hb11
  replace hu2 := hu2.below hb11
  replace hu3 := hu3.below hb11
  replace hB1 := hB1.below hb11
  refine SG_nil ?_
  refine D_then ?_
  refine W_cond rfl ?_ ?_
  · intro g11
    try simp only [decide_eq_true_eq, decide_eq_false_iff_not, Bool.not_eq_true', Bool.not_eq_false', Bool.or_eq_true, Bool.and_eq_true, Bool.or_eq_false_iff, Bool.and_eq_false_imp, Int.not_lt, Int.not_le] at g11
    refine W_seq ?_
    refine W_region ?_
    refine SG_pure rfl Tryz.call10 rfl (f10_c _) ?_
    intro w12 hb12
    replace hb0 := btr hb0 hb12
    replace hu1 := hu1.below hb12
    replace hu2 := hu2.below hb12
    replace hu3 := hu3.below hb12
    replace hB1 := hB1.below hb12
    refine SG_q (Rq_assign rfl) rfl ?_
    refine SG_nil ?_
    refine D_then ?_
    refine W_ret ?_
    refine D_then_ret ?_
    refine D_body1 rfl rfl rfl ?_
    exact ⟨rfl, hb0⟩
  · intro g11
    try simp only [decide_eq_true_eq, decide_eq_false_iff_not, Bool.not_eq_true', Bool.not_eq_false', Bool.or_eq_true, Bool.and_eq_true, Bool.or_eq_false_iff, Bool.and_eq_false_imp, Int.not_lt, Int.not_le] at g11
    have p1 : C.ch.length ≤ 100000 := by omega
    have p2 : C.ops.length ≤ 100000 := by omega
    have p3 : C.roots.length ≤ 100000 := by omega
    refine W_skip ?_
    refine D_then ?_
    refine W_seq ?_
    refine W_region ?_
    first | refine SG_q (Rq_loadBW (hB1) Tryz.isAgg26 Tryz.sizeOf26 rfl rfl) rfl ?_ | refine SG_q (Rq_loadBA (hB1) Tryz.isAgg26 Tryz.sizeOf26 rfl rfl rfl) rfl ?_
    refine SG_call rfl Tryz.call11 rfl (f11_c (⟨⟨_, _, _, rfl, (hu1), (hu2), (hu3)⟩⟩ : CoS _ _ C) p1 p2 p3) ?_
    rintro v14 w14 hb14 ⟨xa1, xn1, xc1, xa2, xn2, xc2, xa3, xn3, xc3, rfl, ⟨hx1, hx2, hx3⟩, _⟩
    replace hb0 := btr hb0 hb14
    replace hu1 := hu1.below hb14
    replace hu2 := hu2.below hb14
    replace hu3 := hu3.below hb14
    replace hB1 := hB1.below hb14
    refine SG_alloc Tryz.zeroValue26 rfl rfl ?_
    intro w3 b3 e3 hb3 hz3 hB3
    have hle3 : w.heap.size ≤ b3 := by have := hb0.size; omega
    have ne_hu1_b3 := hu1.fresh (b := b3) (by omega)
    have ne_hu2_b3 := hu2.fresh (b := b3) (by omega)
    have ne_hu3_b3 := hu3.fresh (b := b3) (by omega)
    have ne_b1_3 : ¬ b1 = b3 := by have := hB1.lt; omega
    have ne_b3_1 : ¬ b3 = b1 := by omega
    have ne_hx1_b3 := hx1.fresh (b := b3) (by omega)
    have ne_hx2_b3 := hx2.fresh (b := b3) (by omega)
    have ne_hx3_b3 := hx3.fresh (b := b3) (by omega)
    replace hb0 := btr hb0 hb3
    replace hu1 := hu1.below hb3
    replace hu2 := hu2.below hb3
    replace hu3 := hu3.below hb3
    replace hB1 := hB1.below hb3
    replace hx1 := hx1.below hb3
    replace hx2 := hx2.below hb3
    replace hx3 := hx3.below hb3
    refine SG_storeW (hB3) rfl rfl rfl rfl Tryz.sizeOf26 rfl rfl ?_
    intro ws3x3 hchs3x3 hBs3x3
    replace hb0 := bchg hb0 hchs3x3 hle3
    replace hu1 := hu1.chg hchs3x3 ne_hu1_b3
    replace hu2 := hu2.chg hchs3x3 ne_hu2_b3
    replace hu3 := hu3.chg hchs3x3 ne_hu3_b3
    replace hB1 := hB1.chg hchs3x3 ne_b1_3
    replace hx1 := hx1.chg hchs3x3 ne_hx1_b3
    replace hx2 := hx2.chg hchs3x3 ne_hx2_b3
    replace hx3 := hx3.chg hchs3x3 ne_hx3_b3
    clear hB3
    refine SG_nil ?_
    refine D_then ?_
    refine W_seq ?_
    refine W_region ?_
    first | refine SG_q (Rq_loadBW (hBs3x3) Tryz.isAgg26 Tryz.sizeOf26 rfl rfl) rfl ?_ | refine SG_q (Rq_loadBA (hBs3x3) Tryz.isAgg26 Tryz.sizeOf26 rfl rfl rfl) rfl ?_
    refine SG_call rfl Tryz.call29 rfl (f29_c (C := C) (hx1) (hx2) (hx3) p1 p2 p3) ?_
    rintro v17 w17 hb17 rfl
    replace hb0 := btr hb0 hb17
    replace hu1 := hu1.below hb17
    replace hu2 := hu2.below hb17
    replace hu3 := hu3.below hb17
    replace hB1 := hB1.below hb17
    replace hx1 := hx1.below hb17
    replace hx2 := hx2.below hb17
    replace hx3 := hx3.below hb17
    replace hBs3x3 := hBs3x3.below hb17
    refine SG_q (Rq_move rfl) rfl ?_
    refine SG_q (Rq_extract rfl rfl) rfl ?_
    refine SG_q (Rq_extract rfl rfl) rfl ?_
    refine SG_q (Rq_assign rfl) rfl ?_
    refine SG_q (Rq_assign rfl) rfl ?_
    refine SG_nil ?_
    refine D_then ?_
    refine W_seq ?_
    refine W_region ?_
    first | refine SG_q (Rq_loadBW (hBs3x3) Tryz.isAgg26 Tryz.sizeOf26 rfl rfl) rfl ?_ | refine SG_q (Rq_loadBA (hBs3x3) Tryz.isAgg26 Tryz.sizeOf26 rfl rfl rfl) rfl ?_
    refine SG_call rfl Tryz.call30 rfl (f30_c (C := C) (hx1) (hx2) (hx3) p1 p2 p3) ?_
    rintro v22 w22 hb22 ⟨u22, rfl, hCV22⟩
    replace hb0 := btr hb0 hb22
    replace hu1 := hu1.below hb22
    replace hu2 := hu2.below hb22
    replace hu3 := hu3.below hb22
    replace hB1 := hB1.below hb22
    replace hx1 := hx1.below hb22
    replace hx2 := hx2.below hb22
    replace hx3 := hx3.below hb22
    replace hBs3x3 := hBs3x3.below hb22
    obtain ⟨qyC, qyO, qyR, rfl, ⟨hy1, hy2, hy3⟩, _⟩ := hCV22.ex
    obtain ⟨a_qyC, n_qyC, c_qyC, h_qyC⟩ : ∃ a n c, qyC = Value.slice a n c := by obtain ⟨a, c, h⟩ := (hy1).len; exact ⟨_, _, _, h⟩
    subst h_qyC
    obtain ⟨a_qyO, n_qyO, c_qyO, h_qyO⟩ : ∃ a n c, qyO = Value.slice a n c := by obtain ⟨a, c, h⟩ := (hy2).len; exact ⟨_, _, _, h⟩
    subst h_qyO
    obtain ⟨a_qyR, n_qyR, c_qyR, h_qyR⟩ : ∃ a n c, qyR = Value.slice a n c := by obtain ⟨a, c, h⟩ := (hy3).len; exact ⟨_, _, _, h⟩
    subst h_qyR
    refine SG_q (Rq_move rfl) rfl ?_
    refine SG_q (Rq_extract rfl rfl) rfl ?_
    refine SG_q (Rq_extract rfl rfl) rfl ?_
    refine SG_alloc Tryz.zeroValue26 rfl rfl ?_
    intro w6 b6 e6 hb6 hz6 hB6
    have hle6 : w.heap.size ≤ b6 := by have := hb0.size; omega
    have ne_hu1_b6 := hu1.fresh (b := b6) (by omega)
    have ne_hu2_b6 := hu2.fresh (b := b6) (by omega)
    have ne_hu3_b6 := hu3.fresh (b := b6) (by omega)
    have ne_b1_6 : ¬ b1 = b6 := by have := hB1.lt; omega
    have ne_b6_1 : ¬ b6 = b1 := by omega
    have ne_hx1_b6 := hx1.fresh (b := b6) (by omega)
    have ne_hx2_b6 := hx2.fresh (b := b6) (by omega)
    have ne_hx3_b6 := hx3.fresh (b := b6) (by omega)
    have ne_b3_6 : ¬ b3 = b6 := by have := hBs3x3.lt; omega
    have ne_b6_3 : ¬ b6 = b3 := by omega
    have ne_hy1_b6 := hy1.fresh (b := b6) (by omega)
    have ne_hy2_b6 := hy2.fresh (b := b6) (by omega)
    have ne_hy3_b6 := hy3.fresh (b := b6) (by omega)
    replace hb0 := btr hb0 hb6
    replace hu1 := hu1.below hb6
    replace hu2 := hu2.below hb6
    replace hu3 := hu3.below hb6
    replace hB1 := hB1.below hb6
    replace hx1 := hx1.below hb6
    replace hx2 := hx2.below hb6
    replace hx3 := hx3.below hb6
    replace hBs3x3 := hBs3x3.below hb6
    replace hy1 := hy1.below hb6
    replace hy2 := hy2.below hb6
    replace hy3 := hy3.below hb6
    refine SG_storeW (hB6) rfl rfl rfl rfl Tryz.sizeOf26 rfl rfl ?_
    intro ws5x6 hchs5x6 hBs5x6
    replace hb0 := bchg hb0 hchs5x6 hle6
    replace hu1 := hu1.chg hchs5x6 ne_hu1_b6
    replace hu2 := hu2.chg hchs5x6 ne_hu2_b6
    replace hu3 := hu3.chg hchs5x6 ne_hu3_b6
    replace hB1 := hB1.chg hchs5x6 ne_b1_6
    replace hx1 := hx1.chg hchs5x6 ne_hx1_b6
    replace hx2 := hx2.chg hchs5x6 ne_hx2_b6
    replace hx3 := hx3.chg hchs5x6 ne_hx3_b6
    replace hBs3x3 := hBs3x3.chg hchs5x6 ne_b3_6
    replace hy1 := hy1.chg hchs5x6 ne_hy1_b6
    replace hy2 := hy2.chg hchs5x6 ne_hy2_b6
    replace hy3 := hy3.chg hchs5x6 ne_hy3_b6
    clear hB6
    refine SG_q (Rq_assign rfl) rfl ?_
    refine SG_nil ?_
    refine D_then ?_
    refine W_seq ?_
    refine W_seq ?_
    refine W_region ?_
    first | refine SG_q (Rq_loadBW (hBs3x3) Tryz.isAgg26 Tryz.sizeOf26 rfl rfl) rfl ?_ | refine SG_q (Rq_loadBA (hBs3x3) Tryz.isAgg26 Tryz.sizeOf26 rfl rfl rfl) rfl ?_
    first | refine SG_q (Rq_loadBW (hB1) Tryz.isAgg26 Tryz.sizeOf26 rfl rfl) rfl ?_ | refine SG_q (Rq_loadBA (hB1) Tryz.isAgg26 Tryz.sizeOf26 rfl rfl rfl) rfl ?_
    refine SG_pure rfl Tryz.call14 rfl (f14_c (⟨⟨_, _, _, rfl, (hx1), (hx2), (hx3)⟩⟩ : CoS _ _ C) (⟨⟨_, _, _, rfl, (hu1), (hu2), (hu3)⟩⟩ : CoS _ _ C) p1 p2 p3 p1 p2 p3) ?_
    intro w27 hb27
    replace hb0 := btr hb0 hb27
    replace hu1 := hu1.below hb27
    replace hu2 := hu2.below hb27
    replace hu3 := hu3.below hb27
    replace hB1 := hB1.below hb27
    replace hx1 := hx1.below hb27
    replace hx2 := hx2.below hb27
    replace hx3 := hx3.below hb27
    replace hBs3x3 := hBs3x3.below hb27
    replace hy1 := hy1.below hb27
    replace hy2 := hy2.below hb27
    replace hy3 := hy3.below hb27
    replace hBs5x6 := hBs5x6.below hb27
    refine SG_q (Rq_not rfl) rfl ?_
    refine SG_nil ?_
    refine D_then ?_
    refine W_cond rfl ?_ ?_
    · intro g28; exfalso; (try simp only [decide_eq_true_eq, decide_eq_false_iff_not, Bool.not_eq_true', Bool.not_eq_false', Bool.or_eq_true, Bool.and_eq_true, Bool.or_eq_false_iff, Bool.and_eq_false_imp, Int.not_lt, Int.not_le] at g28); simp at g28
    · intro g28
      try simp only [decide_eq_true_eq, decide_eq_false_iff_not, Bool.not_eq_true', Bool.not_eq_false', Bool.or_eq_true, Bool.and_eq_true, Bool.or_eq_false_iff, Bool.and_eq_false_imp, Int.not_lt, Int.not_le] at g28
      refine W_skip ?_
      refine D_then ?_
      refine W_seq ?_
      refine W_seq ?_
      refine W_region ?_
      first | refine SG_q (Rq_loadBW (hB1) Tryz.isAgg26 Tryz.sizeOf26 rfl rfl) rfl ?_ | refine SG_q (Rq_loadBA (hB1) Tryz.isAgg26 Tryz.sizeOf26 rfl rfl rfl) rfl ?_
      refine SG_pure rfl Tryz.call15 rfl (f15_c (⟨⟨_, _, _, rfl, (hu1), (hu2), (hu3)⟩⟩ : CoS _ _ C)) ?_
      intro w30 hb30
      replace hb0 := btr hb0 hb30
      replace hu1 := hu1.below hb30
      replace hu2 := hu2.below hb30
      replace hu3 := hu3.below hb30
      replace hB1 := hB1.below hb30
      replace hx1 := hx1.below hb30
      replace hx2 := hx2.below hb30
      replace hx3 := hx3.below hb30
      replace hBs3x3 := hBs3x3.below hb30
      replace hy1 := hy1.below hb30
      replace hy2 := hy2.below hb30
      replace hy3 := hy3.below hb30
      replace hBs5x6 := hBs5x6.below hb30
      refine SG_q (Rq_assign rfl) rfl ?_
      refine SG_nil ?_
      refine D_then ?_
      refine W_seq ?_
      refine W_region ?_
      refine SG_q (Rq_move rfl) rfl ?_
      refine SG_q (Rq_neq rfl rfl) rfl ?_
      refine SG_nil ?_
      refine D_then ?_
      refine W_cond rfl ?_ ?_
      · intro g32
        try simp only [decide_eq_true_eq, decide_eq_false_iff_not, Bool.not_eq_true', Bool.not_eq_false', Bool.or_eq_true, Bool.and_eq_true, Bool.or_eq_false_iff, Bool.and_eq_false_imp, Int.not_lt, Int.not_le] at g32
        have hckn : ¬ checkR C = 0 := by simpa using g32
        rw [if_neg hckn] at hy1 hy2 hy3
        refine W_seq ?_
        refine W_region ?_
        refine SG_q (Rq_move rfl) rfl ?_
        refine SG_q (Rq_move rfl) rfl ?_
        refine SG_q (Rq_eql rfl rfl) rfl ?_
        refine SG_q (Rq_move rfl) rfl ?_
        refine SG_and (r := ?r36n1) 4 40 36 rfl ?_ ?_ ?_; rotate_left
        · intro g36 K36
          have g36' := g36; try simp only [decide_eq_true_eq, decide_eq_false_iff_not, Bool.not_eq_true', Bool.not_eq_false', Bool.or_eq_true, Bool.and_eq_true, Bool.or_eq_false_iff, Bool.and_eq_false_imp, Int.not_lt, Int.not_le] at g36'
          have hm36 := Below.refl (w30).heap.size w30
          refine SG_yes 36 rfl rfl g36 ?_
          refine SG_q (Rq_move rfl) rfl ?_
          refine SG_yes 36 rfl rfl g36 ?_
          refine SG_q (Rq_move rfl) rfl ?_
          refine SG_yes 36 rfl rfl g36 ?_
          refine SG_q (Rq_eql rfl rfl) rfl ?_
          refine SG_q (Rq_pick rfl (fun _ => rfl) (fun h => absurd (g36.symm.trans h) (by decide))) rfl ?_
          exact K36 _ _ hm36 (by repeat (first | exact Sub.refl | refine Sub.shadow ?_ | refine Sub.same ?_ | refine Sub.push rfl ?_))
        · intro g36 K36
          have g36' := g36; try simp only [decide_eq_true_eq, decide_eq_false_iff_not, Bool.not_eq_true', Bool.not_eq_false', Bool.or_eq_true, Bool.and_eq_true, Bool.or_eq_false_iff, Bool.and_eq_false_imp, Int.not_lt, Int.not_le] at g36'
          have hm36 := Below.refl (w30).heap.size w30
          refine SG_no 36 rfl rfl g36 rfl ?_
          refine SG_no 36 rfl rfl g36 rfl ?_
          refine SG_no 36 rfl rfl g36 rfl ?_
          refine SG_q (Rq_pick rfl (fun h => absurd (g36.symm.trans h) (by decide)) (fun _ => rfl)) rfl ?_
          exact K36 _ _ hm36 (by repeat (first | exact Sub.refl | refine Sub.shadow ?_ | refine Sub.same ?_ | refine Sub.push rfl ?_))
        intro wm36 hbm36
        replace hb0 := btr hb0 hbm36
        replace hu1 := hu1.below hbm36
        replace hu2 := hu2.below hbm36
        replace hu3 := hu3.below hbm36
        replace hB1 := hB1.below hbm36
        replace hx1 := hx1.below hbm36
        replace hx2 := hx2.below hbm36
        replace hx3 := hx3.below hbm36
        replace hBs3x3 := hBs3x3.below hbm36
        replace hy1 := hy1.below hbm36
        replace hy2 := hy2.below hbm36
        replace hy3 := hy3.below hbm36
        replace hBs5x6 := hBs5x6.below hbm36
        simp only [List.drop_succ_cons, List.drop_zero]
        refine SG_q (Rq_move rfl) rfl ?_
        refine SG_and (r := ?r41n2) 3 44 41 rfl ?_ ?_ ?_; rotate_left
        · intro g41 K41
          have g41' := g41; try simp only [decide_eq_true_eq, decide_eq_false_iff_not, Bool.not_eq_true', Bool.not_eq_false', Bool.or_eq_true, Bool.and_eq_true, Bool.or_eq_false_iff, Bool.and_eq_false_imp, Int.not_lt, Int.not_le] at g41'
          have hm41 := Below.refl (wm36).heap.size wm36
          refine SG_yes 41 rfl rfl g41 ?_
          refine SG_q (Rq_move rfl) rfl ?_
          refine SG_yes 41 rfl rfl g41 ?_
          refine SG_q (Rq_eql rfl rfl) rfl ?_
          refine SG_q (Rq_pick rfl (fun _ => rfl) (fun h => absurd (g41.symm.trans h) (by decide))) rfl ?_
          exact K41 _ _ hm41 (by repeat (first | exact Sub.refl | refine Sub.shadow ?_ | refine Sub.same ?_ | refine Sub.push rfl ?_))
        · intro g41 K41
          have g41' := g41; try simp only [decide_eq_true_eq, decide_eq_false_iff_not, Bool.not_eq_true', Bool.not_eq_false', Bool.or_eq_true, Bool.and_eq_true, Bool.or_eq_false_iff, Bool.and_eq_false_imp, Int.not_lt, Int.not_le] at g41'
          have hm41 := Below.refl (wm36).heap.size wm36
          refine SG_no 41 rfl rfl g41 rfl ?_
          refine SG_no 41 rfl rfl g41 rfl ?_
          refine SG_q (Rq_pick rfl (fun h => absurd (g41.symm.trans h) (by decide)) (fun _ => rfl)) rfl ?_
          exact K41 _ _ hm41 (by repeat (first | exact Sub.refl | refine Sub.shadow ?_ | refine Sub.same ?_ | refine Sub.push rfl ?_))
        intro wm41 hbm41
        replace hb0 := btr hb0 hbm41
        replace hu1 := hu1.below hbm41
        replace hu2 := hu2.below hbm41
        replace hu3 := hu3.below hbm41
        replace hB1 := hB1.below hbm41
        replace hx1 := hx1.below hbm41
        replace hx2 := hx2.below hbm41
        replace hx3 := hx3.below hbm41
        replace hBs3x3 := hBs3x3.below hbm41
        replace hy1 := hy1.below hbm41
        replace hy2 := hy2.below hbm41
        replace hy3 := hy3.below hbm41
        replace hBs5x6 := hBs5x6.below hbm41
        simp only [List.drop_succ_cons, List.drop_zero]
        refine SG_q (Rq_move rfl) rfl ?_
        refine SG_and (r := ?r45n3) 4 49 45 rfl ?_ ?_ ?_; rotate_left
        · intro g45 K45
          have g45' := g45; try simp only [decide_eq_true_eq, decide_eq_false_iff_not, Bool.not_eq_true', Bool.not_eq_false', Bool.or_eq_true, Bool.and_eq_true, Bool.or_eq_false_iff, Bool.and_eq_false_imp, Int.not_lt, Int.not_le] at g45'
          have hm45 := Below.refl (wm41).heap.size wm41
          refine SG_yes 45 rfl rfl g45 ?_
          first | refine SG_q (Rq_loadBW (hBs5x6) Tryz.isAgg26 Tryz.sizeOf26 rfl rfl) rfl ?_ | refine SG_q (Rq_loadBA (hBs5x6) Tryz.isAgg26 Tryz.sizeOf26 rfl rfl rfl) rfl ?_
          refine SG_yes 45 rfl rfl g45 ?_
          refine SG_q (Rq_build0 build26_) rfl ?_
          refine SG_yes 45 rfl rfl g45 ?_
          refine SG_pure rfl Tryz.call14 rfl (f14_c (⟨⟨_, _, _, rfl, (hy1), (hy2), (hy3)⟩⟩ : CoS _ _ noCo) ((CoV.no 0 0 _).s : CoS _ _ noCo) (by decide) (by decide) (by decide) (by decide) (by decide) (by decide)) ?_
          intro w48 hb48
          replace hb0 := btr hb0 hb48
          replace hm45 := btr hm45 hb48
          replace hu1 := hu1.below hb48
          replace hu2 := hu2.below hb48
          replace hu3 := hu3.below hb48
          replace hB1 := hB1.below hb48
          replace hx1 := hx1.below hb48
          replace hx2 := hx2.below hb48
          replace hx3 := hx3.below hb48
          replace hBs3x3 := hBs3x3.below hb48
          replace hy1 := hy1.below hb48
          replace hy2 := hy2.below hb48
          replace hy3 := hy3.below hb48
          replace hBs5x6 := hBs5x6.below hb48
          refine SG_q (Rq_pick rfl (fun _ => rfl) (fun h => absurd (g45.symm.trans h) (by decide))) rfl ?_
          exact K45 _ _ hm45 (by repeat (first | exact Sub.refl | refine Sub.shadow ?_ | refine Sub.same ?_ | refine Sub.push rfl ?_))
        · intro g45 K45
          have g45' := g45; try simp only [decide_eq_true_eq, decide_eq_false_iff_not, Bool.not_eq_true', Bool.not_eq_false', Bool.or_eq_true, Bool.and_eq_true, Bool.or_eq_false_iff, Bool.and_eq_false_imp, Int.not_lt, Int.not_le] at g45'
          have hm45 := Below.refl (wm41).heap.size wm41
          refine SG_no 45 rfl rfl g45 rfl ?_
          refine SG_no 45 rfl rfl g45 rfl ?_
          refine SG_no 45 rfl rfl g45 rfl ?_
          refine SG_q (Rq_pick rfl (fun h => absurd (g45.symm.trans h) (by decide)) (fun _ => rfl)) rfl ?_
          exact K45 _ _ hm45 (by repeat (first | exact Sub.refl | refine Sub.shadow ?_ | refine Sub.same ?_ | refine Sub.push rfl ?_))
        intro wm45 hbm45
        replace hb0 := btr hb0 hbm45
        replace hu1 := hu1.below hbm45
        replace hu2 := hu2.below hbm45
        replace hu3 := hu3.below hbm45
        replace hB1 := hB1.below hbm45
        replace hx1 := hx1.below hbm45
        replace hx2 := hx2.below hbm45
        replace hx3 := hx3.below hbm45
        replace hBs3x3 := hBs3x3.below hbm45
        replace hy1 := hy1.below hbm45
        replace hy2 := hy2.below hbm45
        replace hy3 := hy3.below hbm45
        replace hBs5x6 := hBs5x6.below hbm45
        simp only [List.drop_succ_cons, List.drop_zero]
        refine SG_q (Rq_move rfl) rfl ?_
        refine SG_and (r := ?r50n4) 2 52 50 rfl ?_ ?_ ?_; rotate_left
        · intro g50 K50
          have g50' := g50; try simp only [decide_eq_true_eq, decide_eq_false_iff_not, Bool.not_eq_true', Bool.not_eq_false', Bool.or_eq_true, Bool.and_eq_true, Bool.or_eq_false_iff, Bool.and_eq_false_imp, Int.not_lt, Int.not_le] at g50'
          have hm50 := Below.refl (wm45).heap.size wm45
          refine SG_yes 50 rfl rfl g50 ?_
          refine SG_pure rfl Tryz.call10 rfl (f10_c _) ?_
          intro w51 hb51
          replace hb0 := btr hb0 hb51
          replace hm50 := btr hm50 hb51
          replace hu1 := hu1.below hb51
          replace hu2 := hu2.below hb51
          replace hu3 := hu3.below hb51
          replace hB1 := hB1.below hb51
          replace hx1 := hx1.below hb51
          replace hx2 := hx2.below hb51
          replace hx3 := hx3.below hb51
          replace hBs3x3 := hBs3x3.below hb51
          replace hy1 := hy1.below hb51
          replace hy2 := hy2.below hb51
          replace hy3 := hy3.below hb51
          replace hBs5x6 := hBs5x6.below hb51
          refine SG_q (Rq_pick rfl (fun _ => rfl) (fun h => absurd (g50.symm.trans h) (by decide))) rfl ?_
          exact K50 _ _ hm50 (by repeat (first | exact Sub.refl | refine Sub.shadow ?_ | refine Sub.same ?_ | refine Sub.push rfl ?_))
        · intro g50 K50
          have g50' := g50; try simp only [decide_eq_true_eq, decide_eq_false_iff_not, Bool.not_eq_true', Bool.not_eq_false', Bool.or_eq_true, Bool.and_eq_true, Bool.or_eq_false_iff, Bool.and_eq_false_imp, Int.not_lt, Int.not_le] at g50'
          have hm50 := Below.refl (wm45).heap.size wm45
          refine SG_no 50 rfl rfl g50 rfl ?_
          refine SG_q (Rq_pick rfl (fun h => absurd (g50.symm.trans h) (by decide)) (fun _ => rfl)) rfl ?_
          exact K50 _ _ hm50 (by repeat (first | exact Sub.refl | refine Sub.shadow ?_ | refine Sub.same ?_ | refine Sub.push rfl ?_))
        intro wm50 hbm50
        replace hb0 := btr hb0 hbm50
        replace hu1 := hu1.below hbm50
        replace hu2 := hu2.below hbm50
        replace hu3 := hu3.below hbm50
        replace hB1 := hB1.below hbm50
        replace hx1 := hx1.below hbm50
        replace hx2 := hx2.below hbm50
        replace hx3 := hx3.below hbm50
        replace hBs3x3 := hBs3x3.below hbm50
        replace hy1 := hy1.below hbm50
        replace hy2 := hy2.below hbm50
        replace hy3 := hy3.below hbm50
        replace hBs5x6 := hBs5x6.below hbm50
        simp only [List.drop_succ_cons, List.drop_zero]
        refine SG_q (Rq_assign rfl) rfl ?_
        refine SG_nil ?_
        refine D_then ?_
        refine W_ret ?_
        refine D_then_ret ?_
        refine D_body1 rfl rfl rfl ?_
        exact ⟨by simp [hckn], hb0⟩
      · intro g32
        try simp only [decide_eq_true_eq, decide_eq_false_iff_not, Bool.not_eq_true', Bool.not_eq_false', Bool.or_eq_true, Bool.and_eq_true, Bool.or_eq_false_iff, Bool.and_eq_false_imp, Int.not_lt, Int.not_le] at g32
        have hck0 : checkR C = 0 := by simpa using g32
        rw [if_pos hck0] at hy1 hy2 hy3
        have hto : (tidyR C).ops.length ≤ 3000 := by show (tidyO C.ops (foundR C)).length ≤ 3000; rw [tidyO_len]; have := nodup_le (found_nodup hck0).1 (found_nodup hck0).2; have := (check_ok hck0).1; omega
        have htr : (tidyR C).roots.length ≤ 3000 := by show (C.roots.map _).length ≤ 3000; rw [List.length_map]; exact (check_ok hck0).1.2.2
        refine W_skip ?_
        refine D_then ?_
        refine W_seq ?_
        refine W_region ?_
        first | refine SG_q (Rq_loadBW (hB1) Tryz.isAgg26 Tryz.sizeOf26 rfl rfl) rfl ?_ | refine SG_q (Rq_loadBA (hB1) Tryz.isAgg26 Tryz.sizeOf26 rfl rfl rfl) rfl ?_
        refine SG_call rfl Tryz.call18 rfl (f18_c (⟨⟨_, _, _, rfl, (hu1), (hu2), (hu3)⟩⟩ : CoS _ _ C) hck0) ?_
        rintro v54 w54 hb54 ⟨da1, dn1, dc1, da2, dn2, dc2, da3, dn3, dc3, rfl, ⟨hd1, hd2, hd3⟩, _⟩
        replace hb0 := btr hb0 hb54
        replace hu1 := hu1.below hb54
        replace hu2 := hu2.below hb54
        replace hu3 := hu3.below hb54
        replace hB1 := hB1.below hb54
        replace hx1 := hx1.below hb54
        replace hx2 := hx2.below hb54
        replace hx3 := hx3.below hb54
        replace hBs3x3 := hBs3x3.below hb54
        replace hy1 := hy1.below hb54
        replace hy2 := hy2.below hb54
        replace hy3 := hy3.below hb54
        replace hBs5x6 := hBs5x6.below hb54
        refine SG_alloc Tryz.zeroValue26 rfl rfl ?_
        intro w9 b9 e9 hb9 hz9 hB9
        have hle9 : w.heap.size ≤ b9 := by have := hb0.size; omega
        have ne_hu1_b9 := hu1.fresh (b := b9) (by omega)
        have ne_hu2_b9 := hu2.fresh (b := b9) (by omega)
        have ne_hu3_b9 := hu3.fresh (b := b9) (by omega)
        have ne_b1_9 : ¬ b1 = b9 := by have := hB1.lt; omega
        have ne_b9_1 : ¬ b9 = b1 := by omega
        have ne_hx1_b9 := hx1.fresh (b := b9) (by omega)
        have ne_hx2_b9 := hx2.fresh (b := b9) (by omega)
        have ne_hx3_b9 := hx3.fresh (b := b9) (by omega)
        have ne_b3_9 : ¬ b3 = b9 := by have := hBs3x3.lt; omega
        have ne_b9_3 : ¬ b9 = b3 := by omega
        have ne_hy1_b9 := hy1.fresh (b := b9) (by omega)
        have ne_hy2_b9 := hy2.fresh (b := b9) (by omega)
        have ne_hy3_b9 := hy3.fresh (b := b9) (by omega)
        have ne_b6_9 : ¬ b6 = b9 := by have := hBs5x6.lt; omega
        have ne_b9_6 : ¬ b9 = b6 := by omega
        have ne_hd1_b9 := hd1.fresh (b := b9) (by omega)
        have ne_hd2_b9 := hd2.fresh (b := b9) (by omega)
        have ne_hd3_b9 := hd3.fresh (b := b9) (by omega)
        replace hb0 := btr hb0 hb9
        replace hu1 := hu1.below hb9
        replace hu2 := hu2.below hb9
        replace hu3 := hu3.below hb9
        replace hB1 := hB1.below hb9
        replace hx1 := hx1.below hb9
        replace hx2 := hx2.below hb9
        replace hx3 := hx3.below hb9
        replace hBs3x3 := hBs3x3.below hb9
        replace hy1 := hy1.below hb9
        replace hy2 := hy2.below hb9
        replace hy3 := hy3.below hb9
        replace hBs5x6 := hBs5x6.below hb9
        replace hd1 := hd1.below hb9
        replace hd2 := hd2.below hb9
        replace hd3 := hd3.below hb9
        refine SG_storeW (hB9) rfl rfl rfl rfl Tryz.sizeOf26 rfl rfl ?_
        intro ws11x3 hchs11x3 hBs11x3
        replace hb0 := bchg hb0 hchs11x3 hle9
        replace hu1 := hu1.chg hchs11x3 ne_hu1_b9
        replace hu2 := hu2.chg hchs11x3 ne_hu2_b9
        replace hu3 := hu3.chg hchs11x3 ne_hu3_b9
        replace hB1 := hB1.chg hchs11x3 ne_b1_9
        replace hx1 := hx1.chg hchs11x3 ne_hx1_b9
        replace hx2 := hx2.chg hchs11x3 ne_hx2_b9
        replace hx3 := hx3.chg hchs11x3 ne_hx3_b9
        replace hBs3x3 := hBs3x3.chg hchs11x3 ne_b3_9
        replace hy1 := hy1.chg hchs11x3 ne_hy1_b9
        replace hy2 := hy2.chg hchs11x3 ne_hy2_b9
        replace hy3 := hy3.chg hchs11x3 ne_hy3_b9
        replace hBs5x6 := hBs5x6.chg hchs11x3 ne_b6_9
        replace hd1 := hd1.chg hchs11x3 ne_hd1_b9
        replace hd2 := hd2.chg hchs11x3 ne_hd2_b9
        replace hd3 := hd3.chg hchs11x3 ne_hd3_b9
        clear hB9
        refine SG_nil ?_
        refine D_then ?_
        refine W_seq ?_
        refine W_region ?_
        refine SG_q (Rq_move rfl) rfl ?_
        refine SG_q (Rq_eql rfl rfl) rfl ?_
        refine SG_q (Rq_move rfl) rfl ?_
        refine SG_and (r := ?r57n5) 3 60 57 rfl ?_ ?_ ?_; rotate_left
        · intro g57 K57
          have g57' := g57; try simp only [decide_eq_true_eq, decide_eq_false_iff_not, Bool.not_eq_true', Bool.not_eq_false', Bool.or_eq_true, Bool.and_eq_true, Bool.or_eq_false_iff, Bool.and_eq_false_imp, Int.not_lt, Int.not_le] at g57'
          have hm57 := Below.refl (ws11x3).heap.size ws11x3
          refine SG_yes 57 rfl rfl g57 ?_
          refine SG_q (Rq_move rfl) rfl ?_
          refine SG_yes 57 rfl rfl g57 ?_
          refine SG_q (Rq_eql rfl rfl) rfl ?_
          refine SG_q (Rq_pick rfl (fun _ => rfl) (fun h => absurd (g57.symm.trans h) (by decide))) rfl ?_
          exact K57 _ _ hm57 (by repeat (first | exact Sub.refl | refine Sub.shadow ?_ | refine Sub.same ?_ | refine Sub.push rfl ?_))
        · intro g57 K57
          have g57' := g57; try simp only [decide_eq_true_eq, decide_eq_false_iff_not, Bool.not_eq_true', Bool.not_eq_false', Bool.or_eq_true, Bool.and_eq_true, Bool.or_eq_false_iff, Bool.and_eq_false_imp, Int.not_lt, Int.not_le] at g57'
          have hm57 := Below.refl (ws11x3).heap.size ws11x3
          refine SG_no 57 rfl rfl g57 rfl ?_
          refine SG_no 57 rfl rfl g57 rfl ?_
          refine SG_q (Rq_pick rfl (fun h => absurd (g57.symm.trans h) (by decide)) (fun _ => rfl)) rfl ?_
          exact K57 _ _ hm57 (by repeat (first | exact Sub.refl | refine Sub.shadow ?_ | refine Sub.same ?_ | refine Sub.push rfl ?_))
        intro wm57 hbm57
        replace hb0 := btr hb0 hbm57
        replace hu1 := hu1.below hbm57
        replace hu2 := hu2.below hbm57
        replace hu3 := hu3.below hbm57
        replace hB1 := hB1.below hbm57
        replace hx1 := hx1.below hbm57
        replace hx2 := hx2.below hbm57
        replace hx3 := hx3.below hbm57
        replace hBs3x3 := hBs3x3.below hbm57
        replace hy1 := hy1.below hbm57
        replace hy2 := hy2.below hbm57
        replace hy3 := hy3.below hbm57
        replace hBs5x6 := hBs5x6.below hbm57
        replace hd1 := hd1.below hbm57
        replace hd2 := hd2.below hbm57
        replace hd3 := hd3.below hbm57
        replace hBs11x3 := hBs11x3.below hbm57
        simp only [List.drop_succ_cons, List.drop_zero]
        refine SG_q (Rq_move rfl) rfl ?_
        refine SG_and (r := ?r61n6) 6 67 61 rfl ?_ ?_ ?_; rotate_left
        · intro g61 K61
          have g61' := g61; try simp only [decide_eq_true_eq, decide_eq_false_iff_not, Bool.not_eq_true', Bool.not_eq_false', Bool.or_eq_true, Bool.and_eq_true, Bool.or_eq_false_iff, Bool.and_eq_false_imp, Int.not_lt, Int.not_le] at g61'
          have hm61 := Below.refl (wm57).heap.size wm57
          refine SG_yes 61 rfl rfl g61 ?_
          refine SG_q (Rq_move rfl) rfl ?_
          refine SG_yes 61 rfl rfl g61 ?_
          refine SG_q (Rq_fieldAddr fa26_1 rfl) rfl ?_
          refine SG_yes 61 rfl rfl g61 ?_
          refine SG_q (Rq_loadB (hBs11x3) Tryz.isAgg23 rfl rfl) rfl ?_
          refine SG_yes 61 rfl rfl g61 ?_
          first | refine SG_q (Rq_len (hu1) Tryz.runUnderlying23 rfl) rfl ?_ | refine SG_q (Rq_len (hu2) Tryz.runUnderlying23 rfl) rfl ?_ | refine SG_q (Rq_len (hu3) Tryz.runUnderlying23 rfl) rfl ?_ | refine SG_q (Rq_len (hx1) Tryz.runUnderlying23 rfl) rfl ?_ | refine SG_q (Rq_len (hx2) Tryz.runUnderlying23 rfl) rfl ?_ | refine SG_q (Rq_len (hx3) Tryz.runUnderlying23 rfl) rfl ?_ | refine SG_q (Rq_len (hy1) Tryz.runUnderlying23 rfl) rfl ?_ | refine SG_q (Rq_len (hy2) Tryz.runUnderlying23 rfl) rfl ?_ | refine SG_q (Rq_len (hy3) Tryz.runUnderlying23 rfl) rfl ?_ | refine SG_q (Rq_len (hd1) Tryz.runUnderlying23 rfl) rfl ?_ | refine SG_q (Rq_len (hd2) Tryz.runUnderlying23 rfl) rfl ?_ | refine SG_q (Rq_len (hd3) Tryz.runUnderlying23 rfl) rfl ?_
          refine SG_yes 61 rfl rfl g61 ?_
          refine SG_q (Rq_eql rfl rfl) rfl ?_
          refine SG_q (Rq_pick rfl (fun _ => rfl) (fun h => absurd (g61.symm.trans h) (by decide))) rfl ?_
          exact K61 _ _ hm61 (by repeat (first | exact Sub.refl | refine Sub.shadow ?_ | refine Sub.same ?_ | refine Sub.push rfl ?_))
        · intro g61 K61
          have g61' := g61; try simp only [decide_eq_true_eq, decide_eq_false_iff_not, Bool.not_eq_true', Bool.not_eq_false', Bool.or_eq_true, Bool.and_eq_true, Bool.or_eq_false_iff, Bool.and_eq_false_imp, Int.not_lt, Int.not_le] at g61'
          have hm61 := Below.refl (wm57).heap.size wm57
          refine SG_no 61 rfl rfl g61 rfl ?_
          refine SG_no 61 rfl rfl g61 rfl ?_
          refine SG_no 61 rfl rfl g61 rfl ?_
          refine SG_no 61 rfl rfl g61 rfl ?_
          refine SG_no 61 rfl rfl g61 rfl ?_
          refine SG_q (Rq_pick rfl (fun h => absurd (g61.symm.trans h) (by decide)) (fun _ => rfl)) rfl ?_
          exact K61 _ _ hm61 (by repeat (first | exact Sub.refl | refine Sub.shadow ?_ | refine Sub.same ?_ | refine Sub.push rfl ?_))
        intro wm61 hbm61
        replace hb0 := btr hb0 hbm61
        replace hu1 := hu1.below hbm61
        replace hu2 := hu2.below hbm61
        replace hu3 := hu3.below hbm61
        replace hB1 := hB1.below hbm61
        replace hx1 := hx1.below hbm61
        replace hx2 := hx2.below hbm61
        replace hx3 := hx3.below hbm61
        replace hBs3x3 := hBs3x3.below hbm61
        replace hy1 := hy1.below hbm61
        replace hy2 := hy2.below hbm61
        replace hy3 := hy3.below hbm61
        replace hBs5x6 := hBs5x6.below hbm61
        replace hd1 := hd1.below hbm61
        replace hd2 := hd2.below hbm61
        replace hd3 := hd3.below hbm61
        replace hBs11x3 := hBs11x3.below hbm61
        simp only [List.drop_succ_cons, List.drop_zero]
        refine SG_q (Rq_move rfl) rfl ?_
        refine SG_and (r := ?r68n7) 4 72 68 rfl ?_ ?_ ?_; rotate_left
        · intro g68 K68
          have g68' := g68; try simp only [decide_eq_true_eq, decide_eq_false_iff_not, Bool.not_eq_true', Bool.not_eq_false', Bool.or_eq_true, Bool.and_eq_true, Bool.or_eq_false_iff, Bool.and_eq_false_imp, Int.not_lt, Int.not_le] at g68'
          have hm68 := Below.refl (wm61).heap.size wm61
          refine SG_yes 68 rfl rfl g68 ?_
          first | refine SG_q (Rq_loadBW (hBs5x6) Tryz.isAgg26 Tryz.sizeOf26 rfl rfl) rfl ?_ | refine SG_q (Rq_loadBA (hBs5x6) Tryz.isAgg26 Tryz.sizeOf26 rfl rfl rfl) rfl ?_
          refine SG_yes 68 rfl rfl g68 ?_
          first | refine SG_q (Rq_loadBW (hBs11x3) Tryz.isAgg26 Tryz.sizeOf26 rfl rfl) rfl ?_ | refine SG_q (Rq_loadBA (hBs11x3) Tryz.isAgg26 Tryz.sizeOf26 rfl rfl rfl) rfl ?_
          refine SG_yes 68 rfl rfl g68 ?_
          refine SG_pure rfl Tryz.call14 rfl (f14_c (⟨⟨_, _, _, rfl, (hy1), (hy2), (hy3)⟩⟩ : CoS _ _ (tidyR C)) (⟨⟨_, _, _, rfl, (hd1), (hd2), (hd3)⟩⟩ : CoS _ _ (tidyR C)) (by exact p1) (by omega) (by omega) (by exact p1) (by omega) (by omega)) ?_
          intro w71 hb71
          replace hb0 := btr hb0 hb71
          replace hm68 := btr hm68 hb71
          replace hu1 := hu1.below hb71
          replace hu2 := hu2.below hb71
          replace hu3 := hu3.below hb71
          replace hB1 := hB1.below hb71
          replace hx1 := hx1.below hb71
          replace hx2 := hx2.below hb71
          replace hx3 := hx3.below hb71
          replace hBs3x3 := hBs3x3.below hb71
          replace hy1 := hy1.below hb71
          replace hy2 := hy2.below hb71
          replace hy3 := hy3.below hb71
          replace hBs5x6 := hBs5x6.below hb71
          replace hd1 := hd1.below hb71
          replace hd2 := hd2.below hb71
          replace hd3 := hd3.below hb71
          replace hBs11x3 := hBs11x3.below hb71
          refine SG_q (Rq_pick rfl (fun _ => rfl) (fun h => absurd (g68.symm.trans h) (by decide))) rfl ?_
          exact K68 _ _ hm68 (by repeat (first | exact Sub.refl | refine Sub.shadow ?_ | refine Sub.same ?_ | refine Sub.push rfl ?_))
        · intro g68 K68
          have g68' := g68; try simp only [decide_eq_true_eq, decide_eq_false_iff_not, Bool.not_eq_true', Bool.not_eq_false', Bool.or_eq_true, Bool.and_eq_true, Bool.or_eq_false_iff, Bool.and_eq_false_imp, Int.not_lt, Int.not_le] at g68'
          have hm68 := Below.refl (wm61).heap.size wm61
          refine SG_no 68 rfl rfl g68 rfl ?_
          refine SG_no 68 rfl rfl g68 rfl ?_
          refine SG_no 68 rfl rfl g68 rfl ?_
          refine SG_q (Rq_pick rfl (fun h => absurd (g68.symm.trans h) (by decide)) (fun _ => rfl)) rfl ?_
          exact K68 _ _ hm68 (by repeat (first | exact Sub.refl | refine Sub.shadow ?_ | refine Sub.same ?_ | refine Sub.push rfl ?_))
        intro wm68 hbm68
        replace hb0 := btr hb0 hbm68
        replace hu1 := hu1.below hbm68
        replace hu2 := hu2.below hbm68
        replace hu3 := hu3.below hbm68
        replace hB1 := hB1.below hbm68
        replace hx1 := hx1.below hbm68
        replace hx2 := hx2.below hbm68
        replace hx3 := hx3.below hbm68
        replace hBs3x3 := hBs3x3.below hbm68
        replace hy1 := hy1.below hbm68
        replace hy2 := hy2.below hbm68
        replace hy3 := hy3.below hbm68
        replace hBs5x6 := hBs5x6.below hbm68
        replace hd1 := hd1.below hbm68
        replace hd2 := hd2.below hbm68
        replace hd3 := hd3.below hbm68
        replace hBs11x3 := hBs11x3.below hbm68
        simp only [List.drop_succ_cons, List.drop_zero]
        refine SG_q (Rq_move rfl) rfl ?_
        refine SG_and (r := ?r73n8) 6 79 73 rfl ?_ ?_ ?_; rotate_left
        · intro g73 K73
          have g73' := g73; try simp only [decide_eq_true_eq, decide_eq_false_iff_not, Bool.not_eq_true', Bool.not_eq_false', Bool.or_eq_true, Bool.and_eq_true, Bool.or_eq_false_iff, Bool.and_eq_false_imp, Int.not_lt, Int.not_le] at g73'
          have hm73 := Below.refl (wm68).heap.size wm68
          refine SG_yes 73 rfl rfl g73 ?_
          refine SG_q (Rq_fieldAddr fa26_2 rfl) rfl ?_
          refine SG_yes 73 rfl rfl g73 ?_
          refine SG_q (Rq_loadB (hBs5x6) Tryz.isAgg24 rfl rfl) rfl ?_
          refine SG_yes 73 rfl rfl g73 ?_
          refine SG_q (Rq_fieldAddr fa26_2 rfl) rfl ?_
          refine SG_yes 73 rfl rfl g73 ?_
          refine SG_q (Rq_loadB (hBs11x3) Tryz.isAgg24 rfl rfl) rfl ?_
          refine SG_yes 73 rfl rfl g73 ?_
          refine SG_pure rfl Tryz.call31 rfl (f31_c (hy3) (hd3) (by omega) (by omega)) ?_
          intro w78 hb78
          replace hb0 := btr hb0 hb78
          replace hm73 := btr hm73 hb78
          replace hu1 := hu1.below hb78
          replace hu2 := hu2.below hb78
          replace hu3 := hu3.below hb78
          replace hB1 := hB1.below hb78
          replace hx1 := hx1.below hb78
          replace hx2 := hx2.below hb78
          replace hx3 := hx3.below hb78
          replace hBs3x3 := hBs3x3.below hb78
          replace hy1 := hy1.below hb78
          replace hy2 := hy2.below hb78
          replace hy3 := hy3.below hb78
          replace hBs5x6 := hBs5x6.below hb78
          replace hd1 := hd1.below hb78
          replace hd2 := hd2.below hb78
          replace hd3 := hd3.below hb78
          replace hBs11x3 := hBs11x3.below hb78
          refine SG_q (Rq_pick rfl (fun _ => rfl) (fun h => absurd (g73.symm.trans h) (by decide))) rfl ?_
          exact K73 _ _ hm73 (by repeat (first | exact Sub.refl | refine Sub.shadow ?_ | refine Sub.same ?_ | refine Sub.push rfl ?_))
        · intro g73 K73
          have g73' := g73; try simp only [decide_eq_true_eq, decide_eq_false_iff_not, Bool.not_eq_true', Bool.not_eq_false', Bool.or_eq_true, Bool.and_eq_true, Bool.or_eq_false_iff, Bool.and_eq_false_imp, Int.not_lt, Int.not_le] at g73'
          have hm73 := Below.refl (wm68).heap.size wm68
          refine SG_no 73 rfl rfl g73 rfl ?_
          refine SG_no 73 rfl rfl g73 rfl ?_
          refine SG_no 73 rfl rfl g73 rfl ?_
          refine SG_no 73 rfl rfl g73 rfl ?_
          refine SG_no 73 rfl rfl g73 rfl ?_
          refine SG_q (Rq_pick rfl (fun h => absurd (g73.symm.trans h) (by decide)) (fun _ => rfl)) rfl ?_
          exact K73 _ _ hm73 (by repeat (first | exact Sub.refl | refine Sub.shadow ?_ | refine Sub.same ?_ | refine Sub.push rfl ?_))
        intro wm73 hbm73
        replace hb0 := btr hb0 hbm73
        replace hu1 := hu1.below hbm73
        replace hu2 := hu2.below hbm73
        replace hu3 := hu3.below hbm73
        replace hB1 := hB1.below hbm73
        replace hx1 := hx1.below hbm73
        replace hx2 := hx2.below hbm73
        replace hx3 := hx3.below hbm73
        replace hBs3x3 := hBs3x3.below hbm73
        replace hy1 := hy1.below hbm73
        replace hy2 := hy2.below hbm73
        replace hy3 := hy3.below hbm73
        replace hBs5x6 := hBs5x6.below hbm73
        replace hd1 := hd1.below hbm73
        replace hd2 := hd2.below hbm73
        replace hd3 := hd3.below hbm73
        replace hBs11x3 := hBs11x3.below hbm73
        simp only [List.drop_succ_cons, List.drop_zero]
        refine SG_q (Rq_move rfl) rfl ?_
        refine SG_and (r := ?r80n9) 2 82 80 rfl ?_ ?_ ?_; rotate_left
        · intro g80 K80
          have g80' := g80; try simp only [decide_eq_true_eq, decide_eq_false_iff_not, Bool.not_eq_true', Bool.not_eq_false', Bool.or_eq_true, Bool.and_eq_true, Bool.or_eq_false_iff, Bool.and_eq_false_imp, Int.not_lt, Int.not_le] at g80'
          have hm80 := Below.refl (wm73).heap.size wm73
          refine SG_yes 80 rfl rfl g80 ?_
          refine SG_pure rfl Tryz.call10 rfl (f10_c _) ?_
          intro w81 hb81
          replace hb0 := btr hb0 hb81
          replace hm80 := btr hm80 hb81
          replace hu1 := hu1.below hb81
          replace hu2 := hu2.below hb81
          replace hu3 := hu3.below hb81
          replace hB1 := hB1.below hb81
          replace hx1 := hx1.below hb81
          replace hx2 := hx2.below hb81
          replace hx3 := hx3.below hb81
          replace hBs3x3 := hBs3x3.below hb81
          replace hy1 := hy1.below hb81
          replace hy2 := hy2.below hb81
          replace hy3 := hy3.below hb81
          replace hBs5x6 := hBs5x6.below hb81
          replace hd1 := hd1.below hb81
          replace hd2 := hd2.below hb81
          replace hd3 := hd3.below hb81
          replace hBs11x3 := hBs11x3.below hb81
          refine SG_q (Rq_pick rfl (fun _ => rfl) (fun h => absurd (g80.symm.trans h) (by decide))) rfl ?_
          exact K80 _ _ hm80 (by repeat (first | exact Sub.refl | refine Sub.shadow ?_ | refine Sub.same ?_ | refine Sub.push rfl ?_))
        · intro g80 K80
          have g80' := g80; try simp only [decide_eq_true_eq, decide_eq_false_iff_not, Bool.not_eq_true', Bool.not_eq_false', Bool.or_eq_true, Bool.and_eq_true, Bool.or_eq_false_iff, Bool.and_eq_false_imp, Int.not_lt, Int.not_le] at g80'
          have hm80 := Below.refl (wm73).heap.size wm73
          refine SG_no 80 rfl rfl g80 rfl ?_
          refine SG_q (Rq_pick rfl (fun h => absurd (g80.symm.trans h) (by decide)) (fun _ => rfl)) rfl ?_
          exact K80 _ _ hm80 (by repeat (first | exact Sub.refl | refine Sub.shadow ?_ | refine Sub.same ?_ | refine Sub.push rfl ?_))
        intro wm80 hbm80
        replace hb0 := btr hb0 hbm80
        replace hu1 := hu1.below hbm80
        replace hu2 := hu2.below hbm80
        replace hu3 := hu3.below hbm80
        replace hB1 := hB1.below hbm80
        replace hx1 := hx1.below hbm80
        replace hx2 := hx2.below hbm80
        replace hx3 := hx3.below hbm80
        replace hBs3x3 := hBs3x3.below hbm80
        replace hy1 := hy1.below hbm80
        replace hy2 := hy2.below hbm80
        replace hy3 := hy3.below hbm80
        replace hBs5x6 := hBs5x6.below hbm80
        replace hd1 := hd1.below hbm80
        replace hd2 := hd2.below hbm80
        replace hd3 := hd3.below hbm80
        replace hBs11x3 := hBs11x3.below hbm80
        simp only [List.drop_succ_cons, List.drop_zero]
        refine SG_q (Rq_assign rfl) rfl ?_
        refine SG_nil ?_
        refine D_then ?_
        refine W_ret ?_
        refine D_body1 rfl rfl rfl ?_
        exact ⟨by simp [hck0, tidyR, tidyO_len], hb0⟩
end Go.Proofs.YtphmoebiobjfhaaGreat
