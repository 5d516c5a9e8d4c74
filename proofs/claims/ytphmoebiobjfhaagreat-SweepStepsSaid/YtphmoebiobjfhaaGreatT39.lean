/- Walks of functions, printed by a program of the author. -/
import Derived.Test.YtphmoebiobjfhaaGreatT24
import Derived.Test.YtphmoebiobjfhaaGreatT38
set_option linter.all false
namespace Go.Proofs.YtphmoebiobjfhaaGreat
open Go Go.Mi Go.RowKit Tryz Go.Proofs.Tryz
theorem f17_c {u v : Value} {xs ys : List Rw} {w : World} (hu : SL w u 2 encR xs) (hv : SL w v 2 encR ys) (hl : xs.length ≤ 100000000) : Pure prog 17 #[u, v] w (.bool (decide (xs = ys))) := by
 have hb0 := Below.refl w.heap.size w;refine zE func17 rfl ntmps17 rfl ?_;refine zg (za (SQ (ze rfl) (zd (zb (zg (zg (za (SQ (zf rfl) ?_))))))))
 first | refine SQ (zr (hu) zU30 rfl) ?_ | refine SQ (zr (hv) zU30 rfl) ?_
 refine SQ (zf rfl) ?_
 first | refine SQ (zr (hu) zU30 rfl) ?_ | refine SQ (zr (hv) zU30 rfl) ?_
 refine SQ (qp rfl rfl) (zd (zb ?_));refine zw rfl ?_ ?_
 ·intro g10
  try simp only [dd] at g10
  refine zg ?_;refine za ?_;refine SQ (ze rfl) ?_;refine zd ?_;refine zb ?_;refine zu ?_;refine zl ?_;refine zP rfl rfl rfl ?_;exact ⟨by rw [decide_eq_false (fun e => by subst e; simp at g10)], hb0⟩
 ·intro g10
  try simp only [dd] at g10
  have hle : xs.length = ys.length := by omega
  refine zH (zb (zg (zg (za (SQ (ze rfl) (zd (zb (zL ?_))))))));refine qo (α := Nat) (fun x => [(5, .int .i64 (x : Nat)), (0, u), (1, v)]) (fun x w' => Below w.heap.size w w' ∧ x ≤ xs.length ∧ (∀ j : Nat, j < x → xs[j]? = ys[j]?) ∧ SL w' u 2 encR xs ∧ SL w' v 2 encR ys) (fun x => xs.length - x) (0) (by repeat (first | exact Sub.nil | refine Sub.cons rfl ?_)) ⟨hb0, Nat.zero_le _, (fun j h => by omega), hu, hv⟩ ?_;clear hb0;clear hu;clear hv;rintro x wl0 ⟨hb0, hxi, hno, hu, hv⟩;refine zg (zg (za (SQ (zf rfl) (SQ (zf rfl) ?_))))
  first | refine SQ (zr (hu) zU30 rfl) ?_ | refine SQ (zr (hv) zU30 rfl) ?_
  refine SQ (qi rfl rfl) (zd (zb ?_));refine zw rfl ?_ ?_
  ·intro g14
   try simp only [dd] at g14
   refine zH (zb (zg (zL (zg (qQ (mixed) (by kernel_rfl) ?_)))));refine QS_q (zf rfl) rfl (QS_q (zf rfl) rfl ?_)
   first | refine z8 (hu) zU30 sizeOf45 rfl rfl ?_ ?_ rfl ?_ | refine z8 (hv) zU30 sizeOf45 rfl rfl ?_ ?_ rfl ?_
   ·omega
   ·omega
   intro x19 hx19 hc19;refine QS_q (qg isAgg45 sizeOf45 rfl ((hc19)) rfl) rfl (QS_q (zf rfl) rfl (QS_q (zf rfl) rfl ?_))
   first | refine z8 (hu) zU30 sizeOf45 rfl rfl ?_ ?_ rfl ?_ | refine z8 (hv) zU30 sizeOf45 rfl rfl ?_ ?_ rfl ?_
   ·omega
   ·omega
   intro x23 hx23 hc23;refine QS_q (qg isAgg45 sizeOf45 rfl ((hc23)) rfl) rfl (QS_q (Rq_neqS (fun w => eq45 _ _ w) eg45 rfl rfl) rfl (q9 ?_));intro wr6 hbr6;replace hb0 := btr hb0 hbr6;replace hu := hu.below hbr6;replace hv := hv.below hbr6;refine zb ?_;refine zw rfl ?_ ?_
   ·intro g25
    try simp only [dd] at g25
    refine zg (za (SQ (ze rfl) (zd (zb (zu (zt (zl (qn ?_))))))));refine zt (zl (zP rfl rfl rfl ?_));exact ⟨by rw [decide_eq_false (fun e => same_not hx19 hx23 (by simpa using g25) (by rw [e]))], hb0⟩
   ·intro g25
    try simp only [dd] at g25
    refine zH ?_;refine zQ ?_;refine zb ?_;refine za ?_;refine SQ (zf rfl) ?_;refine SQ (qb rfl rfl (zS (by omega) (by omega))) ?_;refine SQ (ze rfl) ?_;refine zd ?_;refine qh (x + 1) (by repeat (first | exact Sub.nil | refine Sub.cons rfl ?_)) ⟨hb0, by omega, (fun j hj => by rcases Nat.lt_succ_iff_lt_or_eq.1 hj with h | rfl; exact hno j h; (rw [show xs[j]? = _ from hx19, show ys[j]? = _ from hx23]; simpa using g25)), hu, hv⟩ (by omega)
  ·intro g14
   try simp only [dd] at g14
   refine qk (z0 (z9 ?_));refine zX (zb (zg (za (SQ (ze rfl) (zd (zb (zu (zP rfl rfl rfl ?_))))))));exact ⟨by rw [decide_eq_true (same_list hle (fun j hj => hno j (by omega)))], hb0⟩
set_option maxHeartbeats 4000000 in
theorem f3_c {v : Value} {C : Co} {w : World} (hC : CoS w v C) : Pure prog 3 #[v] w (.bool true) := by
 obtain ⟨uC, uO, uR, rfl, hu1, hu2, hu3⟩ := hC.ex;have hb0 := Below.refl w.heap.size w;refine zE func3 rfl ntmps3 rfl ?_;refine zg (za (qe rfl rfl rfl ?_));intro w1 b1 e1 hb1 hz1 hB1
 have hle1 : w.heap.size ≤ b1 := by have := hb0.size; omega
 replace hb0 := btr hb0 hb1;replace hu1 := hu1.below hb1;replace hu2 := hu2.below hb1;replace hu3 := hu3.below hb1;refine SQ (ze rfl) (zd (zb (zg (zg (za ?_)))))
 first | refine SQ (zC (hB1) isAgg26 sizeOf26 rfl rfl) ?_ | refine SQ (zD (hB1) isAgg26 sizeOf26 rfl rfl rfl) ?_
 refine zF rfl call9 rfl (f9_c (⟨⟨_, _, _, rfl, (hu1), (hu2), (hu3)⟩⟩ : CoS _ _ C)) ?_;intro w12 hb12;replace hb0 := btr hb0 hb12;replace hu1 := hu1.below hb12;replace hu2 := hu2.below hb12;replace hu3 := hu3.below hb12;replace hB1 := hB1.below hb12;refine zd (zb ?_);refine zw rfl ?_ ?_
 ·intro g12
  try simp only [dd] at g12
  refine zg (za (zF rfl call10 rfl (f10_c _) ?_));intro w13 hb13;replace hb0 := btr hb0 hb13;refine SQ (ze rfl) (zd (zb (zu (zl (zP rfl rfl rfl ?_)))));exact ⟨rfl, hb0⟩
 ·intro g12
  try simp only [dd] at g12
  have p1 : C.ch.length ≤ 100000 := by omega
  have p2 : C.ops.length ≤ 100000 := by omega
  have p3 : C.roots.length ≤ 100000 := by omega
  refine zH (zb (zg (za ?_)))
  first | refine SQ (zC (hB1) isAgg26 sizeOf26 rfl rfl) ?_ | refine SQ (zD (hB1) isAgg26 sizeOf26 rfl rfl rfl) ?_
  refine qf rfl call11 rfl (f11_c (⟨⟨_, _, _, rfl, (hu1), (hu2), (hu3)⟩⟩ : CoS _ _ C) p1 p2 p3) ?_;rintro v15 w15 hb15 ⟨xa1, xn1, xc1, xa2, xn2, xc2, xa3, xn3, xc3, rfl, ⟨hx1, hx2, hx3⟩, _⟩;replace hb0 := btr hb0 hb15;replace hu1 := hu1.below hb15;replace hu2 := hu2.below hb15;replace hu3 := hu3.below hb15;replace hB1 := hB1.below hb15;refine zM zeroValue26 rfl rfl ?_;intro w3 b3 e3 hb3 hz3 hB3
  have hle3 : w.heap.size ≤ b3 := by have := hb0.size; omega
  have ne_hu1_b3 := hu1.fresh (b := b3) (by omega);have ne_hu2_b3 := hu2.fresh (b := b3) (by omega);have ne_hu3_b3 := hu3.fresh (b := b3) (by omega)
  have ne_b1_3 : ¬ b1 = b3 := by have := hB1.lt; omega
  have ne_hx1_b3 := hx1.fresh (b := b3) (by omega);have ne_hx2_b3 := hx2.fresh (b := b3) (by omega);have ne_hx3_b3 := hx3.fresh (b := b3) (by omega);replace hb0 := btr hb0 hb3;replace hu1 := hu1.below hb3;replace hu2 := hu2.below hb3;replace hu3 := hu3.below hb3;replace hB1 := hB1.below hb3;replace hx1 := hx1.below hb3;replace hx2 := hx2.below hb3;replace hx3 := hx3.below hb3;refine zm (hB3) rfl rfl rfl rfl sizeOf26 rfl rfl ?_;intro ws3x3 hchs3x3 hBs3x3;replace hb0 := bchg hb0 hchs3x3 hle3;replace hu1 := hu1.chg hchs3x3 ne_hu1_b3;replace hu2 := hu2.chg hchs3x3 ne_hu2_b3;replace hu3 := hu3.chg hchs3x3 ne_hu3_b3;replace hB1 := hB1.chg hchs3x3 ne_b1_3;replace hx1 := hx1.chg hchs3x3 ne_hx1_b3;replace hx2 := hx2.chg hchs3x3 ne_hx2_b3;replace hx3 := hx3.chg hchs3x3 ne_hx3_b3;clear hB3;refine zd (zb (zg (za ?_)))
  first | refine SQ (zC (hBs3x3) isAgg26 sizeOf26 rfl rfl) ?_ | refine SQ (zD (hBs3x3) isAgg26 sizeOf26 rfl rfl rfl) ?_
  refine qf rfl call12 rfl (f12_c (C := C) (hx1) (hx2) (hx3) p1 p2 p3) ?_;rintro v18 w18 hb18 ⟨u18, rfl, hst⟩;replace hb0 := btr hb0 hb18;replace hu1 := hu1.below hb18;replace hu2 := hu2.below hb18;replace hu3 := hu3.below hb18;replace hB1 := hB1.below hb18;replace hx1 := hx1.below hb18;replace hx2 := hx2.below hb18;replace hx3 := hx3.below hb18;replace hBs3x3 := hBs3x3.below hb18;replace hst := hst.sl;refine SQ (zf rfl) (SQ (zK rfl rfl) (SQ (zK rfl rfl) (SQ (ze rfl) (SQ (ze rfl) (zd (zb (zg (za ?_))))))))
  first | refine SQ (zC (hBs3x3) isAgg26 sizeOf26 rfl rfl) ?_ | refine SQ (zD (hBs3x3) isAgg26 sizeOf26 rfl rfl rfl) ?_
  refine qf rfl call13 rfl (f13_c (C := C) (hx1) (hx2) (hx3) p1 p2 p3) ?_;rintro v23 w23 hb23 ⟨u23, rfl, hCV23⟩;replace hb0 := btr hb0 hb23;replace hu1 := hu1.below hb23;replace hu2 := hu2.below hb23;replace hu3 := hu3.below hb23;replace hB1 := hB1.below hb23;replace hx1 := hx1.below hb23;replace hx2 := hx2.below hb23;replace hx3 := hx3.below hb23;replace hBs3x3 := hBs3x3.below hb23;replace hst := hst.below hb23;obtain ⟨qyC, qyO, qyR, rfl, ⟨hy1, hy2, hy3⟩, _⟩ := hCV23.ex
  obtain ⟨a_qyC, n_qyC, c_qyC, h_qyC⟩ : ∃ a n c, qyC = Value.slice a n c := by obtain ⟨a, c, h⟩ := (hy1).len; exact ⟨_, _, _, h⟩
  subst h_qyC
  obtain ⟨a_qyO, n_qyO, c_qyO, h_qyO⟩ : ∃ a n c, qyO = Value.slice a n c := by obtain ⟨a, c, h⟩ := (hy2).len; exact ⟨_, _, _, h⟩
  subst h_qyO
  obtain ⟨a_qyR, n_qyR, c_qyR, h_qyR⟩ : ∃ a n c, qyR = Value.slice a n c := by obtain ⟨a, c, h⟩ := (hy3).len; exact ⟨_, _, _, h⟩
  subst h_qyR;refine SQ (zf rfl) (SQ (zK rfl rfl) (SQ (zK rfl rfl) (zM zeroValue26 rfl rfl ?_)));intro w6 b6 e6 hb6 hz6 hB6
  have hle6 : w.heap.size ≤ b6 := by have := hb0.size; omega
  have ne_hu1_b6 := hu1.fresh (b := b6) (by omega);have ne_hu2_b6 := hu2.fresh (b := b6) (by omega);have ne_hu3_b6 := hu3.fresh (b := b6) (by omega)
  have ne_b1_6 : ¬ b1 = b6 := by have := hB1.lt; omega
  have ne_hx1_b6 := hx1.fresh (b := b6) (by omega);have ne_hx2_b6 := hx2.fresh (b := b6) (by omega);have ne_hx3_b6 := hx3.fresh (b := b6) (by omega)
  have ne_b3_6 : ¬ b3 = b6 := by have := hBs3x3.lt; omega
  have ne_hst_b6 := hst.fresh (b := b6) (by omega);have ne_hy1_b6 := hy1.fresh (b := b6) (by omega);have ne_hy2_b6 := hy2.fresh (b := b6) (by omega);have ne_hy3_b6 := hy3.fresh (b := b6) (by omega);replace hb0 := btr hb0 hb6;replace hu1 := hu1.below hb6;replace hu2 := hu2.below hb6;replace hu3 := hu3.below hb6;replace hB1 := hB1.below hb6;replace hx1 := hx1.below hb6;replace hx2 := hx2.below hb6;replace hx3 := hx3.below hb6;replace hBs3x3 := hBs3x3.below hb6;replace hst := hst.below hb6;replace hy1 := hy1.below hb6;replace hy2 := hy2.below hb6;replace hy3 := hy3.below hb6;refine zm (hB6) rfl rfl rfl rfl sizeOf26 rfl rfl ?_;intro ws5x6 hchs5x6 hBs5x6;replace hb0 := bchg hb0 hchs5x6 hle6;replace hu1 := hu1.chg hchs5x6 ne_hu1_b6;replace hu2 := hu2.chg hchs5x6 ne_hu2_b6;replace hu3 := hu3.chg hchs5x6 ne_hu3_b6;replace hB1 := hB1.chg hchs5x6 ne_b1_6;replace hx1 := hx1.chg hchs5x6 ne_hx1_b6;replace hx2 := hx2.chg hchs5x6 ne_hx2_b6;replace hx3 := hx3.chg hchs5x6 ne_hx3_b6;replace hBs3x3 := hBs3x3.chg hchs5x6 ne_b3_6;replace hst := hst.chg hchs5x6 ne_hst_b6;replace hy1 := hy1.chg hchs5x6 ne_hy1_b6;replace hy2 := hy2.chg hchs5x6 ne_hy2_b6;replace hy3 := hy3.chg hchs5x6 ne_hy3_b6;clear hB6;refine SQ (ze rfl) (zd (zb (zg (zg (za ?_)))))
  first | refine SQ (zC (hBs3x3) isAgg26 sizeOf26 rfl rfl) ?_ | refine SQ (zD (hBs3x3) isAgg26 sizeOf26 rfl rfl rfl) ?_
  first | refine SQ (zC (hB1) isAgg26 sizeOf26 rfl rfl) ?_ | refine SQ (zD (hB1) isAgg26 sizeOf26 rfl rfl rfl) ?_
  refine zF rfl call14 rfl (f14_c (⟨⟨_, _, _, rfl, (hx1), (hx2), (hx3)⟩⟩ : CoS _ _ C) (⟨⟨_, _, _, rfl, (hu1), (hu2), (hu3)⟩⟩ : CoS _ _ C) p1 p2 p3 p1 p2 p3) ?_;intro w28 hb28;replace hb0 := btr hb0 hb28;replace hu1 := hu1.below hb28;replace hu2 := hu2.below hb28;replace hu3 := hu3.below hb28;replace hB1 := hB1.below hb28;replace hx1 := hx1.below hb28;replace hx2 := hx2.below hb28;replace hx3 := hx3.below hb28;replace hBs3x3 := hBs3x3.below hb28;replace hst := hst.below hb28;replace hy1 := hy1.below hb28;replace hy2 := hy2.below hb28;replace hy3 := hy3.below hb28;replace hBs5x6 := hBs5x6.below hb28;refine SQ (qv rfl) (zd (zb ?_));refine zw rfl ?_ ?_
  ·intro g29; exfalso; (try simp only [dd] at g29); simp at g29
  ·intro g29
   try simp only [dd] at g29
   refine zH (zb (zg (zg (za ?_))))
   first | refine SQ (zC (hB1) isAgg26 sizeOf26 rfl rfl) ?_ | refine SQ (zD (hB1) isAgg26 sizeOf26 rfl rfl rfl) ?_
   refine zF rfl call15 rfl (f15_c (⟨⟨_, _, _, rfl, (hu1), (hu2), (hu3)⟩⟩ : CoS _ _ C)) ?_;intro w31 hb31;replace hb0 := btr hb0 hb31;replace hu1 := hu1.below hb31;replace hu2 := hu2.below hb31;replace hu3 := hu3.below hb31;replace hB1 := hB1.below hb31;replace hx1 := hx1.below hb31;replace hx2 := hx2.below hb31;replace hx3 := hx3.below hb31;replace hBs3x3 := hBs3x3.below hb31;replace hst := hst.below hb31;replace hy1 := hy1.below hb31;replace hy2 := hy2.below hb31;replace hy3 := hy3.below hb31;replace hBs5x6 := hBs5x6.below hb31;refine SQ (ze rfl) (zd (zb (zg (za (SQ (zf rfl) (SQ (qp rfl rfl) (zd (zb ?_))))))));refine zw rfl ?_ ?_
   ·intro g33
    try simp only [dd] at g33
    have hckn : ¬ checkR C = 0 := by simpa using g33
    rw [if_neg hckn] at hy1 hy2 hy3 hst;refine zg ?_;refine za ?_;refine SQ (zf rfl) ?_;refine SQ (zf rfl) ?_;refine SQ (zO rfl rfl) ?_;refine SQ (zf rfl) ?_;refine qM (r := ?r37n1) 4 41 37 rfl ?_ ?_ ?_; rotate_left
    ·intro g37 K37
     have g37' := g37; try simp only [dd] at g37'
     have hm37 := Below.refl (w31).heap.size w31;refine zv 37 rfl rfl g37 (SQ (zf rfl) (zv 37 rfl rfl g37 (SQ (zf rfl) (zv 37 rfl rfl g37 (SQ (zO rfl rfl) (SQ (zA rfl (fun _ => rfl) (fun h => absurd (g37.symm.trans h) (by decide))) ?_))))));exact K37 _ _ hm37 (by repeat (first | exact Sub.refl | refine Sub.shadow ?_ | refine Sub.same ?_ | refine Sub.push rfl ?_))
    ·intro g37 K37
     have g37' := g37; try simp only [dd] at g37'
     have hm37 := Below.refl (w31).heap.size w31;refine zB 37 rfl rfl g37 rfl (zB 37 rfl rfl g37 rfl (zB 37 rfl rfl g37 rfl (SQ (zA rfl (fun h => absurd (g37.symm.trans h) (by decide)) (fun _ => rfl)) ?_)));exact K37 _ _ hm37 (by repeat (first | exact Sub.refl | refine Sub.shadow ?_ | refine Sub.same ?_ | refine Sub.push rfl ?_))
    intro wm37 hbm37;replace hb0 := btr hb0 hbm37;replace hu1 := hu1.below hbm37;replace hu2 := hu2.below hbm37;replace hu3 := hu3.below hbm37;replace hx1 := hx1.below hbm37;replace hx2 := hx2.below hbm37;replace hx3 := hx3.below hbm37;replace hst := hst.below hbm37;replace hy1 := hy1.below hbm37;replace hy2 := hy2.below hbm37;replace hy3 := hy3.below hbm37;replace hBs5x6 := hBs5x6.below hbm37
    simp only [List.drop_succ_cons, List.drop_zero]
    refine SQ (zf rfl) ?_;refine qM (r := ?r42n2) 4 46 42 rfl ?_ ?_ ?_; rotate_left
    ·intro g42 K42
     have g42' := g42; try simp only [dd] at g42'
     have hm42 := Below.refl (wm37).heap.size wm37;refine zv 42 rfl rfl g42 (SQ (zf rfl) (zv 42 rfl rfl g42 ?_))
     first | refine SQ (zr (hu1) zU30 rfl) ?_ | refine SQ (zr (hu2) zU30 rfl) ?_ | refine SQ (zr (hu3) zU30 rfl) ?_ | refine SQ (zr (hx1) zU30 rfl) ?_ | refine SQ (zr (hx2) zU30 rfl) ?_ | refine SQ (zr (hx3) zU30 rfl) ?_ | refine SQ (zr (hst) zU30 rfl) ?_ | refine SQ (zr (hy1) zU30 rfl) ?_ | refine SQ (zr (hy2) zU30 rfl) ?_ | refine SQ (zr (hy3) zU30 rfl) ?_
     refine zv 42 rfl rfl g42 (SQ (zO rfl rfl) (SQ (zA rfl (fun _ => rfl) (fun h => absurd (g42.symm.trans h) (by decide))) ?_));exact K42 _ _ hm42 (by repeat (first | exact Sub.refl | refine Sub.shadow ?_ | refine Sub.same ?_ | refine Sub.push rfl ?_))
    ·intro g42 K42
     have g42' := g42; try simp only [dd] at g42'
     have hm42 := Below.refl (wm37).heap.size wm37;refine zB 42 rfl rfl g42 rfl (zB 42 rfl rfl g42 rfl (zB 42 rfl rfl g42 rfl (SQ (zA rfl (fun h => absurd (g42.symm.trans h) (by decide)) (fun _ => rfl)) ?_)));exact K42 _ _ hm42 (by repeat (first | exact Sub.refl | refine Sub.shadow ?_ | refine Sub.same ?_ | refine Sub.push rfl ?_))
    intro wm42 hbm42;replace hb0 := btr hb0 hbm42;replace hy1 := hy1.below hbm42;replace hy2 := hy2.below hbm42;replace hy3 := hy3.below hbm42;replace hBs5x6 := hBs5x6.below hbm42
    simp only [List.drop_succ_cons, List.drop_zero]
    refine SQ (zf rfl) ?_;refine qM (r := ?r47n3) 4 51 47 rfl ?_ ?_ ?_; rotate_left
    ·intro g47 K47
     have g47' := g47; try simp only [dd] at g47'
     have hm47 := Below.refl (wm42).heap.size wm42;refine zv 47 rfl rfl g47 ?_
     first | refine SQ (zC (hBs5x6) isAgg26 sizeOf26 rfl rfl) ?_ | refine SQ (zD (hBs5x6) isAgg26 sizeOf26 rfl rfl rfl) ?_
     refine zv 47 rfl rfl g47 (SQ (qj build26_) (zv 47 rfl rfl g47 (zF rfl call14 rfl (f14_c (⟨⟨_, _, _, rfl, (hy1), (hy2), (hy3)⟩⟩ : CoS _ _ noCo) ((CoV.no 0 0 _).s : CoS _ _ noCo) (by decide) (by decide) (by decide) (by decide) (by decide) (by decide)) ?_)));intro w50 hb50;replace hb0 := btr hb0 hb50;replace hm47 := btr hm47 hb50;refine SQ (zA rfl (fun _ => rfl) (fun h => absurd (g47.symm.trans h) (by decide))) ?_;exact K47 _ _ hm47 (by repeat (first | exact Sub.refl | refine Sub.shadow ?_ | refine Sub.same ?_ | refine Sub.push rfl ?_))
    ·intro g47 K47
     have g47' := g47; try simp only [dd] at g47'
     have hm47 := Below.refl (wm42).heap.size wm42;refine zB 47 rfl rfl g47 rfl (zB 47 rfl rfl g47 rfl (zB 47 rfl rfl g47 rfl (SQ (zA rfl (fun h => absurd (g47.symm.trans h) (by decide)) (fun _ => rfl)) ?_)));exact K47 _ _ hm47 (by repeat (first | exact Sub.refl | refine Sub.shadow ?_ | refine Sub.same ?_ | refine Sub.push rfl ?_))
    intro wm47 hbm47;replace hb0 := btr hb0 hbm47
    simp only [List.drop_succ_cons, List.drop_zero]
    refine SQ (zf rfl) ?_;refine qM (r := ?r52n4) 2 54 52 rfl ?_ ?_ ?_; rotate_left
    ·intro g52 K52
     have g52' := g52; try simp only [dd] at g52'
     have hm52 := Below.refl (wm47).heap.size wm47;refine zv 52 rfl rfl g52 (zF rfl call10 rfl (f10_c _) ?_);intro w53 hb53;replace hb0 := btr hb0 hb53;replace hm52 := btr hm52 hb53;refine SQ (zA rfl (fun _ => rfl) (fun h => absurd (g52.symm.trans h) (by decide))) ?_;exact K52 _ _ hm52 (by repeat (first | exact Sub.refl | refine Sub.shadow ?_ | refine Sub.same ?_ | refine Sub.push rfl ?_))
    ·intro g52 K52
     have g52' := g52; try simp only [dd] at g52'
     have hm52 := Below.refl (wm47).heap.size wm47;refine zB 52 rfl rfl g52 rfl (SQ (zA rfl (fun h => absurd (g52.symm.trans h) (by decide)) (fun _ => rfl)) ?_);exact K52 _ _ hm52 (by repeat (first | exact Sub.refl | refine Sub.shadow ?_ | refine Sub.same ?_ | refine Sub.push rfl ?_))
    intro wm52 hbm52;replace hb0 := btr hb0 hbm52
    simp only [List.drop_succ_cons, List.drop_zero]
    refine SQ (ze rfl) (zd (zb (zu (zl (zP rfl rfl rfl ?_)))));exact ⟨by simp [hckn], hb0⟩
   ·intro g33
    try simp only [dd] at g33
    have hck0 : checkR C = 0 := by simpa using g33
    rw [if_pos hck0] at hy1 hy2 hy3 hst;have hckE := (steps_len hck0).2;have hsl := (steps_len hck0).1;have hrb := refs_bound hck0;have hcl := (qm hckE).1
    have htl : (tidyR (stepsR C).2).ops.length ≤ 3000 := by have h9 := nodup_le (jA hckE).1 (jA hckE).2; show (tidyO _ _).length ≤ 3000; rw [qF]; omega
    have htr : (tidyR (stepsR C).2).roots.length ≤ 3000 := by show (List.map _ _).length ≤ 3000; rw [List.length_map]; exact hcl.2.2
    have htc : (tidyR (stepsR C).2).ch.length ≤ 6 := hcl.1;refine zH (zb (zg (za ?_)))
    first | refine SQ (zC (hB1) isAgg26 sizeOf26 rfl rfl) ?_ | refine SQ (zD (hB1) isAgg26 sizeOf26 rfl rfl rfl) ?_
    refine qf rfl call11 rfl (f11_c (⟨⟨_, _, _, rfl, (hu1), (hu2), (hu3)⟩⟩ : CoS _ _ C) p1 p2 p3) ?_;rintro v57 w57 hb57 ⟨za1, zn1, zc1, za2, zn2, zc2, za3, zn3, zc3, rfl, ⟨hz1, hz2, hz3⟩, _⟩;replace hb0 := btr hb0 hb57;replace hB1 := hB1.below hb57;replace hBs3x3 := hBs3x3.below hb57;replace hst := hst.below hb57;replace hy1 := hy1.below hb57;replace hy2 := hy2.below hb57;replace hy3 := hy3.below hb57;replace hBs5x6 := hBs5x6.below hb57;refine qf rfl call16 rfl (f16_c (⟨⟨_, _, _, rfl, (hz1), (hz2), (hz3)⟩⟩ : CoS _ _ C) hck0) ?_;rintro v58 w58 hb58 ⟨vl, vd, rfl, hl9, da1, dn1, dc1, da2, dn2, dc2, da3, dn3, dc3, rfl, ⟨hd1, hd2, hd3⟩, _⟩;replace hb0 := btr hb0 hb58;replace hB1 := hB1.below hb58;replace hBs3x3 := hBs3x3.below hb58;replace hst := hst.below hb58;replace hy1 := hy1.below hb58;replace hy2 := hy2.below hb58;replace hy3 := hy3.below hb58;replace hBs5x6 := hBs5x6.below hb58;refine SQ (zf rfl) (SQ (zK rfl rfl) (SQ (zK rfl rfl) (zM zeroValue26 rfl rfl ?_)));intro w10 b10 e10 hb10 hz10 hB10
    have hle10 : w.heap.size ≤ b10 := by have := hb0.size; omega
    have ne_b1_10 : ¬ b1 = b10 := by have := hB1.lt; omega
    have ne_b3_10 : ¬ b3 = b10 := by have := hBs3x3.lt; omega
    have ne_hst_b10 := hst.fresh (b := b10) (by omega);have ne_hy1_b10 := hy1.fresh (b := b10) (by omega);have ne_hy2_b10 := hy2.fresh (b := b10) (by omega);have ne_hy3_b10 := hy3.fresh (b := b10) (by omega)
    have ne_b6_10 : ¬ b6 = b10 := by have := hBs5x6.lt; omega
    have ne_hd1_b10 := hd1.fresh (b := b10) (by omega);have ne_hd2_b10 := hd2.fresh (b := b10) (by omega);have ne_hd3_b10 := hd3.fresh (b := b10) (by omega);have ne_hl9_b10 := hl9.fresh (b := b10) (by omega);replace hb0 := btr hb0 hb10;replace hst := hst.below hb10;replace hy1 := hy1.below hb10;replace hy2 := hy2.below hb10;replace hy3 := hy3.below hb10;replace hBs5x6 := hBs5x6.below hb10;replace hd1 := hd1.below hb10;replace hd2 := hd2.below hb10;replace hd3 := hd3.below hb10;replace hl9 := hl9.below hb10;refine SQ (ze rfl) ?_;refine zm (hB10) rfl rfl rfl rfl sizeOf26 rfl rfl ?_;intro ws11x8 hchs11x8 hBs11x8;replace hb0 := bchg hb0 hchs11x8 hle10;replace hst := hst.chg hchs11x8 ne_hst_b10;replace hy1 := hy1.chg hchs11x8 ne_hy1_b10;replace hy2 := hy2.chg hchs11x8 ne_hy2_b10;replace hy3 := hy3.chg hchs11x8 ne_hy3_b10;replace hBs5x6 := hBs5x6.chg hchs11x8 ne_b6_10;replace hd1 := hd1.chg hchs11x8 ne_hd1_b10;replace hd2 := hd2.chg hchs11x8 ne_hd2_b10;replace hd3 := hd3.chg hchs11x8 ne_hd3_b10;replace hl9 := hl9.chg hchs11x8 ne_hl9_b10;clear hB10;refine zd ?_;refine zb ?_;refine zg ?_;refine W_anyT 20 [[], [0], [1], [], [3], [2, 4], [5], [], [], [7, 8], [6, 9], [10], [], [], [13], [12, 14], [11, 15], [16], [], [17, 18]] [det [] ?a12_0n5, det [0] (.bool true), det [1] (.bool true), det [] ?a12_3n5, det [3] (.bool true), det [2, 4] (.bool true), det [5] (.bool true), det [] ?a12_7n5, det [] ?a12_8n5, det [7, 8] (.bool true), det [6, 9] (.bool true), det [10] (.bool true), det [] ?a12_12n5, det [] ?a12_13n5, frs [13] ((CoL 0 (tidyR (stepsR C).2))), det [12, 14] (.bool true), det [11, 15] (.bool true), det [16] (.bool true), det [] (.bool true), det [17, 18] (.bool true)] mixed (by kernel_rfl) rfl ⟨.inl rfl, .inl rfl, .inl rfl, .inr ⟨2, true, _, 63, rfl, rfl, rfl, by kernel_rfl, fun _ _ _ _ h => h⟩, .inr ⟨2, true, _, 63, rfl, rfl, rfl, by kernel_rfl, fun _ _ _ _ h => h⟩, .inl rfl, .inl rfl, .inr ⟨6, true, _, 67, rfl, rfl, rfl, by kernel_rfl, fun _ _ _ _ h => h⟩, .inr ⟨6, true, _, 67, rfl, rfl, rfl, by kernel_rfl, fun _ _ _ _ h => h⟩, .inr ⟨6, true, _, 67, rfl, rfl, rfl, by kernel_rfl, fun _ _ _ _ h => h⟩, .inl rfl, .inl rfl, .inr ⟨11, true, _, 72, rfl, rfl, rfl, by kernel_rfl, fun _ _ _ _ h => h⟩, .inr ⟨11, true, _, 72, rfl, rfl, rfl, by kernel_rfl, fun _ _ _ _ h => h⟩, .inr ⟨11, true, _, 72, rfl, rfl, rfl, by kernel_rfl, fun _ _ _ _ h => h⟩, .inr ⟨11, true, _, 72, rfl, rfl, rfl, by kernel_rfl, fun _ _ _ _ h => h⟩, .inl rfl, .inl rfl, .inr ⟨17, true, _, 78, rfl, rfl, rfl, by kernel_rfl, fun _ _ _ _ h => h⟩, .inl rfl, trivial⟩ ⟨zn _ _, zn _ _, zn _ _, zn _ _, zn _ _, zn _ _, zn _ _, zn _ _, zn _ _, zn _ _, zn _ _, zn _ _, zn _ _, zn _ _, CoL.stab, zn _ _, zn _ _, zn _ _, zn _ _, zn _ _, trivial⟩ ?_ ?_; rotate_left 6
    ·refine zj ?_ ?_
     ·intro wq hbq
      refine zo ?_
      refine zz (zf rfl) ?_; first | exact rfl | rfl
     refine zj ?_ ?_
     ·intro wq hbq
      refine zx rfl rfl (zo ?_)
      refine zz (zO rfl rfl) ?_; first | exact congrArg Value.bool (decide_eq_true hck0) | exact congrArg Value.bool (decide_eq_true hck0).symm
     refine zj ?_ ?_
     ·intro wq hbq
      refine zx rfl rfl (zo ?_)
      refine zz (zf rfl) ?_; first | exact rfl | rfl
     refine zj ?_ ?_
     ·intro wq hbq
      refine zo ?_
      refine zz (zf rfl) ?_; first | exact rfl | rfl
     refine zj ?_ ?_
     ·intro wq hbq
      refine zx rfl rfl (zo ?_)
      refine zz (zO rfl rfl) ?_; first | exact congrArg Value.bool (decide_eq_true hck0) | exact congrArg Value.bool (decide_eq_true hck0).symm
     refine zj ?_ ?_
     ·intro wq hbq
      refine zx rfl rfl (zx rfl rfl (zo ?_))
      refine zz (zA rfl (fun _ => rfl) (fun h => by cases h)) ?_; first | exact rfl | rfl
     refine zj ?_ ?_
     ·intro wq hbq
      refine zx rfl rfl (zo ?_)
      refine zz (zf rfl) ?_; first | exact rfl | rfl
     refine zj ?_ ?_
     ·intro wq hbq
      refine zo ?_
      refine zz (zf rfl) ?_; first | exact rfl | rfl
     refine zj ?_ ?_
     ·intro wq hbq
      refine zo ?_
      refine zz (zf rfl) ?_; first | exact rfl | rfl
     refine zj ?_ ?_
     ·intro wq hbq
      refine zx rfl rfl (zx rfl rfl (zo ?_))
      refine qq rfl call17 (qB (f17_c (hst.below hbq) (hl9.below hbq) (by omega)) ?_); first | exact congrArg Value.bool (decide_eq_true rfl) | exact congrArg Value.bool (decide_eq_true rfl).symm
     refine zj ?_ ?_
     ·intro wq hbq
      refine zx rfl rfl (zx rfl rfl (zo ?_))
      refine zz (zA rfl (fun _ => rfl) (fun h => by cases h)) ?_; first | exact rfl | rfl
     refine zj ?_ ?_
     ·intro wq hbq
      refine zx rfl rfl (zo ?_)
      refine zz (zf rfl) ?_; first | exact rfl | rfl
     refine zj ?_ ?_
     ·intro wq hbq
      refine zo ?_
      first | (refine zz (zC ((hBs5x6).below hbq) isAgg26 sizeOf26 rfl rfl) ?_; first | exact rfl | rfl) | (refine zz (zD ((hBs5x6).below hbq) isAgg26 sizeOf26 rfl rfl rfl) ?_; first | exact rfl | rfl)
     refine zj ?_ ?_
     ·intro wq hbq
      refine zo ?_
      first | (refine zz (zC ((hBs11x8).below hbq) isAgg26 sizeOf26 rfl rfl) ?_; first | exact rfl | rfl) | (refine zz (zD ((hBs11x8).below hbq) isAgg26 sizeOf26 rfl rfl rfl) ?_; first | exact rfl | rfl)
     refine zj ?_ ?_
     ·intro wq hbq
      refine zx rfl rfl (zo ?_);exact qq rfl call18 (Fn.mono (f18_c (⟨⟨_, _, _, rfl, hd1.below hbq, hd2.below hbq, hd3.below hbq⟩⟩ : CoS _ _ (stepsR C).2) hckE) fun v w' hb ⟨a1, n1, c1, a2, n2, c2, a3, n3, c3, e, h, _⟩ => ⟨a1, n1, c1, a2, n2, c2, a3, n3, c3, e, h, fun _ => Nat.zero_le _, fun _ => Nat.zero_le _, fun _ => Nat.zero_le _⟩)
     refine zj ?_ ?_
     ·intro wq hbq
      refine zx rfl rfl (jw rfl rfl ?_); intro v75 lo75 hi75 hle75 hR75;refine zo ?_;obtain ⟨qa1, qn1, qc1, qa2, qn2, qc2, qa3, qn3, qc3, rfl, ⟨q1, q2, q3⟩, _⟩ := hR75
      refine qq rfl call14 (qB (f14_c (⟨⟨_, _, _, rfl, hy1.below hbq, hy2.below hbq, hy3.below hbq⟩⟩ : CoS _ _ (tidyR (stepsR C).2)) (⟨⟨_, _, _, rfl, q1, q2, q3⟩⟩ : CoS _ _ (tidyR (stepsR C).2)) (by omega) (by omega) (by omega) (by omega) (by omega) (by omega)) ?_); first | exact congrArg Value.bool (decide_eq_true rfl) | exact congrArg Value.bool (decide_eq_true rfl).symm
     refine zj ?_ ?_
     ·intro wq hbq
      refine zx rfl rfl (zx rfl rfl (zo ?_))
      refine zz (zA rfl (fun _ => rfl) (fun h => by cases h)) ?_; first | exact rfl | rfl
     refine zj ?_ ?_
     ·intro wq hbq
      refine zx rfl rfl (zo ?_)
      refine zz (zf rfl) ?_; first | exact rfl | rfl
     refine zj ?_ ?_
     ·intro wq hbq
      refine zo ?_
      refine qq rfl call10 (qB (f10_c _) ?_); first | exact rfl | rfl
     refine zj ?_ ?_
     ·intro wq hbq
      refine zx rfl rfl (zx rfl rfl (zo ?_))
      refine zz (zA rfl (fun _ => rfl) (fun h => by cases h)) ?_; first | exact rfl | rfl
     exact qD
    ·intro wa12 hba12
     replace hb0 := btr hb0 hba12;refine zq rfl (zq rfl (zq rfl (zq rfl (zq rfl (zq rfl (zq rfl (zq rfl (zq rfl (zq rfl (zq rfl (zq rfl (zq rfl (zq rfl (qY rfl ?_)))))))))))))); intro v75 lo75 hi75 hR75 hlB75 hlh75 hhw75 hdj75;refine zq rfl (zq rfl (zq rfl (zq rfl (zq rfl (qH ?_)))))
     simp only [List.drop_succ_cons, List.drop_zero]
     refine SQ (ze rfl) (zd (zb (zu (zP rfl rfl rfl ?_))));exact ⟨rfl, hb0⟩
end Go.Proofs.YtphmoebiobjfhaaGreat
