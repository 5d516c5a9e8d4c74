/- Walks of functions, printed by a program of the author. -/
import Derived.Test.YtphmoebiobjfhaaGreatT1
set_option linter.all false
namespace Go.Proofs.YtphmoebiobjfhaaGreat
open Go Go.Mi Go.RowKit
theorem fa26_0 (w : World) (a : Addr) : (Instr.fieldAt 26 (.pointer (some a)) 0).run Tryz.prog w = .ok (.pointer (some (a.add 0))) w := by kernel_rfl
theorem fa26_1 (w : World) (a : Addr) : (Instr.fieldAt 26 (.pointer (some a)) 1).run Tryz.prog w = .ok (.pointer (some (a.add 1))) w := by kernel_rfl
theorem fa26_2 (w : World) (a : Addr) : (Instr.fieldAt 26 (.pointer (some a)) 2).run Tryz.prog w = .ok (.pointer (some (a.add 2))) w := by kernel_rfl
theorem fa76_0 (w : World) (a : Addr) : (Instr.fieldAt 76 (.pointer (some a)) 0).run Tryz.prog w = .ok (.pointer (some (a.add 0))) w := by kernel_rfl
theorem fa76_1 (w : World) (a : Addr) : (Instr.fieldAt 76 (.pointer (some a)) 1).run Tryz.prog w = .ok (.pointer (some (a.add 1))) w := by kernel_rfl
theorem fa76_2 (w : World) (a : Addr) : (Instr.fieldAt 76 (.pointer (some a)) 2).run Tryz.prog w = .ok (.pointer (some (a.add 2))) w := by kernel_rfl
theorem fa76_3 (w : World) (a : Addr) : (Instr.fieldAt 76 (.pointer (some a)) 3).run Tryz.prog w = .ok (.pointer (some (a.add 3))) w := by kernel_rfl
theorem fa76_4 (w : World) (a : Addr) : (Instr.fieldAt 76 (.pointer (some a)) 4).run Tryz.prog w = .ok (.pointer (some (a.add 4))) w := by kernel_rfl
theorem fa84_1 (w : World) (a : Addr) : (Instr.fieldAt 84 (.pointer (some a)) 1).run Tryz.prog w = .ok (.pointer (some (a.add 1))) w := by kernel_rfl
theorem fa84_2 (w : World) (a : Addr) : (Instr.fieldAt 84 (.pointer (some a)) 2).run Tryz.prog w = .ok (.pointer (some (a.add 2))) w := by kernel_rfl
theorem build146_0_1_2 (v u t : Value) (w : World) (hv : one1 v = true) (hu : one1 u = true) (ht : one1 t = true) : (Instr.build 146 #[(0, v), (1, u), (2, t)]).run Tryz.prog w = .ok (.agg [v, u, t].toArray) w := by
 unfold Instr.build
 simp [Sem.run_bind, Tryz.zeroValue146, Tryz.runUnderlying146, Tryz.sizeOf3, Instr.fill, cells_one hv, cells_one hu, cells_one ht, Result.andThen, cells_agg]
theorem f87_c {b1 b2 T1 T2 : Nat} {least most n : Int} {w : World} (h1 : Blk w b1 [.int .i64 least] T1) (h2 : Blk w b2 [.int .i64 most] T2) : Pure Tryz.prog 87 #[.int .i64 n, .pointer (some ⟨b1, 0, none⟩), .pointer (some ⟨b2, 0, none⟩)] w (.bool (decide (n < least) || decide (most < n))) := by
 have hb0 := Below.refl w.heap.size w;refine calls_of_W Tryz.func87 rfl Tryz.ntmps87 rfl ?_;refine W_seq ?_;refine W_region ?_;refine SG_q (Rq_assign rfl) rfl ?_;refine SG_nil ?_;refine D_then ?_;refine W_seq ?_;refine W_region ?_;refine SG_q (Rq_move rfl) rfl ?_;refine SG_q (Rq_loadB ((h1).below hb0) Tryz.isAgg3 rfl rfl) rfl ?_;refine SG_q (Rq_lss rfl rfl) rfl ?_;refine SG_q (Rq_move rfl) rfl ?_;refine SG_or (r := ?r8n1) 4 12 8 rfl ?_ ?_ ?_; rotate_left
 ·intro g8 K8
  have g8' := g8; try simp only [dd] at g8'
  have hm8 := Below.refl (w).heap.size w;refine SG_yes 8 rfl rfl g8 (SG_q (Rq_move rfl) rfl (SG_yes 8 rfl rfl g8 (SG_q (Rq_loadB ((h2).below hb0) Tryz.isAgg3 rfl rfl) rfl (SG_yes 8 rfl rfl g8 (SG_q (Rq_gtr rfl rfl) rfl (SG_q (Rq_pick rfl (fun h => absurd (g8.symm.trans h) (by decide)) (fun _ => rfl)) rfl ?_))))));exact K8 _ _ hm8 (by repeat (first | exact Sub.refl | refine Sub.shadow ?_ | refine Sub.same ?_ | refine Sub.push rfl ?_))
 ·intro g8 K8
  have g8' := g8; try simp only [dd] at g8'
  have hm8 := Below.refl (w).heap.size w;refine SG_no 8 rfl rfl g8 rfl (SG_no 8 rfl rfl g8 rfl (SG_no 8 rfl rfl g8 rfl (SG_q (Rq_pick rfl (fun _ => rfl) (fun h => absurd (g8.symm.trans h) (by decide))) rfl ?_)));exact K8 _ _ hm8 (by repeat (first | exact Sub.refl | refine Sub.shadow ?_ | refine Sub.same ?_ | refine Sub.push rfl ?_))
 intro wm8 hbm8;replace hb0 := btr hb0 hbm8
 simp only [List.drop_succ_cons, List.drop_zero]
 refine SG_q (Rq_assign rfl) rfl (SG_nil (D_then (W_ret (D_body1 rfl rfl rfl ?_))));exact ⟨rfl, hb0⟩
theorem f71_c {least most : Int} {v : Value} {xs : List Int} {w : World} (hlen : xs.length ≤ 4611686018427387904) (hs : SL w v 1 encI xs) : Pure Tryz.prog 71 #[.int .i64 least, .int .i64 most, v] w (.bool (withinB least most xs)) := by
 have hb0 := Below.refl w.heap.size w;refine calls_of_W Tryz.func71 rfl Tryz.ntmps71 rfl ?_;refine W_seq (W_region (SG_box rfl rfl rfl ?_));intro w3 b3 e3 hb3 hz3 hB3
 have hle3 : w.heap.size ≤ b3 := by have := hb0.size; omega
 replace hb0 := btr hb0 hb3;refine SG_box rfl rfl rfl ?_;intro w4 b4 e4 hb4 hz4 hB4
 have hle4 : w.heap.size ≤ b4 := by have := hb0.size; omega
 have ne_b3_4 : ¬ b3 = b4 := by have := hB3.lt; omega
 replace hb0 := btr hb0 hb4;replace hB3 := hB3.below hb4;refine SG_q (Rq_assign rfl) rfl (SG_nil (D_then (W_seq (W_region (SG_q (Rq_move rfl) rfl (SG_q (Rq_makeFunc rfl) rfl (SG_pure rfl Tryz.call86 rfl (f86_c hlen ((hs).below hb0) Tryz.call87 (fun x hx w' hb => f87_c (hB3.below hb) (hB4.below hb))) ?_)))))));intro w9 hb9;replace hb0 := btr hb0 hb9;refine SG_q (Rq_not rfl) rfl (SG_q (Rq_assign rfl) rfl (SG_nil (D_then (W_ret (D_body1 rfl rfl rfl ?_)))));exact ⟨rfl, hb0⟩
theorem f70_c (x : Ch) (w : World) : Pure Tryz.prog 70 #[valC x] w (.bool (noCh x)) := by
 have hb0 := Below.refl w.heap.size w;refine calls_of_W Tryz.func70 rfl Tryz.ntmps70 rfl ?_;refine W_seq (W_region (SG_box rfl rfl rfl ?_));intro w1 b1 e1 hb1 hz1 hB1
 have hle1 : w.heap.size ≤ b1 := by have := hb0.size; omega
 replace hb0 := btr hb0 hb1;refine SG_q (Rq_assign rfl) rfl (SG_nil (D_then (W_seq (W_region (SG_q (Rq_fieldAddr fa84_1 rfl) rfl (SG_q (Rq_loadB (hB1) Tryz.isAgg3 rfl rfl) rfl (SG_q (Rq_fieldAddr fa84_2 rfl) rfl (SG_q (Rq_loadB (hB1) Tryz.isAgg3 rfl rfl) rfl (SG_bslice (enc := encI) (val := valI) (os := [.tmp 4, .tmp 6]) rfl rfl (MV.cons (MV.cons (MV.nil))) (fun _ => rfl) (fun _ => rfl) Tryz.runUnderlying24 Tryz.sizeOf3 Tryz.zeroValue3 rfl (by decide) (by decide) rfl ?_)))))))));intro w7 v7 b7 e7 hb7 hz7 hob7 hO7
 have hle7 : w.heap.size ≤ b7 := by have := hb0.size; omega
 have lt_b1_7 : b1 < b7 := by have := hB1.lt; omega
 replace hb0 := btr hb0 hb7;replace hB1 := hB1.below hb7;refine SG_pure rfl Tryz.call71 rfl (f71_c (by simp) (hO7.sl)) ?_;intro w8 hb8;replace hb0 := btr hb0 hb8;replace hB1 := hB1.below hb8;refine SG_q (Rq_not rfl) rfl ?_;refine SG_q (Rq_move rfl) rfl ?_;refine SG_or (r := ?r10n1) 10 20 10 rfl ?_ ?_ ?_; rotate_left
 ·intro g10 K10
  have g10' := g10; try simp only [dd] at g10'
  have hm10 := Below.refl (w8).heap.size w8;have g10q := within2 g10';refine SG_yes 10 rfl rfl g10 (SG_q (Rq_fieldAddr fa84_2 rfl) rfl (SG_yes 10 rfl rfl g10 (SG_q (Rq_loadB (hB1) Tryz.isAgg3 rfl rfl) rfl (SG_yes 10 rfl rfl g10 (SG_q (Rq_fieldAddr fa84_1 rfl) rfl (SG_yes 10 rfl rfl g10 (SG_q (Rq_loadB (hB1) Tryz.isAgg3 rfl rfl) rfl (SG_yes 10 rfl rfl g10 (SG_q (Rq_sub rfl rfl (wrap_i64 (by omega) (by omega))) rfl (SG_yes 10 rfl rfl g10 (SG_q (Rq_add rfl rfl (wrap_i64 (by omega) (by omega))) rfl (SG_yes 10 rfl rfl g10 (SG_bslice (enc := encI) (val := valI) (os := [.tmp 16]) rfl rfl (MV.cons (MV.nil)) (fun _ => rfl) (fun _ => rfl) Tryz.runUnderlying24 Tryz.sizeOf3 Tryz.zeroValue3 rfl (by decide) (by decide) rfl ?_)))))))))))));intro w17 v17 b17 e17 hb17 hz17 hob17 hO17
  have hle17 : w.heap.size ≤ b17 := by have := hb0.size; omega
  have lt_b1_17 : b1 < b17 := by have := hB1.lt; omega
  replace hb0 := btr hb0 hb17;replace hm10 := btr hm10 hb17;refine SG_yes 10 rfl rfl g10 (SG_pure rfl Tryz.call71 rfl (f71_c (by simp) (hO17.sl)) ?_);intro w18 hb18;replace hb0 := btr hb0 hb18;replace hm10 := btr hm10 hb18;refine SG_yes 10 rfl rfl g10 (SG_q (Rq_not rfl) rfl (SG_q (Rq_pick rfl (fun h => absurd (g10.symm.trans h) (by decide)) (fun _ => rfl)) rfl ?_));exact K10 _ _ hm10 (by repeat (first | exact Sub.refl | refine Sub.shadow ?_ | refine Sub.same ?_ | refine Sub.push rfl ?_))
 ·intro g10 K10
  have g10' := g10; try simp only [dd] at g10'
  have hm10 := Below.refl (w8).heap.size w8;refine SG_no 10 rfl rfl g10 rfl (SG_no 10 rfl rfl g10 rfl (SG_no 10 rfl rfl g10 rfl (SG_no 10 rfl rfl g10 rfl (SG_no 10 rfl rfl g10 rfl (SG_no 10 rfl rfl g10 rfl (SG_no 10 rfl rfl g10 rfl (SG_no 10 rfl rfl g10 rfl (SG_no 10 rfl rfl g10 rfl (SG_q (Rq_pick rfl (fun _ => rfl) (fun h => absurd (g10.symm.trans h) (by decide))) rfl ?_)))))))));exact K10 _ _ hm10 (by repeat (first | exact Sub.refl | refine Sub.shadow ?_ | refine Sub.same ?_ | refine Sub.push rfl ?_))
 intro wm10 hbm10;replace hb0 := btr hb0 hbm10
 simp only [List.drop_succ_cons, List.drop_zero]
 refine SG_q (Rq_assign rfl) rfl (SG_nil (D_then (W_ret (D_body1 rfl rfl rfl ?_))));exact ⟨rfl, hb0⟩
theorem f90_c (code : Int) (w : World) : Pure Tryz.prog 90 #[.int .u8 code] w (.int .i64 (arN code : Nat)) := by
 have hb0 := Below.refl w.heap.size w;refine calls_of_W Tryz.func90 rfl Tryz.ntmps90 rfl ?_;refine W_seq (W_region (SG_q (Rq_assign rfl) rfl (SG_nil (D_then (W_seq (W_block (W_seq (W_region (SG_q (Rq_move rfl) rfl (SG_q (Rq_leq rfl rfl) rfl (SG_q (Rq_assign rfl) rfl (SG_nil (D_then ?_)))))))))))));refine W_cond rfl ?_ ?_
 ·intro g3
  try simp only [dd] at g3
  refine W_seq ?_;refine W_region ?_;refine SG_q (Rq_assign rfl) rfl ?_;refine SG_nil ?_;refine D_then ?_;refine W_ret ?_;refine D_block_ret ?_;refine D_then_ret ?_;refine D_body1 rfl rfl rfl ?_;exact ⟨by rw [arN, if_pos g3]; rfl, hb0⟩
 ·intro g3
  try simp only [dd] at g3
  refine W_seq (W_region (SG_q (Rq_move rfl) rfl (SG_q (Rq_leq rfl rfl) rfl (SG_q (Rq_assign rfl) rfl (SG_nil (D_then ?_))))));refine W_cond rfl ?_ ?_
  ·intro g6
   try simp only [dd] at g6
   refine W_seq ?_;refine W_region ?_;refine SG_q (Rq_assign rfl) rfl ?_;refine SG_nil ?_;refine D_then ?_;refine W_ret ?_;refine D_block_ret ?_;refine D_then_ret ?_;refine D_body1 rfl rfl rfl ?_;exact ⟨by rw [arN, if_neg (by omega), if_pos g6]; rfl, hb0⟩
  ·intro g6
   try simp only [dd] at g6
   refine W_seq (W_region (SG_q (Rq_move rfl) rfl (SG_q (Rq_leq rfl rfl) rfl (SG_q (Rq_assign rfl) rfl (SG_nil (D_then ?_))))));refine W_cond rfl ?_ ?_
   ·intro g9
    try simp only [dd] at g9
    refine W_seq ?_;refine W_region ?_;refine SG_q (Rq_assign rfl) rfl ?_;refine SG_nil ?_;refine D_then ?_;refine W_ret ?_;refine D_block_ret ?_;refine D_then_ret ?_;refine D_body1 rfl rfl rfl ?_;exact ⟨by rw [arN, if_neg (by omega), if_neg (by omega), if_pos g9]; rfl, hb0⟩
   ·intro g9
    try simp only [dd] at g9
    refine W_skip ?_;refine D_block ?_;refine D_then ?_;refine W_seq ?_;refine W_region ?_;refine SG_q (Rq_assign rfl) rfl ?_;refine SG_nil ?_;refine D_then ?_;refine W_ret ?_;refine D_body1 rfl rfl rfl ?_;exact ⟨by rw [arN, if_neg (by omega), if_neg (by omega), if_neg (by omega)]; rfl, hb0⟩
theorem f75_c (code : Int) (w : World) : Pure Tryz.prog 75 #[.int .u8 code] w (.int .i64 (arN code : Nat)) := by
 have hb0 := Below.refl w.heap.size w;refine calls_of_W Tryz.func75 rfl Tryz.ntmps75 rfl ?_;refine W_seq (W_region (SG_q (Rq_assign rfl) rfl (SG_nil (D_then (W_seq (W_block (W_seq (W_region (SG_q (Rq_move rfl) rfl (SG_q (Rq_leq rfl rfl) rfl (SG_q (Rq_assign rfl) rfl (SG_nil (D_then ?_)))))))))))));refine W_cond rfl ?_ ?_
 ·intro g3
  try simp only [dd] at g3
  refine W_seq ?_;refine W_region ?_;refine SG_q (Rq_assign rfl) rfl ?_;refine SG_nil ?_;refine D_then ?_;refine W_ret ?_;refine D_block_ret ?_;refine D_then_ret ?_;refine D_body1 rfl rfl rfl ?_;exact ⟨by rw [arN, if_pos g3]; rfl, hb0⟩
 ·intro g3
  try simp only [dd] at g3
  refine W_seq (W_region (SG_q (Rq_move rfl) rfl (SG_q (Rq_leq rfl rfl) rfl (SG_q (Rq_assign rfl) rfl (SG_nil (D_then ?_))))));refine W_cond rfl ?_ ?_
  ·intro g6
   try simp only [dd] at g6
   refine W_seq ?_;refine W_region ?_;refine SG_q (Rq_assign rfl) rfl ?_;refine SG_nil ?_;refine D_then ?_;refine W_ret ?_;refine D_block_ret ?_;refine D_then_ret ?_;refine D_body1 rfl rfl rfl ?_;exact ⟨by rw [arN, if_neg (by omega), if_pos g6]; rfl, hb0⟩
  ·intro g6
   try simp only [dd] at g6
   refine W_seq (W_region (SG_q (Rq_move rfl) rfl (SG_q (Rq_leq rfl rfl) rfl (SG_q (Rq_assign rfl) rfl (SG_nil (D_then ?_))))));refine W_cond rfl ?_ ?_
   ·intro g9
    try simp only [dd] at g9
    refine W_seq ?_;refine W_region ?_;refine SG_q (Rq_assign rfl) rfl ?_;refine SG_nil ?_;refine D_then ?_;refine W_ret ?_;refine D_block_ret ?_;refine D_then_ret ?_;refine D_body1 rfl rfl rfl ?_;exact ⟨by rw [arN, if_neg (by omega), if_neg (by omega), if_pos g9]; rfl, hb0⟩
   ·intro g9
    try simp only [dd] at g9
    refine W_skip ?_;refine D_block ?_;refine D_then ?_;refine W_seq ?_;refine W_region ?_;refine SG_q (Rq_assign rfl) rfl ?_;refine SG_nil ?_;refine D_then ?_;refine W_ret ?_;refine D_body1 rfl rfl rfl ?_;exact ⟨by rw [arN, if_neg (by omega), if_neg (by omega), if_neg (by omega)]; rfl, hb0⟩
theorem f89_c (x : Ot) (w : World) : Pure Tryz.prog 89 #[valO x] w (.agg ((opndR x).map valI).toArray) := by
 have hb0 := Below.refl w.heap.size w;refine calls_of_W Tryz.func89 rfl Tryz.ntmps89 rfl ?_;refine W_seq (W_region (SG_box rfl rfl rfl ?_));intro w1 b1 e1 hb1 hz1 hB1
 have hle1 : w.heap.size ≤ b1 := by have := hb0.size; omega
 replace hb0 := btr hb0 hb1;refine SG_alloc Tryz.zeroValue146 rfl rfl ?_;intro w2 b2 e2 hb2 hz2 hB2
 have hle2 : w.heap.size ≤ b2 := by have := hb0.size; omega
 have ne_b1_2 : ¬ b1 = b2 := by have := hB1.lt; omega
 replace hb0 := btr hb0 hb2;replace hB1 := hB1.below hb2;refine SG_nil (D_then (W_seq (W_region (SG_q (Rq_fieldAddr fa76_1 rfl) rfl (SG_q (Rq_loadB (hB1) Tryz.isAgg3 rfl rfl) rfl (SG_q (Rq_fieldAddr fa76_2 rfl) rfl (SG_q (Rq_loadB (hB1) Tryz.isAgg3 rfl rfl) rfl (SG_q (Rq_fieldAddr fa76_3 rfl) rfl (SG_q (Rq_loadB (hB1) Tryz.isAgg3 rfl rfl) rfl (SG_q (Rq_build3 build146_0_1_2 rfl rfl rfl rfl rfl rfl ) rfl (SG_storeW (hB2) rfl rfl rfl rfl Tryz.sizeOf146 rfl rfl ?_)))))))))));intro ws1x7 hchs1x7 hBs1x7;replace hb0 := bchg hb0 hchs1x7 hle2;clear hB2;refine SG_nil (D_then (W_ret (D_bodyR1 rfl rfl (.cellW rfl (hBs1x7) Tryz.isAgg146 Tryz.sizeOf146 rfl) ?_)));exact ⟨rfl, hb0⟩
theorem f88_c {vC vO vR : Value} {C : Co} (x : Ot) {w : World} (hC : SL w vC 3 encC C.ch) (hO : SL w vO 5 encO C.ops) (hR : SL w vR 1 encI C.roots) (hn : C.ch.length ≤ 4611686018427387904) : Pure Tryz.prog 88 #[.agg [vC, vO, vR].toArray, valO x] w (.bool (isNumB C.ch.length x)) := by
 have hb0 := Below.refl w.heap.size w;refine calls_of_W Tryz.func88 rfl Tryz.ntmps88 rfl ?_;refine W_seq (W_region (SG_box rfl rfl rfl ?_));intro w2 b2 e2 hb2 hz2 hB2
 have hle2 : w.heap.size ≤ b2 := by have := hb0.size; omega
 replace hb0 := btr hb0 hb2;refine SG_box rfl rfl rfl ?_;intro w3 b3 e3 hb3 hz3 hB3
 have hle3 : w.heap.size ≤ b3 := by have := hb0.size; omega
 have ne_b2_3 : ¬ b2 = b3 := by have := hB2.lt; omega
 replace hb0 := btr hb0 hb3;replace hB2 := hB2.below hb3;refine SG_q (Rq_assign rfl) rfl (SG_nil (D_then (W_seq (W_seq (W_region (SG_q (Rq_fieldAddr fa76_0 rfl) rfl (SG_q (Rq_loadB (hB3) Tryz.isAgg5 rfl rfl) rfl (SG_nil (D_then (W_block (W_seq (W_region (SG_q (Rq_eql rfl rfl) rfl (SG_q (Rq_assign rfl) rfl (SG_nil (D_then ?_))))))))))))))));refine W_cond rfl ?_ ?_
 ·intro g7
  try simp only [dd] at g7
  refine W_seq (W_region (SG_q (Rq_fieldAddr fa76_4 rfl) rfl (SG_q (Rq_loadB (hB3) Tryz.isAgg3 rfl rfl) rfl (SG_bslice (enc := encI) (val := valI) (os := [.tmp 10]) rfl rfl (MV.cons (MV.nil)) (fun _ => rfl) (fun _ => rfl) Tryz.runUnderlying24 Tryz.sizeOf3 Tryz.zeroValue3 rfl (by decide) (by decide) rfl ?_))));intro w11 v11 b11 e11 hb11 hz11 hob11 hO11
  have hle11 : w.heap.size ≤ b11 := by have := hb0.size; omega
  have lt_b2_11 : b2 < b11 := by have := hB2.lt; omega
  have lt_b3_11 : b3 < b11 := by have := hB3.lt; omega
  replace hb0 := btr hb0 hb11;refine SG_pure rfl Tryz.call71 rfl (f71_c (by simp) (hO11.sl)) ?_;intro w12 hb12;replace hb0 := btr hb0 hb12;refine SG_q (Rq_assign rfl) rfl (SG_nil (D_then (W_ret (D_block_ret (D_then_ret (D_body1 rfl rfl rfl ?_))))));exact ⟨by rw [isNumB, if_pos g7], hb0⟩
 ·intro g7
  try simp only [dd] at g7
  refine W_seq (W_region (SG_q (Rq_eql rfl rfl) rfl (SG_q (Rq_assign rfl) rfl (SG_nil (D_then ?_)))));refine W_cond rfl ?_ ?_
  ·intro g13
   try simp only [dd] at g13
   refine W_seq (W_region (SG_q (Rq_fieldAddr fa76_4 rfl) rfl (SG_q (Rq_loadB (hB3) Tryz.isAgg3 rfl rfl) rfl (SG_bslice (enc := encI) (val := valI) (os := [.tmp 16]) rfl rfl (MV.cons (MV.nil)) (fun _ => rfl) (fun _ => rfl) Tryz.runUnderlying24 Tryz.sizeOf3 Tryz.zeroValue3 rfl (by decide) (by decide) rfl ?_))));intro w17 v17 b17 e17 hb17 hz17 hob17 hO17
   have hle17 : w.heap.size ≤ b17 := by have := hb0.size; omega
   have lt_b2_17 : b2 < b17 := by have := hB2.lt; omega
   have lt_b3_17 : b3 < b17 := by have := hB3.lt; omega
   replace hb0 := btr hb0 hb17;refine SG_pure rfl Tryz.call71 rfl (f71_c (by simp) (hO17.sl)) ?_;intro w18 hb18;replace hb0 := btr hb0 hb18;refine SG_q (Rq_assign rfl) rfl (SG_nil (D_then (W_ret (D_block_ret (D_then_ret (D_body1 rfl rfl rfl ?_))))));exact ⟨by rw [isNumB, if_neg g7, if_pos g13], hb0⟩
  ·intro g13
   try simp only [dd] at g13
   refine W_seq (W_region (SG_q (Rq_eql rfl rfl) rfl (SG_q (Rq_assign rfl) rfl (SG_nil (D_then ?_)))));refine W_cond rfl ?_ ?_
   ·intro g19
    try simp only [dd] at g19
    refine W_seq (W_region (SG_q (Rq_fieldAddr fa26_0 rfl) rfl (SG_q (Rq_loadB (hB2) Tryz.isAgg22 rfl rfl) rfl ?_)))
    first | refine SG_q (Rq_len ((hC).below hb0) Tryz.runUnderlying22 rfl) rfl ?_ | refine SG_q (Rq_len ((hO).below hb0) Tryz.runUnderlying22 rfl) rfl ?_ | refine SG_q (Rq_len ((hR).below hb0) Tryz.runUnderlying22 rfl) rfl ?_
    refine SG_q (Rq_sub rfl rfl (wrap_i64 (by omega) (by omega))) rfl (SG_q (Rq_fieldAddr fa76_4 rfl) rfl (SG_q (Rq_loadB (hB3) Tryz.isAgg3 rfl rfl) rfl (SG_bslice (enc := encI) (val := valI) (os := [.tmp 26]) rfl rfl (MV.cons (MV.nil)) (fun _ => rfl) (fun _ => rfl) Tryz.runUnderlying24 Tryz.sizeOf3 Tryz.zeroValue3 rfl (by decide) (by decide) rfl ?_)));intro w27 v27 b27 e27 hb27 hz27 hob27 hO27
    have hle27 : w.heap.size ≤ b27 := by have := hb0.size; omega
    have lt_b2_27 : b2 < b27 := by have := hB2.lt; omega
    have lt_b3_27 : b3 < b27 := by have := hB3.lt; omega
    replace hb0 := btr hb0 hb27;refine SG_pure rfl Tryz.call71 rfl (f71_c (by simp) (hO27.sl)) ?_;intro w28 hb28;replace hb0 := btr hb0 hb28;refine SG_q (Rq_assign rfl) rfl (SG_nil (D_then (W_ret (D_block_ret (D_then_ret (D_body1 rfl rfl rfl ?_))))));exact ⟨by rw [isNumB, if_neg g7, if_neg g13, if_pos g19], hb0⟩
   ·intro g19
    try simp only [dd] at g19
    refine W_seq (W_region (SG_q (Rq_eql rfl rfl) rfl (SG_q (Rq_assign rfl) rfl (SG_nil (D_then ?_)))));refine W_cond rfl ?_ ?_
    ·intro g29
     try simp only [dd] at g29
     refine W_seq (W_region (SG_q (Rq_fieldAddr fa76_4 rfl) rfl (SG_q (Rq_loadB (hB3) Tryz.isAgg3 rfl rfl) rfl (SG_bslice (enc := encI) (val := valI) (os := [.tmp 32]) rfl rfl (MV.cons (MV.nil)) (fun _ => rfl) (fun _ => rfl) Tryz.runUnderlying24 Tryz.sizeOf3 Tryz.zeroValue3 rfl (by decide) (by decide) rfl ?_))));intro w33 v33 b33 e33 hb33 hz33 hob33 hO33
     have hle33 : w.heap.size ≤ b33 := by have := hb0.size; omega
     have lt_b2_33 : b2 < b33 := by have := hB2.lt; omega
     have lt_b3_33 : b3 < b33 := by have := hB3.lt; omega
     replace hb0 := btr hb0 hb33;refine SG_pure rfl Tryz.call71 rfl (f71_c (by simp) (hO33.sl)) ?_;intro w34 hb34;replace hb0 := btr hb0 hb34;refine SG_q (Rq_assign rfl) rfl (SG_nil (D_then (W_ret (D_block_ret (D_then_ret (D_body1 rfl rfl rfl ?_))))));exact ⟨by rw [isNumB, if_neg g7, if_neg g13, if_neg g19, if_pos g29], hb0⟩
    ·intro g29
     try simp only [dd] at g29
     refine W_skip (D_block (D_then (W_seq (W_region (SG_q (Rq_fieldAddr fa76_4 rfl) rfl (SG_q (Rq_loadB (hB3) Tryz.isAgg3 rfl rfl) rfl (SG_q (Rq_eql rfl rfl) rfl (SG_q (Rq_assign rfl) rfl (SG_nil (D_then (W_ret (D_body1 rfl rfl rfl ?_))))))))))));exact ⟨by rw [isNumB, if_neg g7, if_neg g13, if_neg g19, if_neg g29], hb0⟩
theorem f72_c {vC vO vR : Value} {C : Co} {i : Nat} {x : Ot} {w : World} (hC : SL w vC 3 encC C.ch) (hO : SL w vO 5 encO C.ops) (hR : SL w vR 1 encI C.roots) (hn : C.ch.length ≤ 4611686018427387904) (hi : C.ops[i]? = some x) (hl : C.ops.length ≤ 4611686018427387904) : Pure Tryz.prog 72 #[.agg [vC, vO, vR].toArray, .int .i64 i] w (.bool (isOpB C.ch.length i x)) := by
 have hil := (List.getElem?_eq_some_iff.1 hi).1;have har := arN_le x.code;have hb0 := Below.refl w.heap.size w;refine calls_of_W Tryz.func72 rfl Tryz.ntmps72 rfl ?_;refine W_seq (W_region (SG_box rfl rfl rfl ?_));intro w2 b2 e2 hb2 hz2 hB2
 have hle2 : w.heap.size ≤ b2 := by have := hb0.size; omega
 replace hb0 := btr hb0 hb2;refine SG_q (Rq_assign rfl) rfl (SG_nil (D_then (W_seq (W_region (SG_q (Rq_fieldAddr fa26_1 rfl) rfl (SG_q (Rq_loadB (hB2) Tryz.isAgg23 rfl rfl) rfl (SG_q (Rq_move rfl) rfl ?_)))))))
 first | refine SG_index ((hC).below hb0) Tryz.runUnderlying23 Tryz.sizeOf76 rfl rfl ?_ ?_ rfl ?_ | refine SG_index ((hO).below hb0) Tryz.runUnderlying23 Tryz.sizeOf76 rfl rfl ?_ ?_ rfl ?_ | refine SG_index ((hR).below hb0) Tryz.runUnderlying23 Tryz.sizeOf76 rfl rfl ?_ ?_ rfl ?_
 ·omega
 ·omega
 intro x11 hx11 hc11;have ex11 := Option.some.inj ((hi).symm.trans hx11); subst ex11;refine SG_q (Rq_loadA Tryz.isAgg76 Tryz.sizeOf76 rfl ((hc11)) rfl) rfl (SG_alloc Tryz.zeroValue76 rfl rfl ?_);intro w5 b5 e5 hb5 hz5 hB5
 have hle5 : w.heap.size ≤ b5 := by have := hb0.size; omega
 have ne_b2_5 : ¬ b2 = b5 := by have := hB2.lt; omega
 replace hb0 := btr hb0 hb5;replace hB2 := hB2.below hb5;refine SG_storeW (hB5) rfl rfl rfl rfl Tryz.sizeOf76 rfl rfl ?_;intro ws1x6 hchs1x6 hBs1x6;replace hb0 := bchg hb0 hchs1x6 hle5;replace hB2 := hB2.chg hchs1x6 ne_b2_5;clear hc11;clear hB5;refine SG_nil ?_;refine D_then ?_;refine W_seq ?_;refine W_seq ?_;refine W_region ?_;refine SG_q (Rq_fieldAddr fa76_0 rfl) rfl ?_;refine SG_q (Rq_loadB (hBs1x6) Tryz.isAgg5 rfl rfl) rfl ?_;refine SG_q (Rq_lss rfl rfl) rfl ?_;refine SG_q (Rq_move rfl) rfl ?_;refine SG_or (r := ?r16n1) 4 20 16 rfl ?_ ?_ ?_; rotate_left
 ·intro g16 K16
  have g16' := g16; try simp only [dd] at g16'
  have hm16 := Below.refl (ws1x6).heap.size ws1x6;refine SG_yes 16 rfl rfl g16 (SG_q (Rq_fieldAddr fa76_0 rfl) rfl (SG_yes 16 rfl rfl g16 (SG_q (Rq_loadB (hBs1x6) Tryz.isAgg5 rfl rfl) rfl (SG_yes 16 rfl rfl g16 (SG_q (Rq_gtr rfl rfl) rfl (SG_q (Rq_pick rfl (fun h => absurd (g16.symm.trans h) (by decide)) (fun _ => rfl)) rfl ?_))))));exact K16 _ _ hm16 (by repeat (first | exact Sub.refl | refine Sub.shadow ?_ | refine Sub.same ?_ | refine Sub.push rfl ?_))
 ·intro g16 K16
  have g16' := g16; try simp only [dd] at g16'
  have hm16 := Below.refl (ws1x6).heap.size ws1x6;refine SG_no 16 rfl rfl g16 rfl (SG_no 16 rfl rfl g16 rfl (SG_no 16 rfl rfl g16 rfl (SG_q (Rq_pick rfl (fun _ => rfl) (fun h => absurd (g16.symm.trans h) (by decide))) rfl ?_)));exact K16 _ _ hm16 (by repeat (first | exact Sub.refl | refine Sub.shadow ?_ | refine Sub.same ?_ | refine Sub.push rfl ?_))
 intro wm16 hbm16;replace hb0 := btr hb0 hbm16;replace hB2 := hB2.below hbm16;replace hBs1x6 := hBs1x6.below hbm16
 simp only [List.drop_succ_cons, List.drop_zero]
 refine SG_q (Rq_move rfl) rfl ?_;refine SG_or (r := ?r21n2) 5 26 21 rfl ?_ ?_ ?_; rotate_left
 ·intro g21 K21
  have g21' := g21; try simp only [dd] at g21'
  have hm21 := Below.refl (wm16).heap.size wm16;refine SG_yes 21 rfl rfl g21 ?_
  first | refine SG_q (Rq_loadBW (hB2) Tryz.isAgg26 Tryz.sizeOf26 rfl rfl) rfl ?_ | refine SG_q (Rq_loadBA (hB2) Tryz.isAgg26 Tryz.sizeOf26 rfl rfl rfl) rfl ?_
  refine SG_yes 21 rfl rfl g21 ?_
  first | refine SG_q (Rq_loadBW (hBs1x6) Tryz.isAgg76 Tryz.sizeOf76 rfl rfl) rfl ?_ | refine SG_q (Rq_loadBA (hBs1x6) Tryz.isAgg76 Tryz.sizeOf76 rfl rfl rfl) rfl ?_
  refine SG_yes 21 rfl rfl g21 (SG_pure rfl Tryz.call88 rfl (f88_c _ ((hC).below hb0) ((hO).below hb0) ((hR).below hb0) (by omega)) ?_);intro w24 hb24;replace hb0 := btr hb0 hb24;replace hm21 := btr hm21 hb24;refine SG_yes 21 rfl rfl g21 (SG_q (Rq_not rfl) rfl (SG_q (Rq_pick rfl (fun h => absurd (g21.symm.trans h) (by decide)) (fun _ => rfl)) rfl ?_));exact K21 _ _ hm21 (by repeat (first | exact Sub.refl | refine Sub.shadow ?_ | refine Sub.same ?_ | refine Sub.push rfl ?_))
 ·intro g21 K21
  have g21' := g21; try simp only [dd] at g21'
  have hm21 := Below.refl (wm16).heap.size wm16;refine SG_no 21 rfl rfl g21 rfl (SG_no 21 rfl rfl g21 rfl (SG_no 21 rfl rfl g21 rfl (SG_no 21 rfl rfl g21 rfl (SG_q (Rq_pick rfl (fun _ => rfl) (fun h => absurd (g21.symm.trans h) (by decide))) rfl ?_))));exact K21 _ _ hm21 (by repeat (first | exact Sub.refl | refine Sub.shadow ?_ | refine Sub.same ?_ | refine Sub.push rfl ?_))
 intro wm21 hbm21;replace hb0 := btr hb0 hbm21;replace hB2 := hB2.below hbm21;replace hBs1x6 := hBs1x6.below hbm21
 simp only [List.drop_succ_cons, List.drop_zero]
 refine SG_nil (D_then ?_);refine W_cond rfl ?_ ?_
 ·intro g26
  try simp only [dd] at g26
  refine W_seq ?_;refine W_region ?_;refine SG_q (Rq_assign rfl) rfl ?_;refine SG_nil ?_;refine D_then ?_;refine W_ret ?_;refine D_then_ret ?_;refine D_body1 rfl rfl rfl ?_;exact ⟨by rcases g26 with (h | h) | h <;> simp [isOpB, h], hb0⟩
 ·intro g26
  try simp only [dd] at g26
  refine W_skip ?_;refine D_then ?_;refine W_seq ?_;have hs4 := hb0.size;have l2 := hB2.lt;have l5 := hBs1x6.lt;refine W_any 6 [[], [0], [], [2], [3], []] [det [] ?a4_0n3, det [0] ?a4_1n3, det [] ?a4_2n3, det [2] ?a4_3n3, det [3] ?a4_4n3, frs [] (AllocR [.int .i64 0, .int .i64 0, .int .i64 0] 146)] Tryz.mixed (by kernel_rfl) rfl ⟨det_stab _ _, det_stab _ _, det_stab _ _, det_stab _ _, det_stab _ _, AllocR.stab _ _ _, trivial⟩ ?_ ?_; rotate_left 5
  ·refine Obls_cons ?_ ?_
   ·intro wq hbq
    refine Obl_nil ?_
    first | (refine Ex_q2 (Rq_loadBW ((hBs1x6).below hbq) Tryz.isAgg76 Tryz.sizeOf76 rfl rfl) ?_; first | exact rfl | rfl) | (refine Ex_q2 (Rq_loadBA ((hBs1x6).below hbq) Tryz.isAgg76 Tryz.sizeOf76 rfl rfl rfl) ?_; first | exact rfl | rfl)
   refine Obls_cons ?_ ?_
   ·intro wq hbq
    refine Obl_det rfl rfl (Obl_nil ?_)
    refine Ex_call rfl Tryz.call89 (fn_det2 (f89_c _ _) ?_); first | exact rfl | rfl
   refine Obls_cons ?_ ?_
   ·intro wq hbq
    refine Obl_nil ?_
    refine Ex_q2 (Rq_fieldAddr fa76_0 rfl) ?_; first | exact rfl | rfl
   refine Obls_cons ?_ ?_
   ·intro wq hbq
    refine Obl_det rfl rfl (Obl_nil ?_)
    refine Ex_q2 (Rq_loadB ((hBs1x6).below hbq) Tryz.isAgg5 rfl rfl) ?_; first | exact rfl | rfl
   refine Obls_cons ?_ ?_
   ·intro wq hbq
    refine Obl_det rfl rfl (Obl_nil ?_)
    refine Ex_call rfl Tryz.call90 (fn_det2 (f90_c _ _) ?_); first | exact rfl | rfl
   refine Obls_cons ?_ ?_
   ·intro wq hbq
    refine Obl_nil ?_;exact Ex_alloc Tryz.zeroValue146 rfl
   exact Obls_nil
  ·intro wa4 hba4
   replace hb0 := btr hb0 hba4;refine Fin_det rfl (Fin_det rfl (Fin_det rfl (Fin_det rfl (Fin_det rfl (Fin_frs rfl ?_))))); intro v6 lo6 hi6 hR6 hlB6 hlh6 hhw6 hdj6;refine Fin_nil ?_
   simp only [List.drop_succ_cons, List.drop_zero]
   obtain ⟨b6, rfl, hB6, hb6l, hb6h⟩ := hR6
   have hle6 : w.heap.size ≤ b6 := by omega
   refine SG_storeW (hB6) rfl rfl rfl rfl Tryz.sizeOf146 rfl rfl ?_;intro ws4x6 hchs4x6 hBs4x6;replace hb0 := bchg hb0 hchs4x6 hle6;clear hB6;refine SG_q (Rq_assign rfl) rfl ?_;refine SG_nil ?_;refine D_then ?_;refine W_seq ?_;refine W_region ?_;refine SG_q (Rq_move rfl) rfl ?_;refine SG_q (Rq_sub rfl rfl (wrap_i64 (by omega) (by omega))) rfl ?_;refine SG_q (Rq_move rfl) rfl ?_;refine SG_q (Rq_asliceH Tryz.runUnderlying146 Tryz.sizeOf3 rfl rfl (by omega) (by omega)) rfl ?_;refine SG_pure rfl Tryz.call71 rfl (f71_c (Nat.le_trans (List.length_take_le' _ _) (show 3 ≤ _ by decide)) (SL.of_blkH (val := valI) (xs := opndR x) (hBs4x6) (fun _ => rfl) rfl har har)) ?_;intro w36 hb36;replace hb0 := btr hb0 hb36;replace hBs4x6 := hBs4x6.below hb36;refine SG_q (Rq_move rfl) rfl ?_;refine SG_and (r := ?r37n4) 4 41 37 rfl ?_ ?_ ?_; rotate_left
   ·intro g37 K37
    have g37' := g37; try simp only [dd] at g37'
    have hm37 := Below.refl (w36).heap.size w36;refine SG_yes 37 rfl rfl g37 ?_;refine SG_q (Rq_move rfl) rfl ?_;refine SG_yes 37 rfl rfl g37 ?_;refine SG_q (Rq_asliceL Tryz.runUnderlying146 Tryz.sizeOf3 rfl rfl (by omega) (by omega)) rfl ?_;refine SG_yes 37 rfl rfl g37 ?_;refine SG_pure rfl Tryz.call71 rfl (f71_c (Nat.le_trans (by rw [List.length_drop]; exact Nat.sub_le _ _) (show 3 ≤ _ by decide)) (SL.of_blkL (val := valI) (xs := opndR x) (hBs4x6) (fun _ => rfl) rfl rfl har)) ?_;intro w40 hb40;replace hb0 := btr hb0 hb40;replace hm37 := btr hm37 hb40;refine SG_q (Rq_pick rfl (fun _ => rfl) (fun h => absurd (g37.symm.trans h) (by decide))) rfl ?_;exact K37 _ _ hm37 (by repeat (first | exact Sub.refl | refine Sub.shadow ?_ | refine Sub.same ?_ | refine Sub.push rfl ?_))
   ·intro g37 K37
    have g37' := g37; try simp only [dd] at g37'
    have hm37 := Below.refl (w36).heap.size w36;refine SG_no 37 rfl rfl g37 rfl (SG_no 37 rfl rfl g37 rfl (SG_no 37 rfl rfl g37 rfl (SG_q (Rq_pick rfl (fun h => absurd (g37.symm.trans h) (by decide)) (fun _ => rfl)) rfl ?_)));exact K37 _ _ hm37 (by repeat (first | exact Sub.refl | refine Sub.shadow ?_ | refine Sub.same ?_ | refine Sub.push rfl ?_))
   intro wm37 hbm37;replace hb0 := btr hb0 hbm37
   simp only [List.drop_succ_cons, List.drop_zero]
   refine SG_q (Rq_assign rfl) rfl ?_;refine SG_nil ?_;refine D_then ?_;refine W_ret ?_;refine D_body1 rfl rfl rfl ?_;exact ⟨by rw [isOpB, show (decide (x.code < 1) || decide (17 < x.code) || !isNumB C.ch.length x) = false by simpa using g26]; rfl, hb0⟩
theorem f85_c {g : FuncId} {caps : List Value} {p : Ch → Bool} {v : Value} {xs : List Ch} {w : World} (hlen : xs.length ≤ 4611686018427387904) (hs : SL w v 3 encC xs) (hg : ∀ args w, (callFunc g args).run Tryz.prog w = .ok (.enter g args) w)
  (hp : ∀ x ∈ xs, ∀ w', Below w.heap.size w w' → Pure Tryz.prog g (valC x :: caps).toArray w' (.bool (p x))) : Pure Tryz.prog 85 #[v, .func (.func g) #[] caps.toArray] w (.int .i64 (idx p xs)) := by
 have hb0 := Below.refl w.heap.size w;refine calls_of_W Tryz.func85 rfl Tryz.ntmps85 rfl ?_;refine W_seq (W_region (SG_q (Rq_assign rfl) rfl (SG_nil (D_then (W_seq (W_seq (W_region (SG_q (Rq_move rfl) rfl (SG_q (Rq_len ((hs).below hb0) Tryz.runUnderlying22 rfl) rfl (SG_q (Rq_move rfl) rfl (SG_nil (D_then (W_block ?_)))))))))))));refine W_loop (α := Nat) (fun x => [(0, v), (1, .func (.func g) #[] caps.toArray), (7, .int .i64 xs.length), (8, .int .i64 x)]) (fun x w' => Below w.heap.size w w' ∧ x ≤ xs.length ∧ ∀ (j : Nat) (z : Ch), j < x → xs[j]? = some z → p z = false) (fun x => xs.length - x) (0) (by repeat (first | exact Sub.nil | refine Sub.cons rfl ?_)) ⟨hb0, Nat.zero_le _, fun j z hj => absurd hj (Nat.not_lt_zero j)⟩ ?_;clear hb0;rintro x wl0 ⟨hb0, hx, hno⟩;refine W_seq (W_region (SG_q (Rq_lss rfl rfl) rfl (SG_nil (D_then (W_seq ?_)))));refine W_cond rfl ?_ ?_
 ·intro g9
  try simp only [dd] at g9
  refine W_skip (D_then (W_seq (W_block (W_seq (W_region (SG_q (Rq_move rfl) rfl (SG_q (Rq_assign rfl) rfl (SG_nil (D_then (W_seq (W_region (SG_q (Rq_move rfl) rfl (SG_q (Rq_move rfl) rfl (SG_q (Rq_move rfl) rfl ?_))))))))))))));refine SG_index ((hs).below hb0) Tryz.runUnderlying22 Tryz.sizeOf84 rfl rfl ?_ ?_ rfl ?_
  ·omega
  ·omega
  intro x14 hx14 hc14;refine SG_q (Rq_loadA Tryz.isAgg84 Tryz.sizeOf84 rfl ((hc14)) rfl) rfl (SG_purev rfl rfl rfl hg rfl (hp x14 (List.mem_of_getElem? hx14) _ hb0) ?_);intro w16 hb16;replace hb0 := btr hb0 hb16;refine SG_nil (D_then ?_);refine W_cond rfl ?_ ?_
  ·intro g16
   try simp only [dd] at g16
   refine W_seq (W_region (SG_q (Rq_move rfl) rfl (SG_q (Rq_assign rfl) rfl (SG_nil (D_then (W_ret (D_block_ret (D_then_ret (D_loop_ret ?_)))))))));refine D_block_ret (D_then_ret (D_body1 rfl rfl rfl ?_));exact ⟨by rw [idx_found hno hx14 g16], hb0⟩
  ·intro g16
   try simp only [dd] at g16
   refine W_skip (D_block (D_then (W_region (SG_q (Rq_add rfl rfl (wrap_i64 (by omega) (by omega))) rfl (SG_q (Rq_move rfl) rfl (SG_nil ?_))))));refine D_loop (x + 1) (by repeat (first | exact Sub.nil | refine Sub.cons rfl ?_)) ⟨hb0, by omega, no_succ hno hx14 g16⟩ (by omega)
 ·intro g9
  try simp only [dd] at g9
  refine W_exit (D_then_exit (D_loop_exit ?_));refine D_block_exit (D_then (W_seq (W_region (SG_q (Rq_assign rfl) rfl (SG_nil (D_then (W_ret (D_body1 rfl rfl rfl ?_))))))));exact ⟨by rw [idx_none (no_all hno (by omega))], hb0⟩
theorem f69_c {g : FuncId} {caps : List Value} {p : Ch → Bool} {v : Value} {xs : List Ch} {w : World} (hlen : xs.length ≤ 4611686018427387904) (hs : SL w v 3 encC xs) (hg : ∀ args w, (callFunc g args).run Tryz.prog w = .ok (.enter g args) w)
  (hp : ∀ x ∈ xs, ∀ w', Below w.heap.size w w' → Pure Tryz.prog g (valC x :: caps).toArray w' (.bool (p x))) : Pure Tryz.prog 69 #[v, .func (.func g) #[] caps.toArray] w (.bool (xs.any p)) := by
 have hb0 := Below.refl w.heap.size w;refine calls_of_W Tryz.func69 rfl Tryz.ntmps69 rfl ?_;refine W_seq (W_region (SG_q (Rq_assign rfl) rfl (SG_nil (D_then (W_seq (W_region (SG_q (Rq_move rfl) rfl (SG_q (Rq_move rfl) rfl (SG_pure rfl Tryz.call85 rfl (f85_c hlen ((hs).below hb0) hg (fun x hx w' hb => hp x hx w' (btr hb0 hb))) ?_)))))))));intro w7 hb7;replace hb0 := btr hb0 hb7;refine SG_q (Rq_geq rfl rfl) rfl (SG_q (Rq_assign rfl) rfl (SG_nil (D_then (W_ret (D_body1 rfl rfl rfl ?_)))));exact ⟨by rw [idx_any], hb0⟩
theorem f55_c {vC vO vR : Value} {C : Co} {w : World} (hC : SL w vC 3 encC C.ch) (hO : SL w vO 5 encO C.ops) (hR : SL w vR 1 encI C.roots) (h1 : C.ch.length ≤ 4611686018427387904) (h2 : C.ops.length ≤ 4611686018427387904) (h3 : C.roots.length ≤ 4611686018427387904) : Pure Tryz.prog 55 #[.agg [vC, vO, vR].toArray] w (.int .i64 (checkR C)) := by
 have hb0 := Below.refl w.heap.size w;refine calls_of_W Tryz.func55 rfl Tryz.ntmps55 rfl ?_;refine W_seq (W_region (SG_box rfl rfl rfl ?_));intro w1 b1 e1 hb1 hz1 hB1
 have hle1 : w.heap.size ≤ b1 := by have := hb0.size; omega
 replace hb0 := btr hb0 hb1;refine SG_q (Rq_assign rfl) rfl (SG_nil (D_then (W_seq (W_block (W_seq (W_seq (W_region (SG_q (Rq_fieldAddr fa26_0 rfl) rfl (SG_q (Rq_loadB (hB1) Tryz.isAgg22 rfl rfl) rfl ?_)))))))))
 first | refine SG_q (Rq_len ((hC).below hb0) Tryz.runUnderlying22 rfl) rfl ?_ | refine SG_q (Rq_len ((hO).below hb0) Tryz.runUnderlying22 rfl) rfl ?_ | refine SG_q (Rq_len ((hR).below hb0) Tryz.runUnderlying22 rfl) rfl ?_
 refine SG_q (Rq_gtr rfl rfl) rfl ?_;refine SG_q (Rq_assign rfl) rfl ?_;refine SG_nil ?_;refine D_then ?_;refine W_or (r := ?rc4n1) rfl ?_ ?_; rotate_left
 ·intro g4 K4
  try simp only [dd] at g4
  refine W_seq (W_region (SG_q (Rq_fieldAddr fa26_1 rfl) rfl (SG_q (Rq_loadB (hB1) Tryz.isAgg23 rfl rfl) rfl ?_)))
  first | refine SG_q (Rq_len ((hC).below hb0) Tryz.runUnderlying23 rfl) rfl ?_ | refine SG_q (Rq_len ((hO).below hb0) Tryz.runUnderlying23 rfl) rfl ?_ | refine SG_q (Rq_len ((hR).below hb0) Tryz.runUnderlying23 rfl) rfl ?_
  refine SG_q (Rq_gtr rfl rfl) rfl ?_;refine SG_q (Rq_assign rfl) rfl ?_;refine SG_nil ?_;refine D_then ?_;refine W_or (r := ?rc4n2) rfl ?_ ?_; rotate_left
  ·intro g4i K4i
   try simp only [dd] at g4i
   refine W_region (SG_q (Rq_fieldAddr fa26_2 rfl) rfl (SG_q (Rq_loadB (hB1) Tryz.isAgg24 rfl rfl) rfl ?_))
   first | refine SG_q (Rq_len ((hC).below hb0) Tryz.runUnderlying24 rfl) rfl ?_ | refine SG_q (Rq_len ((hO).below hb0) Tryz.runUnderlying24 rfl) rfl ?_ | refine SG_q (Rq_len ((hR).below hb0) Tryz.runUnderlying24 rfl) rfl ?_
   refine SG_q (Rq_gtr rfl rfl) rfl (SG_q (Rq_assign rfl) rfl (SG_nil ?_));exact K4i _ (by repeat (first | exact Sub.refl | refine Sub.shadow ?_ | refine Sub.same ?_ | refine Sub.push rfl ?_))
  exact K4 _ (by repeat (first | exact Sub.refl | refine Sub.shadow ?_ | refine Sub.same ?_ | refine Sub.push rfl ?_))
 refine D_then ?_;refine W_cond rfl ?_ ?_
 ·intro g4
  try simp only [dd] at g4
  refine W_seq (W_region (SG_q (Rq_assign rfl) rfl (SG_nil (D_then (W_ret (D_block_ret (D_then_ret (D_body1 rfl rfl rfl ?_))))))));exact ⟨by rw [checkR, if_pos (by omega)], hb0⟩
 ·intro g4
  try simp only [dd] at g4
  refine W_seq (W_region (SG_q (Rq_fieldAddr fa26_0 rfl) rfl (SG_q (Rq_loadB (hB1) Tryz.isAgg22 rfl rfl) rfl (SG_pure rfl Tryz.call69 rfl (f69_c (caps := []) h1 ((hC).below hb0) Tryz.call70 (fun x hx w' hb => f70_c x w')) ?_))));intro w20 hb20;replace hb0 := btr hb0 hb20;replace hB1 := hB1.below hb20;refine SG_q (Rq_assign rfl) rfl (SG_nil (D_then ?_));refine W_cond rfl ?_ ?_
  ·intro g17
   try simp only [dd] at g17
   refine W_seq (W_region (SG_q (Rq_assign rfl) rfl (SG_nil (D_then (W_ret (D_block_ret (D_then_ret (D_body1 rfl rfl rfl ?_))))))));exact ⟨by rw [checkR, if_neg (by omega), if_pos g17], hb0⟩
  ·intro g17
   try simp only [dd] at g17
   refine W_seq (W_region (SG_q (Rq_fieldAddr fa26_1 rfl) rfl (SG_q (Rq_loadB (hB1) Tryz.isAgg23 rfl rfl) rfl ?_)))
   first | refine SG_q (Rq_len ((hC).below hb0) Tryz.runUnderlying23 rfl) rfl ?_ | refine SG_q (Rq_len ((hO).below hb0) Tryz.runUnderlying23 rfl) rfl ?_ | refine SG_q (Rq_len ((hR).below hb0) Tryz.runUnderlying23 rfl) rfl ?_
   refine SG_q (Rq_sub rfl rfl (wrap_i64 (by omega) (by omega))) rfl (SG_q (Rq_fieldAddr fa26_2 rfl) rfl (SG_q (Rq_loadB (hB1) Tryz.isAgg24 rfl rfl) rfl (SG_pure rfl Tryz.call71 rfl (f71_c h3 ((hR).below hb0)) ?_)));intro w28 hb28;replace hb0 := btr hb0 hb28;replace hB1 := hB1.below hb28;refine SG_q (Rq_not rfl) rfl (SG_q (Rq_assign rfl) rfl (SG_nil (D_then ?_)));refine W_cond rfl ?_ ?_
   ·intro g21
    try simp only [dd] at g21
    refine W_seq (W_region (SG_q (Rq_assign rfl) rfl (SG_nil (D_then (W_ret (D_block_ret (D_then_ret (D_body1 rfl rfl rfl ?_))))))));exact ⟨by rw [checkR, if_neg (by omega), if_neg (by simp [g17]), if_pos g21], hb0⟩
   ·intro g21
    try simp only [dd] at g21
    refine W_skip (D_block (D_then (W_seq (W_seq (W_region (SG_q (Rq_fieldAddr fa26_1 rfl) rfl (SG_q (Rq_loadB (hB1) Tryz.isAgg23 rfl rfl) rfl ?_)))))))
    first | refine SG_q (Rq_len ((hC).below hb0) Tryz.runUnderlying23 rfl) rfl ?_ | refine SG_q (Rq_len ((hO).below hb0) Tryz.runUnderlying23 rfl) rfl ?_ | refine SG_q (Rq_len ((hR).below hb0) Tryz.runUnderlying23 rfl) rfl ?_
    refine SG_q (Rq_move rfl) rfl (SG_nil (D_then (W_block ?_)));refine W_loop (α := Nat) (fun x => [(33, .int .i64 x), (32, .int .i64 C.ops.length), (1, .pointer (some ⟨b1, 0, none⟩))]) (fun x w' => Below w.heap.size w w' ∧ Blk w' b1 [vC, vO, vR] 26 ∧ x ≤ C.ops.length ∧ ∀ (j : Nat) (y : Ot), j < x → C.ops[j]? = some y → isOpB C.ch.length j y = true) (fun x => C.ops.length - x) (0) (by repeat (first | exact Sub.nil | refine Sub.cons rfl ?_)) ⟨hb0, hB1, Nat.zero_le _, fun j y hj => absurd hj (Nat.not_lt_zero j)⟩ ?_;clear hb0;clear hB1;rintro x wl0 ⟨hb0, hB1, hx, hall⟩;refine W_seq (W_region (SG_q (Rq_lss rfl rfl) rfl (SG_nil (D_then (W_seq ?_)))));refine W_cond rfl ?_ ?_
    ·intro g34
     try simp only [dd] at g34
     have hxl : x < C.ops.length := by omega
     have hel := List.getElem?_eq_getElem hxl;refine W_skip (D_then (W_seq (W_block (W_seq (W_region (SG_q (Rq_move rfl) rfl (SG_q (Rq_assign rfl) rfl (SG_nil (D_then (W_seq (W_region ?_)))))))))))
     first | refine SG_q (Rq_loadBW (hB1) Tryz.isAgg26 Tryz.sizeOf26 rfl rfl) rfl ?_ | refine SG_q (Rq_loadBA (hB1) Tryz.isAgg26 Tryz.sizeOf26 rfl rfl rfl) rfl ?_
     refine SG_q (Rq_move rfl) rfl (SG_pure rfl Tryz.call72 rfl (f72_c ((hC).below hb0) ((hO).below hb0) ((hR).below hb0) h1 hel h2) ?_);intro w38 hb38;replace hb0 := btr hb0 hb38;replace hB1 := hB1.below hb38;refine SG_q (Rq_not rfl) rfl (SG_nil (D_then ?_));refine W_cond rfl ?_ ?_
     ·intro g39
      try simp only [dd] at g39
      refine W_seq ?_;refine W_region ?_;refine SG_q (Rq_assign rfl) rfl ?_;refine SG_nil ?_;refine D_then ?_;refine W_ret ?_;refine D_block_ret ?_;refine D_then_ret ?_;refine D_loop_ret ?_;refine D_block_ret ?_;refine D_then_ret ?_;refine D_body1 rfl rfl rfl ?_;exact ⟨by rw [checkR, if_neg (by omega), if_neg (by simp [g17]), if_neg (by simp [g21]), if_neg (fun h => by have := opsB_iff.1 h x _ hel; rw [g39] at this; cases this)], hb0⟩
     ·intro g39
      try simp only [dd] at g39
      refine W_skip ?_;refine D_block ?_;refine D_then ?_;refine W_region ?_;refine SG_q (Rq_add rfl rfl (wrap_i64 (by omega) (by omega))) rfl ?_;refine SG_q (Rq_move rfl) rfl ?_;refine SG_nil ?_;refine D_loop (x + 1) (by repeat (first | exact Sub.nil | refine Sub.cons rfl ?_)) ⟨hb0, hB1, by omega, fun j y hj hy => (Nat.lt_succ_iff_lt_or_eq.1 hj).elim (fun h => hall j y h hy) (fun h => by subst h; rw [hel] at hy; cases hy; exact g39)⟩ (by omega)
    ·intro g34
     try simp only [dd] at g34
     refine W_exit ?_;refine D_then_exit ?_;refine D_loop_exit ?_;refine D_block_exit ?_;refine D_then ?_;refine W_seq ?_;refine W_region ?_;refine SG_q (Rq_assign rfl) rfl ?_;refine SG_nil ?_;refine D_then ?_;refine W_ret ?_;refine D_body1 rfl rfl rfl ?_;exact ⟨by rw [checkR, if_neg (by omega), if_neg (by simp [g17]), if_neg (by simp [g21]), if_pos (opsB_iff.2 fun j y hy => hall j y (by have := (List.getElem?_eq_some_iff.1 hy).1; omega) hy)], hb0⟩
end Go.Proofs.YtphmoebiobjfhaaGreat
