/- Walks of functions, printed by a program of the author. -/
import Derived.Test.YtphmoebiobjfhaaGreatT3
set_option linter.all false
namespace Go.Proofs.YtphmoebiobjfhaaGreat
open Go Go.Mi Go.RowKit
theorem fa92_1 (w : World) (a : Addr) : (Instr.fieldAt 92 (.pointer (some a)) 1).run Tryz.prog w = .ok (.pointer (some (a.add 3))) w := by kernel_rfl
theorem fa92_3 (w : World) (a : Addr) : (Instr.fieldAt 92 (.pointer (some a)) 3).run Tryz.prog w = .ok (.pointer (some (a.add 5))) w := by kernel_rfl
theorem build76_0_1 (v u : Value) (w : World) (hv : one1 v = true) (hu : one1 u = true) : (Instr.build 76 #[(0, v), (1, u)]).run Tryz.prog w = .ok (.agg [v, u, (.int .i64 0), (.int .i64 0), (.int .i64 0)].toArray) w := by
 unfold Instr.build
 simp [Sem.run_bind, Tryz.zeroValue76, Tryz.runUnderlying76, Tryz.sizeOf3, Tryz.sizeOf5, Instr.fill, cells_one hv, cells_one hu, Result.andThen, cells_agg]
theorem build119_ (w : World) : (Instr.build 119 #[]).run Tryz.prog w = .ok (.agg [(.bool false), (.int .i64 0), (.int .u8 0), (.int .i64 0), (.int .i64 0), (.int .i64 0), (.int .i64 0)].toArray) w := by
 unfold Instr.build
 simp [Sem.run_bind, Tryz.zeroValue119, Tryz.runUnderlying119, Tryz.sizeOf3, Tryz.sizeOf4, Tryz.sizeOf76, Instr.fill, Result.andThen, cells_agg]
theorem f93_c {vC vO vR vU vT vM : Value} {ops : List Ot} {bs TS : Nat} {w : World} (hSt : Blk w bs [vC, vO, vR, vU, vT, vM] TS) (hO : SL w vO 5 encO ops) {tr : List Bool} (hT : SL w vT 1 encB tr) (htl : tr.length = ops.length) (hW : ∀ j : Int, 0 ≤ j → j < ops.length → Bd ops.length (getO ops j)) {i : Int} (hi0 : 0 ≤ i) (hi1 : i < ops.length) {x : Ot} (hx : getO ops i = x) : Pure Tryz.prog 93 #[.pointer (some ⟨bs, 0, none⟩), .int .i64 i] w (valOc (pickR ops x)) := by
 have hxi := getO_some hi0 hi1;have hbd := hW i hi0 hi1;rw [hx] at hxi hbd;have hxa := getO_some hbd.a0 hbd.a1;have hxb := getO_some hbd.b0 hbd.b1;have hxc := getO_some hbd.c0 hbd.c1;have hba := hbd.a0;have hba1 := hbd.a1;have hbb := hbd.b0;have hbb1 := hbd.b1;have hbc := hbd.c0;have hbc1 := hbd.c1;have hb0 := Below.refl w.heap.size w;refine calls_of_W Tryz.func93 rfl Tryz.ntmps93 rfl ?_;refine W_seq (W_region (SG_alloc Tryz.zeroValue119 rfl rfl ?_));intro w4 b4 e4 hb4 hz4 hB4
 have hle4 : w.heap.size ≤ b4 := by have := hb0.size; omega
 replace hb0 := btr hb0 hb4;refine SG_nil (D_then (W_seq (W_region (SG_q (Rq_move rfl) rfl (SG_q (Rq_move rfl) rfl (SG_pure rfl Tryz.call116 rfl (f116_c ((hSt).below hb0) ((hO).below hb0) hW hi0 hi1 hx _) ?_))))));intro w11 hb11;replace hb0 := btr hb0 hb11;replace hB4 := hB4.below hb11;refine SG_q (Rq_move rfl) rfl (SG_q (Rq_extract rfl rfl) rfl (SG_q (Rq_extract rfl rfl) rfl (SG_q (Rq_extract rfl rfl) rfl (SG_alloc Tryz.zeroValue76 rfl rfl ?_))));intro w5 b5 e5 hb5 hz5 hB5
 have hle5 : w.heap.size ≤ b5 := by have := hb0.size; omega
 have ne_b4_5 : ¬ b4 = b5 := by have := hB4.lt; omega
 replace hb0 := btr hb0 hb5;replace hB4 := hB4.below hb5;refine SG_storeW (hB5) rfl rfl rfl rfl Tryz.sizeOf76 rfl rfl ?_;intro ws1x8 hchs1x8 hBs1x8;replace hb0 := bchg hb0 hchs1x8 hle5;replace hB4 := hB4.chg hchs1x8 ne_b4_5;clear hB5;refine SG_q (Rq_assign rfl) rfl (SG_q (Rq_assign rfl) rfl (SG_nil (D_then (W_seq (W_block (W_seq (W_region (SG_q (Rq_move rfl) rfl (SG_q (Rq_not rfl) rfl (SG_q (Rq_assign rfl) rfl (SG_nil (D_then ?_))))))))))));refine W_cond rfl ?_ ?_
 ·intro g15
  try simp only [dd] at g15
  refine W_seq ?_;refine W_region ?_;refine SG_q (Rq_build0 build119_) rfl ?_;refine SG_storeW (hB4) rfl rfl rfl rfl Tryz.sizeOf119 rfl rfl ?_;intro ws3x1 hchs3x1 hBs3x1;replace hb0 := bchg hb0 hchs3x1 hle4;clear hB4;refine SG_nil ?_;refine D_then ?_;refine W_ret ?_;refine D_block_ret ?_;refine D_then_ret ?_;refine D_bodyR1 rfl rfl (.cellW rfl (hBs3x1) Tryz.isAgg119 Tryz.sizeOf119 rfl) ?_;exact ⟨by rw [pickR, if_pos (by simpa using g15)]; rfl, hb0⟩
 ·intro g15
  try simp only [dd] at g15
  refine W_seq (W_region (SG_q (Rq_move rfl) rfl (SG_q (Rq_assign rfl) rfl (SG_nil (D_then ?_)))));refine W_cond rfl ?_ ?_
  ·intro g19
   try simp only [dd] at g19
   refine W_seq ?_;refine W_region ?_;refine SG_q (Rq_fieldAddr fa76_2 rfl) rfl ?_;refine SG_q (Rq_loadB (hBs1x8) Tryz.isAgg3 rfl rfl) rfl ?_;refine SG_pure rfl Tryz.call115 rfl (f115_c _ _) ?_;intro w23 hb23;replace hb0 := btr hb0 hb23;replace hB4 := hB4.below hb23;refine SG_storeW (hB4) rfl rfl rfl rfl Tryz.sizeOf119 rfl rfl ?_;intro ws5x3 hchs5x3 hBs5x3;replace hb0 := bchg hb0 hchs5x3 hle4;clear hB4;refine SG_nil ?_;refine D_then ?_;refine W_ret ?_;refine D_block_ret ?_;refine D_then_ret ?_;refine D_bodyR1 rfl rfl (.cellW rfl (hBs5x3) Tryz.isAgg119 Tryz.sizeOf119 rfl) ?_;exact ⟨by rw [pickR, if_neg (by simpa using g15), if_pos g19]; rfl, hb0⟩
  ·intro g19
   try simp only [dd] at g19
   refine W_skip ?_;refine D_block ?_;refine D_then ?_;refine W_seq ?_;refine W_region ?_;refine SG_q (Rq_fieldAddr fa76_3 rfl) rfl ?_;refine SG_q (Rq_loadB (hBs1x8) Tryz.isAgg3 rfl rfl) rfl ?_;refine SG_pure rfl Tryz.call115 rfl (f115_c _ _) ?_;intro w26 hb26;replace hb0 := btr hb0 hb26;replace hB4 := hB4.below hb26;refine SG_storeW (hB4) rfl rfl rfl rfl Tryz.sizeOf119 rfl rfl ?_;intro ws6x3 hchs6x3 hBs6x3;replace hb0 := bchg hb0 hchs6x3 hle4;clear hB4;refine SG_nil ?_;refine D_then ?_;refine W_ret ?_;refine D_bodyR1 rfl rfl (.cellW rfl (hBs6x3) Tryz.isAgg119 Tryz.sizeOf119 rfl) ?_;exact ⟨by rw [pickR, if_neg (by simpa using g15), if_neg (by simpa using g19)]; rfl, hb0⟩
theorem f94_c {vC vO vR vU vT vM : Value} {ops : List Ot} {bs TS : Nat} {w : World} (hSt : Blk w bs [vC, vO, vR, vU, vT, vM] TS) (hO : SL w vO 5 encO ops) {tr : List Bool} (hT : SL w vT 1 encB tr) (htl : tr.length = ops.length) (hW : ∀ j : Int, 0 ≤ j → j < ops.length → Bd ops.length (getO ops j)) {i : Int} (hi0 : 0 ≤ i) (hi1 : i < ops.length) {x : Ot} (hx : getO ops i = x) : Pure Tryz.prog 94 #[.pointer (some ⟨bs, 0, none⟩), .int .i64 i] w (valOc (andR ops x)) := by
 have hxi := getO_some hi0 hi1;have hbd := hW i hi0 hi1;rw [hx] at hxi hbd;have hxa := getO_some hbd.a0 hbd.a1;have hxb := getO_some hbd.b0 hbd.b1;have hxc := getO_some hbd.c0 hbd.c1;have hba := hbd.a0;have hba1 := hbd.a1;have hbb := hbd.b0;have hbb1 := hbd.b1;have hbc := hbd.c0;have hbc1 := hbd.c1;have hb0 := Below.refl w.heap.size w;refine calls_of_W Tryz.func94 rfl Tryz.ntmps94 rfl ?_;refine W_seq (W_region (SG_alloc Tryz.zeroValue119 rfl rfl ?_));intro w4 b4 e4 hb4 hz4 hB4
 have hle4 : w.heap.size ≤ b4 := by have := hb0.size; omega
 replace hb0 := btr hb0 hb4;refine SG_nil (D_then (W_seq (W_region (SG_q (Rq_move rfl) rfl (SG_q (Rq_move rfl) rfl (SG_pure rfl Tryz.call116 rfl (f116_c ((hSt).below hb0) ((hO).below hb0) hW hi0 hi1 hx _) ?_))))));intro w11 hb11;replace hb0 := btr hb0 hb11;replace hB4 := hB4.below hb11;refine SG_q (Rq_move rfl) rfl (SG_q (Rq_extract rfl rfl) rfl (SG_q (Rq_extract rfl rfl) rfl (SG_q (Rq_extract rfl rfl) rfl (SG_alloc Tryz.zeroValue76 rfl rfl ?_))));intro w5 b5 e5 hb5 hz5 hB5
 have hle5 : w.heap.size ≤ b5 := by have := hb0.size; omega
 have ne_b4_5 : ¬ b4 = b5 := by have := hB4.lt; omega
 replace hb0 := btr hb0 hb5;replace hB4 := hB4.below hb5;refine SG_storeW (hB5) rfl rfl rfl rfl Tryz.sizeOf76 rfl rfl ?_;intro ws1x8 hchs1x8 hBs1x8;replace hb0 := bchg hb0 hchs1x8 hle5;replace hB4 := hB4.chg hchs1x8 ne_b4_5;clear hB5;refine SG_q (Rq_assign rfl) rfl (SG_q (Rq_assign rfl) rfl (SG_nil (D_then (W_seq (W_block (W_seq (W_region (SG_q (Rq_move rfl) rfl (SG_q (Rq_not rfl) rfl (SG_q (Rq_assign rfl) rfl (SG_nil (D_then ?_))))))))))));refine W_cond rfl ?_ ?_
 ·intro g15
  try simp only [dd] at g15
  refine W_seq ?_;refine W_region ?_;refine SG_q (Rq_build0 build119_) rfl ?_;refine SG_storeW (hB4) rfl rfl rfl rfl Tryz.sizeOf119 rfl rfl ?_;intro ws3x1 hchs3x1 hBs3x1;replace hb0 := bchg hb0 hchs3x1 hle4;clear hB4;refine SG_nil ?_;refine D_then ?_;refine W_ret ?_;refine D_block_ret ?_;refine D_then_ret ?_;refine D_bodyR1 rfl rfl (.cellW rfl (hBs3x1) Tryz.isAgg119 Tryz.sizeOf119 rfl) ?_;exact ⟨by rw [andR, if_pos (by simpa using g15)]; rfl, hb0⟩
 ·intro g15
  try simp only [dd] at g15
  refine W_seq (W_region (SG_q (Rq_move rfl) rfl (SG_q (Rq_assign rfl) rfl (SG_nil (D_then ?_)))));refine W_cond rfl ?_ ?_
  ·intro g19
   try simp only [dd] at g19
   refine W_seq ?_;refine W_region ?_;refine SG_q (Rq_fieldAddr fa76_2 rfl) rfl ?_;refine SG_q (Rq_loadB (hBs1x8) Tryz.isAgg3 rfl rfl) rfl ?_;refine SG_pure rfl Tryz.call115 rfl (f115_c _ _) ?_;intro w23 hb23;replace hb0 := btr hb0 hb23;replace hB4 := hB4.below hb23;refine SG_storeW (hB4) rfl rfl rfl rfl Tryz.sizeOf119 rfl rfl ?_;intro ws5x3 hchs5x3 hBs5x3;replace hb0 := bchg hb0 hchs5x3 hle4;clear hB4;refine SG_nil ?_;refine D_then ?_;refine W_ret ?_;refine D_block_ret ?_;refine D_then_ret ?_;refine D_bodyR1 rfl rfl (.cellW rfl (hBs5x3) Tryz.isAgg119 Tryz.sizeOf119 rfl) ?_;exact ⟨by rw [andR, if_neg (by simpa using g15), if_pos g19]; rfl, hb0⟩
  ·intro g19
   try simp only [dd] at g19
   refine W_skip ?_;refine D_block ?_;refine D_then ?_;refine W_seq ?_;refine W_region ?_;refine SG_q (Rq_fieldAddr fa76_1 rfl) rfl ?_;refine SG_q (Rq_loadB (hBs1x8) Tryz.isAgg3 rfl rfl) rfl ?_;refine SG_pure rfl Tryz.call115 rfl (f115_c _ _) ?_;intro w26 hb26;replace hb0 := btr hb0 hb26;replace hB4 := hB4.below hb26;refine SG_storeW (hB4) rfl rfl rfl rfl Tryz.sizeOf119 rfl rfl ?_;intro ws6x3 hchs6x3 hBs6x3;replace hb0 := bchg hb0 hchs6x3 hle4;clear hB4;refine SG_nil ?_;refine D_then ?_;refine W_ret ?_;refine D_bodyR1 rfl rfl (.cellW rfl (hBs6x3) Tryz.isAgg119 Tryz.sizeOf119 rfl) ?_;exact ⟨by rw [andR, if_neg (by simpa using g15), if_neg (by simpa using g19)]; rfl, hb0⟩
theorem f95_c {vC vO vR vU vT vM : Value} {ops : List Ot} {bs TS : Nat} {w : World} (hSt : Blk w bs [vC, vO, vR, vU, vT, vM] TS) (hO : SL w vO 5 encO ops) {tr : List Bool} (hT : SL w vT 1 encB tr) (htl : tr.length = ops.length) (hW : ∀ j : Int, 0 ≤ j → j < ops.length → Bd ops.length (getO ops j)) {i : Int} (hi0 : 0 ≤ i) (hi1 : i < ops.length) {x : Ot} (hx : getO ops i = x) : Pure Tryz.prog 95 #[.pointer (some ⟨bs, 0, none⟩), .int .i64 i] w (valOc (orR ops x)) := by
 have hxi := getO_some hi0 hi1;have hbd := hW i hi0 hi1;rw [hx] at hxi hbd;have hxa := getO_some hbd.a0 hbd.a1;have hxb := getO_some hbd.b0 hbd.b1;have hxc := getO_some hbd.c0 hbd.c1;have hba := hbd.a0;have hba1 := hbd.a1;have hbb := hbd.b0;have hbb1 := hbd.b1;have hbc := hbd.c0;have hbc1 := hbd.c1;have hb0 := Below.refl w.heap.size w;refine calls_of_W Tryz.func95 rfl Tryz.ntmps95 rfl ?_;refine W_seq (W_region (SG_alloc Tryz.zeroValue119 rfl rfl ?_));intro w4 b4 e4 hb4 hz4 hB4
 have hle4 : w.heap.size ≤ b4 := by have := hb0.size; omega
 replace hb0 := btr hb0 hb4;refine SG_nil (D_then (W_seq (W_region (SG_q (Rq_move rfl) rfl (SG_q (Rq_move rfl) rfl (SG_pure rfl Tryz.call116 rfl (f116_c ((hSt).below hb0) ((hO).below hb0) hW hi0 hi1 hx _) ?_))))));intro w11 hb11;replace hb0 := btr hb0 hb11;replace hB4 := hB4.below hb11;refine SG_q (Rq_move rfl) rfl (SG_q (Rq_extract rfl rfl) rfl (SG_q (Rq_extract rfl rfl) rfl (SG_q (Rq_extract rfl rfl) rfl (SG_alloc Tryz.zeroValue76 rfl rfl ?_))));intro w5 b5 e5 hb5 hz5 hB5
 have hle5 : w.heap.size ≤ b5 := by have := hb0.size; omega
 have ne_b4_5 : ¬ b4 = b5 := by have := hB4.lt; omega
 replace hb0 := btr hb0 hb5;replace hB4 := hB4.below hb5;refine SG_storeW (hB5) rfl rfl rfl rfl Tryz.sizeOf76 rfl rfl ?_;intro ws1x8 hchs1x8 hBs1x8;replace hb0 := bchg hb0 hchs1x8 hle5;replace hB4 := hB4.chg hchs1x8 ne_b4_5;clear hB5;refine SG_q (Rq_assign rfl) rfl (SG_q (Rq_assign rfl) rfl (SG_nil (D_then (W_seq (W_block (W_seq (W_region (SG_q (Rq_move rfl) rfl (SG_q (Rq_not rfl) rfl (SG_q (Rq_assign rfl) rfl (SG_nil (D_then ?_))))))))))));refine W_cond rfl ?_ ?_
 ·intro g15
  try simp only [dd] at g15
  refine W_seq ?_;refine W_region ?_;refine SG_q (Rq_build0 build119_) rfl ?_;refine SG_storeW (hB4) rfl rfl rfl rfl Tryz.sizeOf119 rfl rfl ?_;intro ws3x1 hchs3x1 hBs3x1;replace hb0 := bchg hb0 hchs3x1 hle4;clear hB4;refine SG_nil ?_;refine D_then ?_;refine W_ret ?_;refine D_block_ret ?_;refine D_then_ret ?_;refine D_bodyR1 rfl rfl (.cellW rfl (hBs3x1) Tryz.isAgg119 Tryz.sizeOf119 rfl) ?_;exact ⟨by rw [orR, if_pos (by simpa using g15)]; rfl, hb0⟩
 ·intro g15
  try simp only [dd] at g15
  refine W_seq (W_region (SG_q (Rq_move rfl) rfl (SG_q (Rq_assign rfl) rfl (SG_nil (D_then ?_)))));refine W_cond rfl ?_ ?_
  ·intro g19
   try simp only [dd] at g19
   refine W_seq ?_;refine W_region ?_;refine SG_q (Rq_build2 build76_0_4 rfl rfl rfl rfl ) rfl ?_;refine SG_pure rfl Tryz.call114 rfl (f114_c ⟨1, 0, 0, 0, 1⟩ _) ?_;intro w22 hb22;replace hb0 := btr hb0 hb22;replace hB4 := hB4.below hb22;refine SG_storeW (hB4) rfl rfl rfl rfl Tryz.sizeOf119 rfl rfl ?_;intro ws5x2 hchs5x2 hBs5x2;replace hb0 := bchg hb0 hchs5x2 hle4;clear hB4;refine SG_nil ?_;refine D_then ?_;refine W_ret ?_;refine D_block_ret ?_;refine D_then_ret ?_;refine D_bodyR1 rfl rfl (.cellW rfl (hBs5x2) Tryz.isAgg119 Tryz.sizeOf119 rfl) ?_;exact ⟨by rw [orR, if_neg (by simpa using g15), if_pos g19]; rfl, hb0⟩
  ·intro g19
   try simp only [dd] at g19
   refine W_skip ?_;refine D_block ?_;refine D_then ?_;refine W_seq ?_;refine W_region ?_;refine SG_q (Rq_fieldAddr fa76_2 rfl) rfl ?_;refine SG_q (Rq_loadB (hBs1x8) Tryz.isAgg3 rfl rfl) rfl ?_;refine SG_pure rfl Tryz.call115 rfl (f115_c _ _) ?_;intro w25 hb25;replace hb0 := btr hb0 hb25;replace hB4 := hB4.below hb25;refine SG_storeW (hB4) rfl rfl rfl rfl Tryz.sizeOf119 rfl rfl ?_;intro ws6x3 hchs6x3 hBs6x3;replace hb0 := bchg hb0 hchs6x3 hle4;clear hB4;refine SG_nil ?_;refine D_then ?_;refine W_ret ?_;refine D_bodyR1 rfl rfl (.cellW rfl (hBs6x3) Tryz.isAgg119 Tryz.sizeOf119 rfl) ?_;exact ⟨by rw [orR, if_neg (by simpa using g15), if_neg (by simpa using g19)]; rfl, hb0⟩
theorem f92_c {vC vO vR vU vT vM : Value} {ops : List Ot} {bs TS : Nat} {w : World} (hSt : Blk w bs [vC, vO, vR, vU, vT, vM] TS) (hO : SL w vO 5 encO ops) {tr : List Bool} (hT : SL w vT 1 encB tr) (htl : tr.length = ops.length) (hW : ∀ j : Int, 0 ≤ j → j < ops.length → Bd ops.length (getO ops j)) {i : Int} (hi0 : 0 ≤ i) (hi1 : i < ops.length) {x : Ot} (hx : getO ops i = x) : Pure Tryz.prog 92 #[.pointer (some ⟨bs, 0, none⟩), .int .i64 i] w (valOc (faultR ops x)) := by
 have hxi := getO_some hi0 hi1;have hbd := hW i hi0 hi1;rw [hx] at hxi hbd;have hxa := getO_some hbd.a0 hbd.a1;have hxb := getO_some hbd.b0 hbd.b1;have hxc := getO_some hbd.c0 hbd.c1;have hba := hbd.a0;have hba1 := hbd.a1;have hbb := hbd.b0;have hbb1 := hbd.b1;have hbc := hbd.c0;have hbc1 := hbd.c1;have hb0 := Below.refl w.heap.size w;refine calls_of_W Tryz.func92 rfl Tryz.ntmps92 rfl ?_;refine W_seq (W_region (SG_alloc Tryz.zeroValue119 rfl rfl ?_));intro w4 b4 e4 hb4 hz4 hB4
 have hle4 : w.heap.size ≤ b4 := by have := hb0.size; omega
 replace hb0 := btr hb0 hb4;refine SG_nil (D_then (W_seq (W_region (SG_q (Rq_move rfl) rfl (SG_q (Rq_nilCheck rfl) rfl (SG_q (Rq_fieldAddr fa92_0 rfl) rfl (SG_q (Rq_fieldAddr fa26_1 rfl) rfl (SG_q (Rq_loadB ((hSt).below hb0) Tryz.isAgg23 rfl rfl) rfl (SG_q (Rq_move rfl) rfl ?_)))))))))
 first | refine SG_index ((hO).below hb0) Tryz.runUnderlying23 Tryz.sizeOf76 rfl rfl ?_ ?_ rfl ?_ | refine SG_index ((hT).below hb0) Tryz.runUnderlying23 Tryz.sizeOf76 rfl rfl ?_ ?_ rfl ?_
 ·omega
 ·omega
 intro x12 hx12 hc12;have ex12 := Option.some.inj ((hxi).symm.trans hx12); subst ex12;refine SG_q (Rq_loadA Tryz.isAgg76 Tryz.sizeOf76 rfl ((hc12)) rfl) rfl (SG_alloc Tryz.zeroValue76 rfl rfl ?_);intro w5 b5 e5 hb5 hz5 hB5
 have hle5 : w.heap.size ≤ b5 := by have := hb0.size; omega
 have ne_b4_5 : ¬ b4 = b5 := by have := hB4.lt; omega
 replace hb0 := btr hb0 hb5;replace hB4 := hB4.below hb5;refine SG_storeW (hB5) rfl rfl rfl rfl Tryz.sizeOf76 rfl rfl ?_;intro ws1x9 hchs1x9 hBs1x9;replace hb0 := bchg hb0 hchs1x9 hle5;replace hB4 := hB4.chg hchs1x9 ne_b4_5;clear hc12;clear hB5;refine SG_nil ?_;refine D_then ?_;refine W_seq ?_;refine W_seq ?_;refine W_quiet (Tryz.mixed) (by kernel_rfl) ?_;refine QS_q (Rq_fieldAddr fa76_0 rfl) rfl ?_;refine QS_q (Rq_loadB (hBs1x9) Tryz.isAgg5 rfl rfl) rfl ?_;refine QS_q (Rq_lss rfl rfl) rfl ?_;refine QS_q (Rq_move rfl) rfl ?_;refine QS_or (r := ?r17n1) 12 29 17 rfl ?_ ?_ ?_; rotate_left
 ·intro g17 K17
  have g17' := g17; try simp only [dd] at g17'
  refine QS_yes 17 rfl rfl g17 (QS_q (Rq_move rfl) rfl (QS_yes 17 rfl rfl g17 (QS_q (Rq_nilCheck rfl) rfl (QS_yes 17 rfl rfl g17 (QS_q (Rq_fieldAddr fa92_0 rfl) rfl (QS_yes 17 rfl rfl g17 (QS_q (Rq_fieldAddr fa26_1 rfl) rfl (QS_yes 17 rfl rfl g17 (QS_q (Rq_loadB ((hSt).below hb0) Tryz.isAgg23 rfl rfl) rfl (QS_yes 17 rfl rfl g17 (QS_q (Rq_fieldAddr fa76_1 rfl) rfl (QS_yes 17 rfl rfl g17 (QS_q (Rq_loadB (hBs1x9) Tryz.isAgg3 rfl rfl) rfl (QS_yes 17 rfl rfl g17 ?_))))))))))))))
  first | refine QS_index ((hO).below hb0) Tryz.runUnderlying23 Tryz.sizeOf76 rfl rfl ?_ ?_ rfl ?_ | refine QS_index ((hT).below hb0) Tryz.runUnderlying23 Tryz.sizeOf76 rfl rfl ?_ ?_ rfl ?_
  ·omega
  ·omega
  intro x25 hx25 hc25;have ex25 := Option.some.inj ((hxa).symm.trans hx25); subst ex25;refine QS_yes 17 rfl rfl g17 (QS_q (Rq_fieldAddr fa76_0 rfl) rfl (QS_yes 17 rfl rfl g17 (QS_q (Rq_load Tryz.isAgg5 rfl ((hc25).cell 0 rfl)) rfl (QS_yes 17 rfl rfl g17 (QS_q (Rq_neq rfl rfl) rfl (QS_q (Rq_pick rfl (fun h => absurd (g17.symm.trans h) (by decide)) (fun _ => rfl)) rfl ?_))))));exact K17 _ (by repeat (first | exact Sub.refl | refine Sub.shadow ?_ | refine Sub.same ?_ | refine Sub.push rfl ?_))
 ·intro g17 K17
  have g17' := g17; try simp only [dd] at g17'
  refine QS_no 17 rfl rfl g17 rfl (QS_no 17 rfl rfl g17 rfl (QS_no 17 rfl rfl g17 rfl (QS_no 17 rfl rfl g17 rfl (QS_no 17 rfl rfl g17 rfl (QS_no 17 rfl rfl g17 rfl (QS_no 17 rfl rfl g17 rfl (QS_no 17 rfl rfl g17 rfl (QS_no 17 rfl rfl g17 rfl (QS_no 17 rfl rfl g17 rfl (QS_no 17 rfl rfl g17 rfl (QS_q (Rq_pick rfl (fun _ => rfl) (fun h => absurd (g17.symm.trans h) (by decide))) rfl ?_)))))))))));exact K17 _ (by repeat (first | exact Sub.refl | refine Sub.shadow ?_ | refine Sub.same ?_ | refine Sub.push rfl ?_))
 simp only [List.drop_succ_cons, List.drop_zero]
 refine QS_nil ?_;intro wr2 hbr2;replace hb0 := btr hb0 hbr2;replace hB4 := hB4.below hbr2;replace hBs1x9 := hBs1x9.below hbr2;refine D_then ?_;refine W_cond rfl ?_ ?_
 ·intro g29
  try simp only [dd] at g29
  refine W_seq ?_;refine W_region ?_;refine SG_q (Rq_build0 build119_) rfl ?_;refine SG_storeW (hB4) rfl rfl rfl rfl Tryz.sizeOf119 rfl rfl ?_;intro ws3x1 hchs3x1 hBs3x1;replace hb0 := bchg hb0 hchs3x1 hle4;clear hB4;refine SG_nil ?_;refine D_then ?_;refine W_ret ?_;refine D_then_ret ?_;refine D_bodyR1 rfl rfl (.cellW rfl (hBs3x1) Tryz.isAgg119 Tryz.sizeOf119 rfl) ?_;exact ⟨by rw [faultR, if_pos g29]; rfl, hb0⟩
 ·intro g29
  try simp only [dd] at g29
  refine W_skip ?_;refine D_then ?_;refine W_seq ?_;refine W_region ?_;refine SG_q (Rq_fieldAddr fa76_1 rfl) rfl ?_;refine SG_q (Rq_loadB (hBs1x9) Tryz.isAgg3 rfl rfl) rfl ?_;refine SG_pure rfl Tryz.call115 rfl (f115_c _ _) ?_;intro w33 hb33;replace hb0 := btr hb0 hb33;replace hB4 := hB4.below hb33;refine SG_storeW (hB4) rfl rfl rfl rfl Tryz.sizeOf119 rfl rfl ?_;intro ws4x3 hchs4x3 hBs4x3;replace hb0 := bchg hb0 hchs4x3 hle4;clear hB4;refine SG_nil ?_;refine D_then ?_;refine W_ret ?_;refine D_bodyR1 rfl rfl (.cellW rfl (hBs4x3) Tryz.isAgg119 Tryz.sizeOf119 rfl) ?_;exact ⟨by rw [faultR, if_neg (by omega)]; rfl, hb0⟩
theorem f97_c {vC vO vR vU vT vM : Value} {ops : List Ot} {bs TS : Nat} {w : World} (hSt : Blk w bs [vC, vO, vR, vU, vT, vM] TS) (hO : SL w vO 5 encO ops) {tr : List Bool} (hT : SL w vT 1 encB tr) (htl : tr.length = ops.length) (hW : ∀ j : Int, 0 ≤ j → j < ops.length → Bd ops.length (getO ops j)) {i : Int} (hi0 : 0 ≤ i) (hi1 : i < ops.length) {x : Ot} (hx : getO ops i = x) : Pure Tryz.prog 97 #[.pointer (some ⟨bs, 0, none⟩), .int .i64 i] w (valOc (twiceR ops tr x)) := by
 have hxi := getO_some hi0 hi1;have hbd := hW i hi0 hi1;rw [hx] at hxi hbd;have hxa := getO_some hbd.a0 hbd.a1;have hxb := getO_some hbd.b0 hbd.b1;have hxc := getO_some hbd.c0 hbd.c1;have hba := hbd.a0;have hba1 := hbd.a1;have hbb := hbd.b0;have hbb1 := hbd.b1;have hbc := hbd.c0;have hbc1 := hbd.c1;have hba2 := (hW _ hba hba1).a0;have hba3 := (hW _ hba hba1).a1;have hxt := getB_some hba2 (by rw [htl]; exact hba3);have hb0 := Below.refl w.heap.size w;refine calls_of_W Tryz.func97 rfl Tryz.ntmps97 rfl ?_;refine W_seq ?_;refine W_region ?_;refine SG_alloc Tryz.zeroValue119 rfl rfl ?_;intro w4 b4 e4 hb4 hz4 hB4
 have hle4 : w.heap.size ≤ b4 := by have := hb0.size; omega
 replace hb0 := btr hb0 hb4;refine SG_nil (D_then (W_seq (W_region (SG_q (Rq_move rfl) rfl (SG_q (Rq_nilCheck rfl) rfl (SG_q (Rq_fieldAddr fa92_0 rfl) rfl (SG_q (Rq_fieldAddr fa26_1 rfl) rfl (SG_q (Rq_loadB ((hSt).below hb0) Tryz.isAgg23 rfl rfl) rfl (SG_q (Rq_move rfl) rfl ?_)))))))))
 first | refine SG_index ((hO).below hb0) Tryz.runUnderlying23 Tryz.sizeOf76 rfl rfl ?_ ?_ rfl ?_ | refine SG_index ((hT).below hb0) Tryz.runUnderlying23 Tryz.sizeOf76 rfl rfl ?_ ?_ rfl ?_
 ·(try rw [htl]); omega
 ·(try rw [htl]); omega
 intro x13 hx13 hc13;have ex13 := Option.some.inj ((hxi).symm.trans hx13); subst ex13;refine SG_q (Rq_loadA Tryz.isAgg76 Tryz.sizeOf76 rfl ((hc13)) rfl) rfl (SG_alloc Tryz.zeroValue76 rfl rfl ?_);intro w5 b5 e5 hb5 hz5 hB5
 have hle5 : w.heap.size ≤ b5 := by have := hb0.size; omega
 have ne_b4_5 : ¬ b4 = b5 := by have := hB4.lt; omega
 replace hb0 := btr hb0 hb5;replace hB4 := hB4.below hb5;refine SG_storeW (hB5) rfl rfl rfl rfl Tryz.sizeOf76 rfl rfl ?_;intro ws1x9 hchs1x9 hBs1x9;replace hb0 := bchg hb0 hchs1x9 hle5;replace hB4 := hB4.chg hchs1x9 ne_b4_5;clear hc13;clear hB5;refine SG_nil ?_;refine D_then ?_;refine W_seq ?_;refine W_seq ?_;refine W_quiet (Tryz.mixed) (by kernel_rfl) ?_;refine QS_q (Rq_fieldAddr fa76_0 rfl) rfl ?_;refine QS_q (Rq_loadB (hBs1x9) Tryz.isAgg5 rfl rfl) rfl ?_;refine QS_q (Rq_neq rfl rfl) rfl ?_;refine QS_q (Rq_move rfl) rfl ?_;refine QS_and (r := ?r18n1) 4 22 18 rfl ?_ ?_ ?_; rotate_left
 ·intro g18 K18
  have g18' := g18; try simp only [dd] at g18'
  refine QS_yes 18 rfl rfl g18 (QS_q (Rq_fieldAddr fa76_0 rfl) rfl (QS_yes 18 rfl rfl g18 (QS_q (Rq_loadB (hBs1x9) Tryz.isAgg5 rfl rfl) rfl (QS_yes 18 rfl rfl g18 (QS_q (Rq_neq rfl rfl) rfl (QS_q (Rq_pick rfl (fun _ => rfl) (fun h => absurd (g18.symm.trans h) (by decide))) rfl ?_))))));exact K18 _ (by repeat (first | exact Sub.refl | refine Sub.shadow ?_ | refine Sub.same ?_ | refine Sub.push rfl ?_))
 ·intro g18 K18
  have g18' := g18; try simp only [dd] at g18'
  refine QS_no 18 rfl rfl g18 rfl (QS_no 18 rfl rfl g18 rfl (QS_no 18 rfl rfl g18 rfl (QS_q (Rq_pick rfl (fun h => absurd (g18.symm.trans h) (by decide)) (fun _ => rfl)) rfl ?_)));exact K18 _ (by repeat (first | exact Sub.refl | refine Sub.shadow ?_ | refine Sub.same ?_ | refine Sub.push rfl ?_))
 simp only [List.drop_succ_cons, List.drop_zero]
 refine QS_q (Rq_move rfl) rfl ?_;refine QS_or (r := ?r23n2) 14 37 23 rfl ?_ ?_ ?_; rotate_left
 ·intro g23 K23
  have g23' := g23; try simp only [dd] at g23'
  refine QS_yes 23 rfl rfl g23 (QS_q (Rq_move rfl) rfl (QS_yes 23 rfl rfl g23 (QS_q (Rq_nilCheck rfl) rfl (QS_yes 23 rfl rfl g23 (QS_q (Rq_fieldAddr fa92_0 rfl) rfl (QS_yes 23 rfl rfl g23 (QS_q (Rq_fieldAddr fa26_1 rfl) rfl (QS_yes 23 rfl rfl g23 (QS_q (Rq_loadB ((hSt).below hb0) Tryz.isAgg23 rfl rfl) rfl (QS_yes 23 rfl rfl g23 (QS_q (Rq_fieldAddr fa76_1 rfl) rfl (QS_yes 23 rfl rfl g23 (QS_q (Rq_loadB (hBs1x9) Tryz.isAgg3 rfl rfl) rfl (QS_yes 23 rfl rfl g23 ?_))))))))))))))
  first | refine QS_index ((hO).below hb0) Tryz.runUnderlying23 Tryz.sizeOf76 rfl rfl ?_ ?_ rfl ?_ | refine QS_index ((hT).below hb0) Tryz.runUnderlying23 Tryz.sizeOf76 rfl rfl ?_ ?_ rfl ?_
  ·(try rw [htl]); omega
  ·(try rw [htl]); omega
  intro x31 hx31 hc31;have ex31 := Option.some.inj ((hxa).symm.trans hx31); subst ex31;refine QS_yes 23 rfl rfl g23 (QS_q (Rq_fieldAddr fa76_0 rfl) rfl (QS_yes 23 rfl rfl g23 (QS_q (Rq_load Tryz.isAgg5 rfl ((hc31).cell 0 rfl)) rfl (QS_yes 23 rfl rfl g23 (QS_q (Rq_fieldAddr fa76_0 rfl) rfl (QS_yes 23 rfl rfl g23 (QS_q (Rq_loadB (hBs1x9) Tryz.isAgg5 rfl rfl) rfl (QS_yes 23 rfl rfl g23 (QS_q (Rq_neq rfl rfl) rfl (QS_q (Rq_pick rfl (fun h => absurd (g23.symm.trans h) (by decide)) (fun _ => rfl)) rfl ?_))))))))));exact K23 _ (by repeat (first | exact Sub.refl | refine Sub.shadow ?_ | refine Sub.same ?_ | refine Sub.push rfl ?_))
 ·intro g23 K23
  have g23' := g23; try simp only [dd] at g23'
  refine QS_no 23 rfl rfl g23 rfl (QS_no 23 rfl rfl g23 rfl (QS_no 23 rfl rfl g23 rfl (QS_no 23 rfl rfl g23 rfl (QS_no 23 rfl rfl g23 rfl (QS_no 23 rfl rfl g23 rfl (QS_no 23 rfl rfl g23 rfl (QS_no 23 rfl rfl g23 rfl (QS_no 23 rfl rfl g23 rfl (QS_no 23 rfl rfl g23 rfl (QS_no 23 rfl rfl g23 rfl (QS_no 23 rfl rfl g23 rfl (QS_no 23 rfl rfl g23 rfl (QS_q (Rq_pick rfl (fun _ => rfl) (fun h => absurd (g23.symm.trans h) (by decide))) rfl ?_)))))))))))));exact K23 _ (by repeat (first | exact Sub.refl | refine Sub.shadow ?_ | refine Sub.same ?_ | refine Sub.push rfl ?_))
 simp only [List.drop_succ_cons, List.drop_zero]
 refine QS_nil ?_;intro wr2 hbr2;replace hb0 := btr hb0 hbr2;replace hB4 := hB4.below hbr2;replace hBs1x9 := hBs1x9.below hbr2;refine D_then ?_;refine W_cond rfl ?_ ?_
 ·intro g37
  try simp only [dd] at g37
  refine W_seq ?_;refine W_region ?_;refine SG_q (Rq_build0 build119_) rfl ?_;refine SG_storeW (hB4) rfl rfl rfl rfl Tryz.sizeOf119 rfl rfl ?_;intro ws3x1 hchs3x1 hBs3x1;replace hb0 := bchg hb0 hchs3x1 hle4;clear hB4;refine SG_nil ?_;refine D_then ?_;refine W_ret ?_;refine D_then_ret ?_;refine D_bodyR1 rfl rfl (.cellW rfl (hBs3x1) Tryz.isAgg119 Tryz.sizeOf119 rfl) ?_;exact ⟨by rw [twiceR, if_pos g37]; rfl, hb0⟩
 ·intro g37
  try simp only [dd] at g37
  refine W_skip (D_then (W_seq (W_quiet (Tryz.mixed) (by kernel_rfl) ?_)));refine QS_q (Rq_move rfl) rfl (QS_q (Rq_nilCheck rfl) rfl (QS_q (Rq_fieldAddr fa92_0 rfl) rfl (QS_q (Rq_fieldAddr fa26_1 rfl) rfl (QS_q (Rq_loadB ((hSt).below hb0) Tryz.isAgg23 rfl rfl) rfl (QS_q (Rq_fieldAddr fa76_1 rfl) rfl (QS_q (Rq_loadB (hBs1x9) Tryz.isAgg3 rfl rfl) rfl ?_))))))
  first | refine QS_index ((hO).below hb0) Tryz.runUnderlying23 Tryz.sizeOf76 rfl rfl ?_ ?_ rfl ?_ | refine QS_index ((hT).below hb0) Tryz.runUnderlying23 Tryz.sizeOf76 rfl rfl ?_ ?_ rfl ?_
  ·(try rw [htl]); omega
  ·(try rw [htl]); omega
  intro x46 hx46 hc46;have ex46 := Option.some.inj ((hxa).symm.trans hx46); subst ex46;refine QS_q (Rq_fieldAddr fa76_1 rfl) rfl ?_;refine QS_q (Rq_load Tryz.isAgg3 rfl ((hc46).cell 1 rfl)) rfl ?_;refine QS_q (Rq_assign rfl) rfl ?_;refine QS_nil ?_;intro wr4 hbr4;replace hb0 := btr hb0 hbr4;replace hB4 := hB4.below hbr4;replace hBs1x9 := hBs1x9.below hbr4;refine D_then ?_;refine W_seq ?_;refine W_seq ?_;refine W_region ?_;refine SG_q (Rq_fieldAddr fa76_0 rfl) rfl ?_;refine SG_q (Rq_loadB (hBs1x9) Tryz.isAgg5 rfl rfl) rfl ?_;refine SG_q (Rq_eql rfl rfl) rfl ?_;refine SG_q (Rq_move rfl) rfl ?_;refine SG_and (r := ?r52n3) 9 61 52 rfl ?_ ?_ ?_; rotate_left
  ·intro g52 K52
   have g52' := g52; try simp only [dd] at g52'
   have hm52 := Below.refl (wr4).heap.size wr4;refine SG_yes 52 rfl rfl g52 (SG_q (Rq_move rfl) rfl (SG_yes 52 rfl rfl g52 (SG_q (Rq_nilCheck rfl) rfl (SG_yes 52 rfl rfl g52 (SG_q (Rq_fieldAddr fa92_2 rfl) rfl (SG_yes 52 rfl rfl g52 (SG_q (Rq_loadB ((hSt).below hb0) Tryz.isAgg54 rfl rfl) rfl (SG_yes 52 rfl rfl g52 (SG_q (Rq_move rfl) rfl (SG_yes 52 rfl rfl g52 ?_))))))))))
   first | refine SG_index ((hO).below hb0) Tryz.runUnderlying54 Tryz.sizeOf4 rfl rfl ?_ ?_ rfl ?_ | refine SG_index ((hT).below hb0) Tryz.runUnderlying54 Tryz.sizeOf4 rfl rfl ?_ ?_ rfl ?_
   ·(try rw [htl]); omega
   ·(try rw [htl]); omega
   intro x58 hx58 hc58;have ex58 := Option.some.inj ((hxt).symm.trans hx58); subst ex58;refine SG_yes 52 rfl rfl g52 (SG_q (Rq_load Tryz.isAgg4 rfl ((hc58).cell 0 rfl)) rfl (SG_yes 52 rfl rfl g52 (SG_q (Rq_not rfl) rfl (SG_q (Rq_pick rfl (fun _ => rfl) (fun h => absurd (g52.symm.trans h) (by decide))) rfl ?_))));exact K52 _ _ hm52 (by repeat (first | exact Sub.refl | refine Sub.shadow ?_ | refine Sub.same ?_ | refine Sub.push rfl ?_))
  ·intro g52 K52
   have g52' := g52; try simp only [dd] at g52'
   have hm52 := Below.refl (wr4).heap.size wr4;refine SG_no 52 rfl rfl g52 rfl (SG_no 52 rfl rfl g52 rfl (SG_no 52 rfl rfl g52 rfl (SG_no 52 rfl rfl g52 rfl (SG_no 52 rfl rfl g52 rfl (SG_no 52 rfl rfl g52 rfl (SG_no 52 rfl rfl g52 rfl (SG_no 52 rfl rfl g52 rfl (SG_q (Rq_pick rfl (fun h => absurd (g52.symm.trans h) (by decide)) (fun _ => rfl)) rfl ?_))))))));exact K52 _ _ hm52 (by repeat (first | exact Sub.refl | refine Sub.shadow ?_ | refine Sub.same ?_ | refine Sub.push rfl ?_))
  intro wm52 hbm52;replace hb0 := btr hb0 hbm52;replace hB4 := hB4.below hbm52
  simp only [List.drop_succ_cons, List.drop_zero]
  refine SG_nil (D_then ?_);refine W_cond rfl ?_ ?_
  ·intro g61
   try simp only [dd] at g61
   refine W_seq ?_;refine W_region ?_;refine SG_q (Rq_build0 build119_) rfl ?_;refine SG_storeW (hB4) rfl rfl rfl rfl Tryz.sizeOf119 rfl rfl ?_;intro ws6x1 hchs6x1 hBs6x1;replace hb0 := bchg hb0 hchs6x1 hle4;clear hc46;clear hB4;refine SG_nil ?_;refine D_then ?_;refine W_ret ?_;refine D_then_ret ?_;refine D_bodyR1 rfl rfl (.cellW rfl (hBs6x1) Tryz.isAgg119 Tryz.sizeOf119 rfl) ?_;exact ⟨by rw [twiceR, if_neg (by omega), if_pos g61]; rfl, hb0⟩
  ·intro g61
   try simp only [dd] at g61
   refine W_skip ?_;refine D_then ?_;refine W_seq ?_;refine W_region ?_;refine SG_q (Rq_move rfl) rfl ?_;refine SG_pure rfl Tryz.call115 rfl (f115_c _ _) ?_;intro w64 hb64;replace hb0 := btr hb0 hb64;replace hB4 := hB4.below hb64;refine SG_storeW (hB4) rfl rfl rfl rfl Tryz.sizeOf119 rfl rfl ?_;intro ws7x2 hchs7x2 hBs7x2;replace hb0 := bchg hb0 hchs7x2 hle4;clear hc46;clear hB4;refine SG_nil ?_;refine D_then ?_;refine W_ret ?_;refine D_bodyR1 rfl rfl (.cellW rfl (hBs7x2) Tryz.isAgg119 Tryz.sizeOf119 rfl) ?_;exact ⟨by rw [twiceR, if_neg (by omega), if_neg (by simpa using g61)]; rfl, hb0⟩
theorem f98_c {vC vO vR vU vT vM : Value} {ops : List Ot} {bs TS : Nat} {w : World} (hSt : Blk w bs [vC, vO, vR, vU, vT, vM] TS) (hO : SL w vO 5 encO ops) {tr : List Bool} (hT : SL w vT 1 encB tr) (htl : tr.length = ops.length) (hW : ∀ j : Int, 0 ≤ j → j < ops.length → Bd ops.length (getO ops j)) {i : Int} (hi0 : 0 ≤ i) (hi1 : i < ops.length) {x : Ot} (hx : getO ops i = x) : Pure Tryz.prog 98 #[.pointer (some ⟨bs, 0, none⟩), .int .i64 i] w (valOc (truthR ops tr x)) := by
 have hxi := getO_some hi0 hi1;have hbd := hW i hi0 hi1;rw [hx] at hxi hbd;have hxa := getO_some hbd.a0 hbd.a1;have hxb := getO_some hbd.b0 hbd.b1;have hxc := getO_some hbd.c0 hbd.c1;have hba := hbd.a0;have hba1 := hbd.a1;have hbb := hbd.b0;have hbb1 := hbd.b1;have hbc := hbd.c0;have hbc1 := hbd.c1;have hxta := getB_some hba (by rw [htl]; exact hba1);have hb0 := Below.refl w.heap.size w;refine calls_of_W Tryz.func98 rfl Tryz.ntmps98 rfl ?_;refine W_seq ?_;refine W_region ?_;refine SG_alloc Tryz.zeroValue119 rfl rfl ?_;intro w4 b4 e4 hb4 hz4 hB4
 have hle4 : w.heap.size ≤ b4 := by have := hb0.size; omega
 replace hb0 := btr hb0 hb4;refine SG_nil (D_then (W_seq (W_seq (W_region (SG_q (Rq_move rfl) rfl (SG_q (Rq_nilCheck rfl) rfl (SG_q (Rq_fieldAddr fa92_0 rfl) rfl (SG_q (Rq_fieldAddr fa26_1 rfl) rfl (SG_q (Rq_loadB ((hSt).below hb0) Tryz.isAgg23 rfl rfl) rfl (SG_q (Rq_move rfl) rfl ?_))))))))))
 first | refine SG_index ((hO).below hb0) Tryz.runUnderlying23 Tryz.sizeOf76 rfl rfl ?_ ?_ rfl ?_ | refine SG_index ((hT).below hb0) Tryz.runUnderlying23 Tryz.sizeOf76 rfl rfl ?_ ?_ rfl ?_
 ·(try rw [htl]); omega
 ·(try rw [htl]); omega
 intro x12 hx12 hc12;have ex12 := Option.some.inj ((hxi).symm.trans hx12); subst ex12;refine SG_q (Rq_loadA Tryz.isAgg76 Tryz.sizeOf76 rfl ((hc12)) rfl) rfl (SG_alloc Tryz.zeroValue76 rfl rfl ?_);intro w5 b5 e5 hb5 hz5 hB5
 have hle5 : w.heap.size ≤ b5 := by have := hb0.size; omega
 have ne_b4_5 : ¬ b4 = b5 := by have := hB4.lt; omega
 replace hb0 := btr hb0 hb5;replace hB4 := hB4.below hb5;refine SG_storeW (hB5) rfl rfl rfl rfl Tryz.sizeOf76 rfl rfl ?_;intro ws1x9 hchs1x9 hBs1x9;replace hb0 := bchg hb0 hchs1x9 hle5;replace hB4 := hB4.chg hchs1x9 ne_b4_5;clear hc12;clear hB5;refine SG_nil ?_;refine D_then ?_;refine W_seq ?_;refine W_quiet (Tryz.mixed) (by kernel_rfl) ?_;refine QS_q (Rq_fieldAddr fa76_0 rfl) rfl ?_;refine QS_q (Rq_loadB (hBs1x9) Tryz.isAgg5 rfl rfl) rfl ?_;refine QS_q (Rq_eql rfl rfl) rfl ?_;refine QS_q (Rq_move rfl) rfl ?_;refine QS_and (r := ?r17n1) 9 26 17 rfl ?_ ?_ ?_; rotate_left
 ·intro g17 K17
  have g17' := g17; try simp only [dd] at g17'
  refine QS_yes 17 rfl rfl g17 (QS_q (Rq_move rfl) rfl (QS_yes 17 rfl rfl g17 (QS_q (Rq_nilCheck rfl) rfl (QS_yes 17 rfl rfl g17 (QS_q (Rq_fieldAddr fa92_2 rfl) rfl (QS_yes 17 rfl rfl g17 (QS_q (Rq_loadB ((hSt).below hb0) Tryz.isAgg54 rfl rfl) rfl (QS_yes 17 rfl rfl g17 (QS_q (Rq_fieldAddr fa76_1 rfl) rfl (QS_yes 17 rfl rfl g17 (QS_q (Rq_loadB (hBs1x9) Tryz.isAgg3 rfl rfl) rfl (QS_yes 17 rfl rfl g17 ?_))))))))))))
  first | refine QS_index ((hO).below hb0) Tryz.runUnderlying54 Tryz.sizeOf4 rfl rfl ?_ ?_ rfl ?_ | refine QS_index ((hT).below hb0) Tryz.runUnderlying54 Tryz.sizeOf4 rfl rfl ?_ ?_ rfl ?_
  ·(try rw [htl]); omega
  ·(try rw [htl]); omega
  intro x24 hx24 hc24;have ex24 := Option.some.inj ((hxta).symm.trans hx24); subst ex24;refine QS_yes 17 rfl rfl g17 (QS_q (Rq_load Tryz.isAgg4 rfl ((hc24).cell 0 rfl)) rfl (QS_q (Rq_pick rfl (fun _ => rfl) (fun h => absurd (g17.symm.trans h) (by decide))) rfl ?_));exact K17 _ (by repeat (first | exact Sub.refl | refine Sub.shadow ?_ | refine Sub.same ?_ | refine Sub.push rfl ?_))
 ·intro g17 K17
  have g17' := g17; try simp only [dd] at g17'
  refine QS_no 17 rfl rfl g17 rfl (QS_no 17 rfl rfl g17 rfl (QS_no 17 rfl rfl g17 rfl (QS_no 17 rfl rfl g17 rfl (QS_no 17 rfl rfl g17 rfl (QS_no 17 rfl rfl g17 rfl (QS_no 17 rfl rfl g17 rfl (QS_no 17 rfl rfl g17 rfl (QS_q (Rq_pick rfl (fun h => absurd (g17.symm.trans h) (by decide)) (fun _ => rfl)) rfl ?_))))))));exact K17 _ (by repeat (first | exact Sub.refl | refine Sub.shadow ?_ | refine Sub.same ?_ | refine Sub.push rfl ?_))
 simp only [List.drop_succ_cons, List.drop_zero]
 refine QS_q (Rq_move rfl) rfl ?_;refine QS_and (r := ?r27n2) 5 32 27 rfl ?_ ?_ ?_; rotate_left
 ·intro g27 K27
  have g27' := g27; try simp only [dd] at g27'
  refine QS_yes 27 rfl rfl g27 (QS_q (Rq_move rfl) rfl (QS_yes 27 rfl rfl g27 (QS_q (Rq_fieldAddr fa76_2 rfl) rfl (QS_yes 27 rfl rfl g27 (QS_q (Rq_loadB (hBs1x9) Tryz.isAgg3 rfl rfl) rfl (QS_yes 27 rfl rfl g27 (QS_call rfl Tryz.call117 rfl (fun w' hb' => f117_c ((hSt).below (btr hb0 hb')) ((hO).below (btr hb0 hb')) (by omega) (by omega) _) ?_)))))));refine QS_q (Rq_pick rfl (fun _ => rfl) (fun h => absurd (g27.symm.trans h) (by decide))) rfl ?_;exact K27 _ (by repeat (first | exact Sub.refl | refine Sub.shadow ?_ | refine Sub.same ?_ | refine Sub.push rfl ?_))
 ·intro g27 K27
  have g27' := g27; try simp only [dd] at g27'
  refine QS_no 27 rfl rfl g27 rfl (QS_no 27 rfl rfl g27 rfl (QS_no 27 rfl rfl g27 rfl (QS_no 27 rfl rfl g27 rfl (QS_q (Rq_pick rfl (fun h => absurd (g27.symm.trans h) (by decide)) (fun _ => rfl)) rfl ?_))));exact K27 _ (by repeat (first | exact Sub.refl | refine Sub.shadow ?_ | refine Sub.same ?_ | refine Sub.push rfl ?_))
 simp only [List.drop_succ_cons, List.drop_zero]
 refine QS_q (Rq_move rfl) rfl ?_;refine QS_and (r := ?r33n3) 5 38 33 rfl ?_ ?_ ?_; rotate_left
 ·intro g33 K33
  have g33' := g33; try simp only [dd] at g33'
  refine QS_yes 33 rfl rfl g33 (QS_q (Rq_move rfl) rfl (QS_yes 33 rfl rfl g33 (QS_q (Rq_fieldAddr fa76_3 rfl) rfl (QS_yes 33 rfl rfl g33 (QS_q (Rq_loadB (hBs1x9) Tryz.isAgg3 rfl rfl) rfl (QS_yes 33 rfl rfl g33 (QS_call rfl Tryz.call117 rfl (fun w' hb' => f117_c ((hSt).below (btr hb0 hb')) ((hO).below (btr hb0 hb')) (by omega) (by omega) _) ?_)))))));refine QS_q (Rq_pick rfl (fun _ => rfl) (fun h => absurd (g33.symm.trans h) (by decide))) rfl ?_;exact K33 _ (by repeat (first | exact Sub.refl | refine Sub.shadow ?_ | refine Sub.same ?_ | refine Sub.push rfl ?_))
 ·intro g33 K33
  have g33' := g33; try simp only [dd] at g33'
  refine QS_no 33 rfl rfl g33 rfl (QS_no 33 rfl rfl g33 rfl (QS_no 33 rfl rfl g33 rfl (QS_no 33 rfl rfl g33 rfl (QS_q (Rq_pick rfl (fun h => absurd (g33.symm.trans h) (by decide)) (fun _ => rfl)) rfl ?_))));exact K33 _ (by repeat (first | exact Sub.refl | refine Sub.shadow ?_ | refine Sub.same ?_ | refine Sub.push rfl ?_))
 simp only [List.drop_succ_cons, List.drop_zero]
 refine QS_nil ?_;intro wr2 hbr2;replace hb0 := btr hb0 hbr2;replace hB4 := hB4.below hbr2;replace hBs1x9 := hBs1x9.below hbr2;refine D_then ?_;refine W_cond rfl ?_ ?_
 ·intro g38
  try simp only [dd] at g38
  refine W_seq ?_;refine W_region ?_;refine SG_q (Rq_fieldAddr fa76_1 rfl) rfl ?_;refine SG_q (Rq_loadB (hBs1x9) Tryz.isAgg3 rfl rfl) rfl ?_;refine SG_pure rfl Tryz.call115 rfl (f115_c _ _) ?_;intro w41 hb41;replace hb0 := btr hb0 hb41;replace hB4 := hB4.below hb41;refine SG_storeW (hB4) rfl rfl rfl rfl Tryz.sizeOf119 rfl rfl ?_;intro ws3x3 hchs3x3 hBs3x3;replace hb0 := bchg hb0 hchs3x3 hle4;clear hB4;refine SG_nil ?_;refine D_then ?_;refine W_ret ?_;refine D_then_ret ?_;refine D_bodyR1 rfl rfl (.cellW rfl (hBs3x3) Tryz.isAgg119 Tryz.sizeOf119 rfl) ?_;exact ⟨by rw [truthR, if_pos (by simpa [and_assoc] using g38)]; rfl, hb0⟩
 ·intro g38
  try simp only [dd] at g38
  refine W_skip ?_;refine D_then ?_;refine W_seq ?_;refine W_region ?_;refine SG_q (Rq_build0 build119_) rfl ?_;refine SG_storeW (hB4) rfl rfl rfl rfl Tryz.sizeOf119 rfl rfl ?_;intro ws4x1 hchs4x1 hBs4x1;replace hb0 := bchg hb0 hchs4x1 hle4;clear hB4;refine SG_nil ?_;refine D_then ?_;refine W_ret ?_;refine D_bodyR1 rfl rfl (.cellW rfl (hBs4x1) Tryz.isAgg119 Tryz.sizeOf119 rfl) ?_;exact ⟨by rw [truthR, if_neg (by simpa [and_assoc] using g38)]; rfl, hb0⟩
theorem f99_c {vC vO vR vU vT vM : Value} {ops : List Ot} {bs TS : Nat} {w : World} (hSt : Blk w bs [vC, vO, vR, vU, vT, vM] TS) (hO : SL w vO 5 encO ops) {tr : List Bool} (hT : SL w vT 1 encB tr) (htl : tr.length = ops.length) (hW : ∀ j : Int, 0 ≤ j → j < ops.length → Bd ops.length (getO ops j)) {i : Int} (hi0 : 0 ≤ i) (hi1 : i < ops.length) {x : Ot} (hx : getO ops i = x) : Pure Tryz.prog 99 #[.pointer (some ⟨bs, 0, none⟩), .int .i64 i] w (valOc (turnR ops x)) := by
 have hxi := getO_some hi0 hi1;have hbd := hW i hi0 hi1;rw [hx] at hxi hbd;have hxa := getO_some hbd.a0 hbd.a1;have hxb := getO_some hbd.b0 hbd.b1;have hxc := getO_some hbd.c0 hbd.c1;have hba := hbd.a0;have hba1 := hbd.a1;have hbb := hbd.b0;have hbb1 := hbd.b1;have hbc := hbd.c0;have hbc1 := hbd.c1;have hb0 := Below.refl w.heap.size w;refine calls_of_W Tryz.func99 rfl Tryz.ntmps99 rfl ?_;refine W_seq (W_region (SG_alloc Tryz.zeroValue119 rfl rfl ?_));intro w4 b4 e4 hb4 hz4 hB4
 have hle4 : w.heap.size ≤ b4 := by have := hb0.size; omega
 replace hb0 := btr hb0 hb4;refine SG_nil (D_then (W_seq (W_seq (W_region (SG_q (Rq_move rfl) rfl (SG_q (Rq_nilCheck rfl) rfl (SG_q (Rq_fieldAddr fa92_0 rfl) rfl (SG_q (Rq_fieldAddr fa26_1 rfl) rfl (SG_q (Rq_loadB ((hSt).below hb0) Tryz.isAgg23 rfl rfl) rfl (SG_q (Rq_move rfl) rfl ?_))))))))))
 first | refine SG_index ((hO).below hb0) Tryz.runUnderlying23 Tryz.sizeOf76 rfl rfl ?_ ?_ rfl ?_ | refine SG_index ((hT).below hb0) Tryz.runUnderlying23 Tryz.sizeOf76 rfl rfl ?_ ?_ rfl ?_
 ·omega
 ·omega
 intro x12 hx12 hc12;have ex12 := Option.some.inj ((hxi).symm.trans hx12); subst ex12;refine SG_q (Rq_loadA Tryz.isAgg76 Tryz.sizeOf76 rfl ((hc12)) rfl) rfl (SG_alloc Tryz.zeroValue76 rfl rfl ?_);intro w5 b5 e5 hb5 hz5 hB5
 have hle5 : w.heap.size ≤ b5 := by have := hb0.size; omega
 have ne_b4_5 : ¬ b4 = b5 := by have := hB4.lt; omega
 replace hb0 := btr hb0 hb5;replace hB4 := hB4.below hb5;refine SG_storeW (hB5) rfl rfl rfl rfl Tryz.sizeOf76 rfl rfl ?_;intro ws1x9 hchs1x9 hBs1x9;replace hb0 := bchg hb0 hchs1x9 hle5;replace hB4 := hB4.chg hchs1x9 ne_b4_5;clear hc12;clear hB5;refine SG_nil ?_;refine D_then ?_;refine W_seq ?_;refine W_region ?_;refine SG_q (Rq_fieldAddr fa76_0 rfl) rfl ?_;refine SG_q (Rq_loadB (hBs1x9) Tryz.isAgg5 rfl rfl) rfl ?_;refine SG_q (Rq_eql rfl rfl) rfl ?_;refine SG_q (Rq_move rfl) rfl ?_;refine SG_and (r := ?r17n1) 5 22 17 rfl ?_ ?_ ?_; rotate_left
 ·intro g17 K17
  have g17' := g17; try simp only [dd] at g17'
  have hm17 := Below.refl (ws1x9).heap.size ws1x9;refine SG_yes 17 rfl rfl g17 (SG_q (Rq_move rfl) rfl (SG_yes 17 rfl rfl g17 (SG_q (Rq_fieldAddr fa76_2 rfl) rfl (SG_yes 17 rfl rfl g17 (SG_q (Rq_loadB (hBs1x9) Tryz.isAgg3 rfl rfl) rfl (SG_yes 17 rfl rfl g17 (SG_pure rfl Tryz.call117 rfl (f117_c ((hSt).below hb0) ((hO).below hb0) (by omega) (by omega) _) ?_)))))));intro w21 hb21;replace hb0 := btr hb0 hb21;replace hm17 := btr hm17 hb21;refine SG_q (Rq_pick rfl (fun _ => rfl) (fun h => absurd (g17.symm.trans h) (by decide))) rfl ?_;exact K17 _ _ hm17 (by repeat (first | exact Sub.refl | refine Sub.shadow ?_ | refine Sub.same ?_ | refine Sub.push rfl ?_))
 ·intro g17 K17
  have g17' := g17; try simp only [dd] at g17'
  have hm17 := Below.refl (ws1x9).heap.size ws1x9;refine SG_no 17 rfl rfl g17 rfl (SG_no 17 rfl rfl g17 rfl (SG_no 17 rfl rfl g17 rfl (SG_no 17 rfl rfl g17 rfl (SG_q (Rq_pick rfl (fun h => absurd (g17.symm.trans h) (by decide)) (fun _ => rfl)) rfl ?_))));exact K17 _ _ hm17 (by repeat (first | exact Sub.refl | refine Sub.shadow ?_ | refine Sub.same ?_ | refine Sub.push rfl ?_))
 intro wm17 hbm17;replace hb0 := btr hb0 hbm17;replace hB4 := hB4.below hbm17;replace hBs1x9 := hBs1x9.below hbm17
 simp only [List.drop_succ_cons, List.drop_zero]
 refine SG_q (Rq_move rfl) rfl ?_;refine SG_and (r := ?r23n2) 5 28 23 rfl ?_ ?_ ?_; rotate_left
 ·intro g23 K23
  have g23' := g23; try simp only [dd] at g23'
  have hm23 := Below.refl (wm17).heap.size wm17;refine SG_yes 23 rfl rfl g23 (SG_q (Rq_move rfl) rfl (SG_yes 23 rfl rfl g23 (SG_q (Rq_fieldAddr fa76_3 rfl) rfl (SG_yes 23 rfl rfl g23 (SG_q (Rq_loadB (hBs1x9) Tryz.isAgg3 rfl rfl) rfl (SG_yes 23 rfl rfl g23 (SG_pure rfl Tryz.call117 rfl (f117_c ((hSt).below hb0) ((hO).below hb0) (by omega) (by omega) _) ?_)))))));intro w27 hb27;replace hb0 := btr hb0 hb27;replace hm23 := btr hm23 hb27;refine SG_q (Rq_pick rfl (fun _ => rfl) (fun h => absurd (g23.symm.trans h) (by decide))) rfl ?_;exact K23 _ _ hm23 (by repeat (first | exact Sub.refl | refine Sub.shadow ?_ | refine Sub.same ?_ | refine Sub.push rfl ?_))
 ·intro g23 K23
  have g23' := g23; try simp only [dd] at g23'
  have hm23 := Below.refl (wm17).heap.size wm17;refine SG_no 23 rfl rfl g23 rfl (SG_no 23 rfl rfl g23 rfl (SG_no 23 rfl rfl g23 rfl (SG_no 23 rfl rfl g23 rfl (SG_q (Rq_pick rfl (fun h => absurd (g23.symm.trans h) (by decide)) (fun _ => rfl)) rfl ?_))));exact K23 _ _ hm23 (by repeat (first | exact Sub.refl | refine Sub.shadow ?_ | refine Sub.same ?_ | refine Sub.push rfl ?_))
 intro wm23 hbm23;replace hb0 := btr hb0 hbm23;replace hB4 := hB4.below hbm23;replace hBs1x9 := hBs1x9.below hbm23
 simp only [List.drop_succ_cons, List.drop_zero]
 refine SG_nil (D_then ?_);refine W_cond rfl ?_ ?_
 ·intro g28
  try simp only [dd] at g28
  refine W_seq ?_;refine W_region ?_;refine SG_q (Rq_fieldAddr fa76_1 rfl) rfl ?_;refine SG_q (Rq_loadB (hBs1x9) Tryz.isAgg3 rfl rfl) rfl ?_;refine SG_q (Rq_build2 build76_0_1 rfl rfl rfl rfl ) rfl ?_;refine SG_pure rfl Tryz.call114 rfl (f114_c ⟨6, x.a, 0, 0, 0⟩ _) ?_;intro w32 hb32;replace hb0 := btr hb0 hb32;replace hB4 := hB4.below hb32;refine SG_storeW (hB4) rfl rfl rfl rfl Tryz.sizeOf119 rfl rfl ?_;intro ws3x4 hchs3x4 hBs3x4;replace hb0 := bchg hb0 hchs3x4 hle4;clear hB4;refine SG_nil ?_;refine D_then ?_;refine W_ret ?_;refine D_then_ret ?_;refine D_bodyR1 rfl rfl (.cellW rfl (hBs3x4) Tryz.isAgg119 Tryz.sizeOf119 rfl) ?_;exact ⟨by rw [turnR, if_pos (by simpa [and_assoc] using g28)]; rfl, hb0⟩
 ·intro g28
  try simp only [dd] at g28
  refine W_skip ?_;refine D_then ?_;refine W_seq ?_;refine W_region ?_;refine SG_q (Rq_build0 build119_) rfl ?_;refine SG_storeW (hB4) rfl rfl rfl rfl Tryz.sizeOf119 rfl rfl ?_;intro ws4x1 hchs4x1 hBs4x1;replace hb0 := bchg hb0 hchs4x1 hle4;clear hB4;refine SG_nil ?_;refine D_then ?_;refine W_ret ?_;refine D_bodyR1 rfl rfl (.cellW rfl (hBs4x1) Tryz.isAgg119 Tryz.sizeOf119 rfl) ?_;exact ⟨by rw [turnR, if_neg (by simpa [and_assoc] using g28)]; rfl, hb0⟩
theorem f100_c {vC vO vR vU vT vM : Value} {ops : List Ot} {bs TS : Nat} {w : World} (hSt : Blk w bs [vC, vO, vR, vU, vT, vM] TS) (hO : SL w vO 5 encO ops) {tr : List Bool} (hT : SL w vT 1 encB tr) (htl : tr.length = ops.length) (hW : ∀ j : Int, 0 ≤ j → j < ops.length → Bd ops.length (getO ops j)) {i : Int} (hi0 : 0 ≤ i) (hi1 : i < ops.length) {x : Ot} (hx : getO ops i = x) : Pure Tryz.prog 100 #[.pointer (some ⟨bs, 0, none⟩), .int .i64 i] w (valOc (selfR tr x)) := by
 have hxi := getO_some hi0 hi1;have hbd := hW i hi0 hi1;rw [hx] at hxi hbd;have hxa := getO_some hbd.a0 hbd.a1;have hxb := getO_some hbd.b0 hbd.b1;have hxc := getO_some hbd.c0 hbd.c1;have hba := hbd.a0;have hba1 := hbd.a1;have hbb := hbd.b0;have hbb1 := hbd.b1;have hbc := hbd.c0;have hbc1 := hbd.c1;have hxta := getB_some hba (by rw [htl]; exact hba1);have hb0 := Below.refl w.heap.size w;refine calls_of_W Tryz.func100 rfl Tryz.ntmps100 rfl ?_;refine W_seq ?_;refine W_region ?_;refine SG_alloc Tryz.zeroValue119 rfl rfl ?_;intro w4 b4 e4 hb4 hz4 hB4
 have hle4 : w.heap.size ≤ b4 := by have := hb0.size; omega
 replace hb0 := btr hb0 hb4;refine SG_nil (D_then (W_seq (W_region (SG_q (Rq_move rfl) rfl (SG_q (Rq_nilCheck rfl) rfl (SG_q (Rq_fieldAddr fa92_0 rfl) rfl (SG_q (Rq_fieldAddr fa26_1 rfl) rfl (SG_q (Rq_loadB ((hSt).below hb0) Tryz.isAgg23 rfl rfl) rfl (SG_q (Rq_move rfl) rfl ?_)))))))))
 first | refine SG_index ((hO).below hb0) Tryz.runUnderlying23 Tryz.sizeOf76 rfl rfl ?_ ?_ rfl ?_ | refine SG_index ((hT).below hb0) Tryz.runUnderlying23 Tryz.sizeOf76 rfl rfl ?_ ?_ rfl ?_
 ·(try rw [htl]); omega
 ·(try rw [htl]); omega
 intro x12 hx12 hc12;have ex12 := Option.some.inj ((hxi).symm.trans hx12); subst ex12;refine SG_q (Rq_loadA Tryz.isAgg76 Tryz.sizeOf76 rfl ((hc12)) rfl) rfl (SG_alloc Tryz.zeroValue76 rfl rfl ?_);intro w5 b5 e5 hb5 hz5 hB5
 have hle5 : w.heap.size ≤ b5 := by have := hb0.size; omega
 have ne_b4_5 : ¬ b4 = b5 := by have := hB4.lt; omega
 replace hb0 := btr hb0 hb5;replace hB4 := hB4.below hb5;refine SG_storeW (hB5) rfl rfl rfl rfl Tryz.sizeOf76 rfl rfl ?_;intro ws1x9 hchs1x9 hBs1x9;replace hb0 := bchg hb0 hchs1x9 hle5;replace hB4 := hB4.chg hchs1x9 ne_b4_5;clear hc12;clear hB5;refine SG_nil ?_;refine D_then ?_;refine W_seq ?_;refine W_seq ?_;refine W_quiet (Tryz.mixed) (by kernel_rfl) ?_;refine QS_q (Rq_fieldAddr fa76_1 rfl) rfl ?_;refine QS_q (Rq_loadB (hBs1x9) Tryz.isAgg3 rfl rfl) rfl ?_;refine QS_q (Rq_fieldAddr fa76_2 rfl) rfl ?_;refine QS_q (Rq_loadB (hBs1x9) Tryz.isAgg3 rfl rfl) rfl ?_;refine QS_q (Rq_eql rfl rfl) rfl ?_;refine QS_q (Rq_move rfl) rfl ?_;refine QS_and (r := ?r19n1) 19 38 19 rfl ?_ ?_ ?_; rotate_left
 ·intro g19 K19
  have g19' := g19; try simp only [dd] at g19'
  refine QS_yes 19 rfl rfl g19 ?_;refine QS_q (Rq_fieldAddr fa76_0 rfl) rfl ?_;refine QS_yes 19 rfl rfl g19 ?_;refine QS_q (Rq_loadB (hBs1x9) Tryz.isAgg5 rfl rfl) rfl ?_;refine QS_yes 19 rfl rfl g19 ?_;refine QS_q (Rq_eql rfl rfl) rfl ?_;refine QS_yes 19 rfl rfl g19 ?_;refine QS_q (Rq_move rfl) rfl ?_;refine QS_or (r := ?r23n2) 14 37 23 rfl ?_ ?_ ?_; rotate_left
  ·intro g23 K23
   have g23' := g23; try simp only [dd] at g23'
   refine QS_yes 23 rfl rfl g23 ?_;refine QS_q (Rq_fieldAddr fa76_0 rfl) rfl ?_;refine QS_yes 23 rfl rfl g23 ?_;refine QS_q (Rq_loadB (hBs1x9) Tryz.isAgg5 rfl rfl) rfl ?_;refine QS_yes 23 rfl rfl g23 ?_;refine QS_q (Rq_eql rfl rfl) rfl ?_;refine QS_yes 23 rfl rfl g23 ?_;refine QS_q (Rq_move rfl) rfl ?_;refine QS_and (r := ?r27n3) 9 36 27 rfl ?_ ?_ ?_; rotate_left
   ·intro g27 K27
    have g27' := g27; try simp only [dd] at g27'
    refine QS_yes 27 rfl rfl g27 (QS_q (Rq_move rfl) rfl (QS_yes 27 rfl rfl g27 (QS_q (Rq_nilCheck rfl) rfl (QS_yes 27 rfl rfl g27 (QS_q (Rq_fieldAddr fa92_2 rfl) rfl (QS_yes 27 rfl rfl g27 (QS_q (Rq_loadB ((hSt).below hb0) Tryz.isAgg54 rfl rfl) rfl (QS_yes 27 rfl rfl g27 (QS_q (Rq_fieldAddr fa76_1 rfl) rfl (QS_yes 27 rfl rfl g27 (QS_q (Rq_loadB (hBs1x9) Tryz.isAgg3 rfl rfl) rfl (QS_yes 27 rfl rfl g27 ?_))))))))))))
    first | refine QS_index ((hO).below hb0) Tryz.runUnderlying54 Tryz.sizeOf4 rfl rfl ?_ ?_ rfl ?_ | refine QS_index ((hT).below hb0) Tryz.runUnderlying54 Tryz.sizeOf4 rfl rfl ?_ ?_ rfl ?_
    ·(try rw [htl]); omega
    ·(try rw [htl]); omega
    intro x34 hx34 hc34;have ex34 := Option.some.inj ((hxta).symm.trans hx34); subst ex34;refine QS_yes 27 rfl rfl g27 (QS_q (Rq_load Tryz.isAgg4 rfl ((hc34).cell 0 rfl)) rfl (QS_yes 23 rfl rfl g23 (QS_q (Rq_pick rfl (fun _ => rfl) (fun h => absurd (g27.symm.trans h) (by decide))) rfl ?_)));exact K27 _ (by repeat (first | exact Sub.refl | refine Sub.shadow ?_ | refine Sub.same ?_ | refine Sub.push rfl ?_))
   ·intro g27 K27
    have g27' := g27; try simp only [dd] at g27'
    refine QS_no 27 rfl rfl g27 rfl (QS_no 27 rfl rfl g27 rfl (QS_no 27 rfl rfl g27 rfl (QS_no 27 rfl rfl g27 rfl (QS_no 27 rfl rfl g27 rfl (QS_no 27 rfl rfl g27 rfl (QS_no 27 rfl rfl g27 rfl (QS_no 27 rfl rfl g27 rfl (QS_yes 23 rfl rfl g23 (QS_q (Rq_pick rfl (fun h => absurd (g27.symm.trans h) (by decide)) (fun _ => rfl)) rfl ?_)))))))));exact K27 _ (by repeat (first | exact Sub.refl | refine Sub.shadow ?_ | refine Sub.same ?_ | refine Sub.push rfl ?_))
   simp only [List.drop_succ_cons, List.drop_zero]
   refine QS_yes 19 rfl rfl g19 (QS_q (Rq_pick rfl (fun h => absurd (g23.symm.trans h) (by decide)) (fun _ => rfl)) rfl ?_);exact K23 _ (by repeat (first | exact Sub.refl | refine Sub.shadow ?_ | refine Sub.same ?_ | refine Sub.push rfl ?_))
  ·intro g23 K23
   have g23' := g23; try simp only [dd] at g23'
   refine QS_no 23 rfl rfl g23 rfl (QS_no 23 rfl rfl g23 rfl (QS_no 23 rfl rfl g23 rfl (QS_no 23 rfl rfl g23 rfl (QS_skip 27 rfl rfl rfl (QS_skip 27 rfl rfl rfl (QS_skip 27 rfl rfl rfl (QS_skip 27 rfl rfl rfl (QS_skip 27 rfl rfl rfl (QS_skip 27 rfl rfl rfl (QS_skip 27 rfl rfl rfl (QS_skip 27 rfl rfl rfl (QS_no 23 rfl rfl g23 rfl (QS_yes 19 rfl rfl g19 (QS_q (Rq_pick rfl (fun _ => rfl) (fun h => absurd (g23.symm.trans h) (by decide))) rfl ?_))))))))))))));exact K23 _ (by repeat (first | exact Sub.refl | refine Sub.shadow ?_ | refine Sub.same ?_ | refine Sub.push rfl ?_))
  simp only [List.drop_succ_cons, List.drop_zero]
  refine QS_q (Rq_pick rfl (fun _ => rfl) (fun h => absurd (g19.symm.trans h) (by decide))) rfl ?_;exact K19 _ (by repeat (first | exact Sub.refl | refine Sub.shadow ?_ | refine Sub.same ?_ | refine Sub.push rfl ?_))
 ·intro g19 K19
  have g19' := g19; try simp only [dd] at g19'
  refine QS_no 19 rfl rfl g19 rfl (QS_no 19 rfl rfl g19 rfl (QS_no 19 rfl rfl g19 rfl (QS_no 19 rfl rfl g19 rfl (QS_skip 23 rfl rfl rfl (QS_skip 23 rfl rfl rfl (QS_skip 23 rfl rfl rfl (QS_skip 23 rfl rfl rfl (QS_skip 27 rfl rfl rfl (QS_skip 27 rfl rfl rfl (QS_skip 27 rfl rfl rfl (QS_skip 27 rfl rfl rfl (QS_skip 27 rfl rfl rfl (QS_skip 27 rfl rfl rfl (QS_skip 27 rfl rfl rfl (QS_skip 27 rfl rfl rfl (QS_skip 23 rfl rfl rfl (QS_no 19 rfl rfl g19 rfl (QS_q (Rq_pick rfl (fun h => absurd (g19.symm.trans h) (by decide)) (fun _ => rfl)) rfl ?_))))))))))))))))));exact K19 _ (by repeat (first | exact Sub.refl | refine Sub.shadow ?_ | refine Sub.same ?_ | refine Sub.push rfl ?_))
 simp only [List.drop_succ_cons, List.drop_zero]
 refine QS_nil ?_;intro wr2 hbr2;replace hb0 := btr hb0 hbr2;replace hB4 := hB4.below hbr2;replace hBs1x9 := hBs1x9.below hbr2;refine D_then ?_;refine W_cond rfl ?_ ?_
 ·intro g38
  try simp only [dd] at g38
  refine W_seq ?_;refine W_region ?_;refine SG_q (Rq_fieldAddr fa76_1 rfl) rfl ?_;refine SG_q (Rq_loadB (hBs1x9) Tryz.isAgg3 rfl rfl) rfl ?_;refine SG_pure rfl Tryz.call115 rfl (f115_c _ _) ?_;intro w41 hb41;replace hb0 := btr hb0 hb41;replace hB4 := hB4.below hb41;refine SG_storeW (hB4) rfl rfl rfl rfl Tryz.sizeOf119 rfl rfl ?_;intro ws3x3 hchs3x3 hBs3x3;replace hb0 := bchg hb0 hchs3x3 hle4;clear hB4;refine SG_nil ?_;refine D_then ?_;refine W_ret ?_;refine D_then_ret ?_;refine D_bodyR1 rfl rfl (.cellW rfl (hBs3x3) Tryz.isAgg119 Tryz.sizeOf119 rfl) ?_;exact ⟨by rw [selfR, if_pos (by simpa using g38)]; rfl, hb0⟩
 ·intro g38
  try simp only [dd] at g38
  refine W_skip ?_;refine D_then ?_;refine W_seq ?_;refine W_region ?_;refine SG_q (Rq_build0 build119_) rfl ?_;refine SG_storeW (hB4) rfl rfl rfl rfl Tryz.sizeOf119 rfl rfl ?_;intro ws4x1 hchs4x1 hBs4x1;replace hb0 := bchg hb0 hchs4x1 hle4;clear hB4;refine SG_nil ?_;refine D_then ?_;refine W_ret ?_;refine D_bodyR1 rfl rfl (.cellW rfl (hBs4x1) Tryz.isAgg119 Tryz.sizeOf119 rfl) ?_;exact ⟨by rw [selfR, if_neg (by simpa using g38)]; rfl, hb0⟩
theorem f96_c {vC vO vR vU vT vM : Value} {ops : List Ot} {bs TS : Nat} {w : World} (hSt : Blk w bs [vC, vO, vR, vU, vT, vM] TS) (hO : SL w vO 5 encO ops) {tr : List Bool} (hT : SL w vT 1 encB tr) (htl : tr.length = ops.length) (hW : ∀ j : Int, 0 ≤ j → j < ops.length → Bd ops.length (getO ops j)) {i : Int} (hi0 : 0 ≤ i) (hi1 : i < ops.length) {x : Ot} (hx : getO ops i = x) : Pure Tryz.prog 96 #[.pointer (some ⟨bs, 0, none⟩), .int .i64 i] w (valOc (unitR ops x)) := by
 have hxi := getO_some hi0 hi1;have hbd := hW i hi0 hi1;rw [hx] at hxi hbd;have hxa := getO_some hbd.a0 hbd.a1;have hxb := getO_some hbd.b0 hbd.b1;have hxc := getO_some hbd.c0 hbd.c1;have hba := hbd.a0;have hba1 := hbd.a1;have hbb := hbd.b0;have hbb1 := hbd.b1;have hbc := hbd.c0;have hbc1 := hbd.c1;have hb0 := Below.refl w.heap.size w;refine calls_of_W Tryz.func96 rfl Tryz.ntmps96 rfl ?_;refine W_seq (W_region (SG_alloc Tryz.zeroValue119 rfl rfl ?_));intro w4 b4 e4 hb4 hz4 hB4
 have hle4 : w.heap.size ≤ b4 := by have := hb0.size; omega
 replace hb0 := btr hb0 hb4;refine SG_nil (D_then (W_seq (W_region (SG_q (Rq_assign rfl) rfl (SG_nil (D_then (W_seq (W_region (SG_q (Rq_move rfl) rfl (SG_q (Rq_nilCheck rfl) rfl (SG_q (Rq_fieldAddr fa92_0 rfl) rfl (SG_q (Rq_fieldAddr fa26_1 rfl) rfl (SG_q (Rq_loadB ((hSt).below hb0) Tryz.isAgg23 rfl rfl) rfl (SG_q (Rq_move rfl) rfl ?_))))))))))))))
 first | refine SG_index ((hO).below hb0) Tryz.runUnderlying23 Tryz.sizeOf76 rfl rfl ?_ ?_ rfl ?_ | refine SG_index ((hT).below hb0) Tryz.runUnderlying23 Tryz.sizeOf76 rfl rfl ?_ ?_ rfl ?_
 ·omega
 ·omega
 intro x13 hx13 hc13;have ex13 := Option.some.inj ((hxi).symm.trans hx13); subst ex13;refine SG_q (Rq_loadA Tryz.isAgg76 Tryz.sizeOf76 rfl ((hc13)) rfl) rfl (SG_alloc Tryz.zeroValue76 rfl rfl ?_);intro w6 b6 e6 hb6 hz6 hB6
 have hle6 : w.heap.size ≤ b6 := by have := hb0.size; omega
 have ne_b4_6 : ¬ b4 = b6 := by have := hB4.lt; omega
 replace hb0 := btr hb0 hb6;replace hB4 := hB4.below hb6;refine SG_storeW (hB6) rfl rfl rfl rfl Tryz.sizeOf76 rfl rfl ?_;intro ws2x9 hchs2x9 hBs2x9;replace hb0 := bchg hb0 hchs2x9 hle6;replace hB4 := hB4.chg hchs2x9 ne_b4_6;clear hc13;clear hB6;refine SG_nil ?_;refine D_then ?_;refine W_seq ?_;refine W_seq ?_;refine W_region ?_;refine SG_q (Rq_fieldAddr fa76_0 rfl) rfl ?_;refine SG_q (Rq_loadB (hBs2x9) Tryz.isAgg5 rfl rfl) rfl ?_;refine SG_nil ?_;refine D_then ?_;refine W_block ?_;refine W_seq ?_;refine W_block ?_;refine W_seq ?_;refine W_block ?_;refine W_seq ?_;refine W_seq ?_;refine W_seq ?_;refine W_seq ?_;refine W_region ?_;refine SG_q (Rq_eql rfl rfl) rfl ?_;refine SG_q (Rq_assign rfl) rfl ?_;refine SG_nil ?_;refine D_then ?_;refine W_or (r := ?rc17n1) rfl ?_ ?_; rotate_left
 ·intro g17 K17
  try simp only [dd] at g17
  refine W_region (SG_q (Rq_eql rfl rfl) rfl (SG_q (Rq_assign rfl) rfl (SG_nil ?_)));exact K17 _ (by repeat (first | exact Sub.refl | refine Sub.shadow ?_ | refine Sub.same ?_ | refine Sub.push rfl ?_))
 refine D_then ?_;refine W_cond rfl ?_ ?_
 ·intro g17
  try simp only [dd] at g17
  refine W_exit (D_then_exit (D_then_exit (D_block_exit (D_then (W_region (SG_q (Rq_assign rfl) rfl (SG_nil (D_block (D_then (W_seq (W_seq (W_seq (W_region (SG_q (Rq_move rfl) rfl (SG_q (Rq_fieldAddr fa76_2 rfl) rfl (SG_q (Rq_loadB (hBs2x9) Tryz.isAgg3 rfl rfl) rfl (SG_q (Rq_move rfl) rfl (SG_pure rfl Tryz.call117 rfl (f117_c ((hSt).below hb0) ((hO).below hb0) (by omega) (by omega) _) ?_))))))))))))))))));intro w27 hb27;replace hb0 := btr hb0 hb27;replace hB4 := hB4.below hb27;replace hBs2x9 := hBs2x9.below hb27;refine SG_nil (D_then ?_);refine W_cond rfl ?_ ?_
  ·intro g27
   try simp only [dd] at g27
   refine W_seq ?_;refine W_region ?_;refine SG_q (Rq_fieldAddr fa76_1 rfl) rfl ?_;refine SG_q (Rq_loadB (hBs2x9) Tryz.isAgg3 rfl rfl) rfl ?_;refine SG_pure rfl Tryz.call115 rfl (f115_c _ _) ?_;intro w30 hb30;replace hb0 := btr hb0 hb30;replace hB4 := hB4.below hb30;refine SG_storeW (hB4) rfl rfl rfl rfl Tryz.sizeOf119 rfl rfl ?_;intro ws10x3 hchs10x3 hBs10x3;replace hb0 := bchg hb0 hchs10x3 hle4;clear hB4;refine SG_nil ?_;refine D_then ?_;refine W_ret ?_;refine D_then_ret ?_;refine D_then_ret ?_;refine D_block_ret ?_;refine D_then_ret ?_;refine D_bodyR1 rfl rfl (.cellW rfl (hBs10x3) Tryz.isAgg119 Tryz.sizeOf119 rfl) ?_;exact ⟨by rw [unitR, if_pos g17, unit1, if_pos g27]; rfl, hb0⟩
  ·intro g27
   try simp only [dd] at g27
   refine W_skip ?_;refine D_then ?_;refine W_seq ?_;refine W_region ?_;refine SG_q (Rq_fieldAddr fa76_0 rfl) rfl ?_;refine SG_q (Rq_loadB (hBs2x9) Tryz.isAgg5 rfl rfl) rfl ?_;refine SG_q (Rq_eql rfl rfl) rfl ?_;refine SG_q (Rq_move rfl) rfl ?_;refine SG_or (r := ?r34n2) 4 38 34 rfl ?_ ?_ ?_; rotate_left
   ·intro g34 K34
    have g34' := g34; try simp only [dd] at g34'
    have hm34 := Below.refl (w27).heap.size w27;refine SG_yes 34 rfl rfl g34 (SG_q (Rq_fieldAddr fa76_0 rfl) rfl (SG_yes 34 rfl rfl g34 (SG_q (Rq_loadB (hBs2x9) Tryz.isAgg5 rfl rfl) rfl (SG_yes 34 rfl rfl g34 (SG_q (Rq_eql rfl rfl) rfl (SG_q (Rq_pick rfl (fun h => absurd (g34.symm.trans h) (by decide)) (fun _ => rfl)) rfl ?_))))));exact K34 _ _ hm34 (by repeat (first | exact Sub.refl | refine Sub.shadow ?_ | refine Sub.same ?_ | refine Sub.push rfl ?_))
   ·intro g34 K34
    have g34' := g34; try simp only [dd] at g34'
    have hm34 := Below.refl (w27).heap.size w27;refine SG_no 34 rfl rfl g34 rfl (SG_no 34 rfl rfl g34 rfl (SG_no 34 rfl rfl g34 rfl (SG_q (Rq_pick rfl (fun _ => rfl) (fun h => absurd (g34.symm.trans h) (by decide))) rfl ?_)));exact K34 _ _ hm34 (by repeat (first | exact Sub.refl | refine Sub.shadow ?_ | refine Sub.same ?_ | refine Sub.push rfl ?_))
   intro wm34 hbm34;replace hb0 := btr hb0 hbm34;replace hB4 := hB4.below hbm34;replace hBs2x9 := hBs2x9.below hbm34
   simp only [List.drop_succ_cons, List.drop_zero]
   refine SG_q (Rq_move rfl) rfl ?_;refine SG_and (r := ?r39n3) 6 45 39 rfl ?_ ?_ ?_; rotate_left
   ·intro g39 K39
    have g39' := g39; try simp only [dd] at g39'
    have hm39 := Below.refl (wm34).heap.size wm34;refine SG_yes 39 rfl rfl g39 (SG_q (Rq_move rfl) rfl (SG_yes 39 rfl rfl g39 (SG_q (Rq_fieldAddr fa76_1 rfl) rfl (SG_yes 39 rfl rfl g39 (SG_q (Rq_loadB (hBs2x9) Tryz.isAgg3 rfl rfl) rfl (SG_yes 39 rfl rfl g39 (SG_q (Rq_move rfl) rfl (SG_yes 39 rfl rfl g39 (SG_pure rfl Tryz.call117 rfl (f117_c ((hSt).below hb0) ((hO).below hb0) (by omega) (by omega) _) ?_)))))))));intro w44 hb44;replace hb0 := btr hb0 hb44;replace hm39 := btr hm39 hb44;refine SG_q (Rq_pick rfl (fun _ => rfl) (fun h => absurd (g39.symm.trans h) (by decide))) rfl ?_;exact K39 _ _ hm39 (by repeat (first | exact Sub.refl | refine Sub.shadow ?_ | refine Sub.same ?_ | refine Sub.push rfl ?_))
   ·intro g39 K39
    have g39' := g39; try simp only [dd] at g39'
    have hm39 := Below.refl (wm34).heap.size wm34;refine SG_no 39 rfl rfl g39 rfl (SG_no 39 rfl rfl g39 rfl (SG_no 39 rfl rfl g39 rfl (SG_no 39 rfl rfl g39 rfl (SG_no 39 rfl rfl g39 rfl (SG_q (Rq_pick rfl (fun h => absurd (g39.symm.trans h) (by decide)) (fun _ => rfl)) rfl ?_)))));exact K39 _ _ hm39 (by repeat (first | exact Sub.refl | refine Sub.shadow ?_ | refine Sub.same ?_ | refine Sub.push rfl ?_))
   intro wm39 hbm39;replace hb0 := btr hb0 hbm39;replace hB4 := hB4.below hbm39;replace hBs2x9 := hBs2x9.below hbm39
   simp only [List.drop_succ_cons, List.drop_zero]
   refine SG_nil (D_then ?_);refine W_cond rfl ?_ ?_
   ·intro g45
    try simp only [dd] at g45
    refine W_seq ?_;refine W_region ?_;refine SG_q (Rq_fieldAddr fa76_2 rfl) rfl ?_;refine SG_q (Rq_loadB (hBs2x9) Tryz.isAgg3 rfl rfl) rfl ?_;refine SG_pure rfl Tryz.call115 rfl (f115_c _ _) ?_;intro w48 hb48;replace hb0 := btr hb0 hb48;replace hB4 := hB4.below hb48;refine SG_storeW (hB4) rfl rfl rfl rfl Tryz.sizeOf119 rfl rfl ?_;intro ws12x3 hchs12x3 hBs12x3;replace hb0 := bchg hb0 hchs12x3 hle4;clear hB4;refine SG_nil ?_;refine D_then ?_;refine W_ret ?_;refine D_then_ret ?_;refine D_block_ret ?_;refine D_then_ret ?_;refine D_bodyR1 rfl rfl (.cellW rfl (hBs12x3) Tryz.isAgg119 Tryz.sizeOf119 rfl) ?_;exact ⟨by rw [unitR, if_pos g17, unit1, if_neg (by simpa using g27), if_pos g45]; rfl, hb0⟩
   ·intro g45
    try simp only [dd] at g45
    refine W_skip ?_;refine D_then ?_;refine W_exit ?_;refine D_block_exit ?_;refine D_then ?_;refine W_seq ?_;refine W_region ?_;refine SG_q (Rq_build0 build119_) rfl ?_;refine SG_storeW (hB4) rfl rfl rfl rfl Tryz.sizeOf119 rfl rfl ?_;intro ws13x1 hchs13x1 hBs13x1;replace hb0 := bchg hb0 hchs13x1 hle4;clear hB4;refine SG_nil ?_;refine D_then ?_;refine W_ret ?_;refine D_bodyR1 rfl rfl (.cellW rfl (hBs13x1) Tryz.isAgg119 Tryz.sizeOf119 rfl) ?_;exact ⟨by rw [unitR, if_pos g17, unit1, if_neg (by simpa using g27), if_neg (by simpa using g45)]; rfl, hb0⟩
 ·intro g17
  try simp only [dd] at g17
  refine W_skip ?_;refine D_then ?_;refine W_seq ?_;refine W_seq ?_;refine W_region ?_;refine SG_q (Rq_eql rfl rfl) rfl ?_;refine SG_q (Rq_assign rfl) rfl ?_;refine SG_nil ?_;refine D_then ?_;refine W_or (r := ?rc20n4) rfl ?_ ?_; rotate_left
  ·intro g20 K20
   try simp only [dd] at g20
   refine W_region (SG_q (Rq_eql rfl rfl) rfl (SG_q (Rq_assign rfl) rfl (SG_nil ?_)));exact K20 _ (by repeat (first | exact Sub.refl | refine Sub.shadow ?_ | refine Sub.same ?_ | refine Sub.push rfl ?_))
  refine D_then ?_;refine W_cond rfl ?_ ?_
  ·intro g20
   try simp only [dd] at g20
   refine W_exit (D_then_exit (D_block_other rfl (D_then_exit (D_block_exit (D_then (W_seq (W_seq (W_seq (W_region (SG_q (Rq_move rfl) rfl (SG_q (Rq_fieldAddr fa76_2 rfl) rfl (SG_q (Rq_loadB (hBs2x9) Tryz.isAgg3 rfl rfl) rfl (SG_q (Rq_move rfl) rfl (SG_pure rfl Tryz.call117 rfl (f117_c ((hSt).below hb0) ((hO).below hb0) (by omega) (by omega) _) ?_))))))))))))));intro w27 hb27;replace hb0 := btr hb0 hb27;replace hB4 := hB4.below hb27;replace hBs2x9 := hBs2x9.below hb27;refine SG_nil (D_then ?_);refine W_cond rfl ?_ ?_
   ·intro g27
    try simp only [dd] at g27
    refine W_seq ?_;refine W_region ?_;refine SG_q (Rq_fieldAddr fa76_1 rfl) rfl ?_;refine SG_q (Rq_loadB (hBs2x9) Tryz.isAgg3 rfl rfl) rfl ?_;refine SG_pure rfl Tryz.call115 rfl (f115_c _ _) ?_;intro w30 hb30;replace hb0 := btr hb0 hb30;replace hB4 := hB4.below hb30;refine SG_storeW (hB4) rfl rfl rfl rfl Tryz.sizeOf119 rfl rfl ?_;intro ws10x3 hchs10x3 hBs10x3;replace hb0 := bchg hb0 hchs10x3 hle4;clear hB4;refine SG_nil ?_;refine D_then ?_;refine W_ret ?_;refine D_then_ret ?_;refine D_then_ret ?_;refine D_block_ret ?_;refine D_then_ret ?_;refine D_bodyR1 rfl rfl (.cellW rfl (hBs10x3) Tryz.isAgg119 Tryz.sizeOf119 rfl) ?_;exact ⟨by rw [unitR, if_neg (by omega), if_pos g20, unit1, if_pos g27]; rfl, hb0⟩
   ·intro g27
    try simp only [dd] at g27
    refine W_skip ?_;refine D_then ?_;refine W_seq ?_;refine W_region ?_;refine SG_q (Rq_fieldAddr fa76_0 rfl) rfl ?_;refine SG_q (Rq_loadB (hBs2x9) Tryz.isAgg5 rfl rfl) rfl ?_;refine SG_q (Rq_eql rfl rfl) rfl ?_;refine SG_q (Rq_move rfl) rfl ?_;refine SG_or (r := ?r34n5) 4 38 34 rfl ?_ ?_ ?_; rotate_left
    ·intro g34 K34
     have g34' := g34; try simp only [dd] at g34'
     have hm34 := Below.refl (w27).heap.size w27;refine SG_yes 34 rfl rfl g34 (SG_q (Rq_fieldAddr fa76_0 rfl) rfl (SG_yes 34 rfl rfl g34 (SG_q (Rq_loadB (hBs2x9) Tryz.isAgg5 rfl rfl) rfl (SG_yes 34 rfl rfl g34 (SG_q (Rq_eql rfl rfl) rfl (SG_q (Rq_pick rfl (fun h => absurd (g34.symm.trans h) (by decide)) (fun _ => rfl)) rfl ?_))))));exact K34 _ _ hm34 (by repeat (first | exact Sub.refl | refine Sub.shadow ?_ | refine Sub.same ?_ | refine Sub.push rfl ?_))
    ·intro g34 K34
     have g34' := g34; try simp only [dd] at g34'
     have hm34 := Below.refl (w27).heap.size w27;refine SG_no 34 rfl rfl g34 rfl (SG_no 34 rfl rfl g34 rfl (SG_no 34 rfl rfl g34 rfl (SG_q (Rq_pick rfl (fun _ => rfl) (fun h => absurd (g34.symm.trans h) (by decide))) rfl ?_)));exact K34 _ _ hm34 (by repeat (first | exact Sub.refl | refine Sub.shadow ?_ | refine Sub.same ?_ | refine Sub.push rfl ?_))
    intro wm34 hbm34;replace hb0 := btr hb0 hbm34;replace hB4 := hB4.below hbm34;replace hBs2x9 := hBs2x9.below hbm34
    simp only [List.drop_succ_cons, List.drop_zero]
    refine SG_q (Rq_move rfl) rfl ?_;refine SG_and (r := ?r39n6) 6 45 39 rfl ?_ ?_ ?_; rotate_left
    ·intro g39 K39
     have g39' := g39; try simp only [dd] at g39'
     have hm39 := Below.refl (wm34).heap.size wm34;refine SG_yes 39 rfl rfl g39 (SG_q (Rq_move rfl) rfl (SG_yes 39 rfl rfl g39 (SG_q (Rq_fieldAddr fa76_1 rfl) rfl (SG_yes 39 rfl rfl g39 (SG_q (Rq_loadB (hBs2x9) Tryz.isAgg3 rfl rfl) rfl (SG_yes 39 rfl rfl g39 (SG_q (Rq_move rfl) rfl (SG_yes 39 rfl rfl g39 (SG_pure rfl Tryz.call117 rfl (f117_c ((hSt).below hb0) ((hO).below hb0) (by omega) (by omega) _) ?_)))))))));intro w44 hb44;replace hb0 := btr hb0 hb44;replace hm39 := btr hm39 hb44;refine SG_q (Rq_pick rfl (fun _ => rfl) (fun h => absurd (g39.symm.trans h) (by decide))) rfl ?_;exact K39 _ _ hm39 (by repeat (first | exact Sub.refl | refine Sub.shadow ?_ | refine Sub.same ?_ | refine Sub.push rfl ?_))
    ·intro g39 K39
     have g39' := g39; try simp only [dd] at g39'
     have hm39 := Below.refl (wm34).heap.size wm34;refine SG_no 39 rfl rfl g39 rfl (SG_no 39 rfl rfl g39 rfl (SG_no 39 rfl rfl g39 rfl (SG_no 39 rfl rfl g39 rfl (SG_no 39 rfl rfl g39 rfl (SG_q (Rq_pick rfl (fun h => absurd (g39.symm.trans h) (by decide)) (fun _ => rfl)) rfl ?_)))));exact K39 _ _ hm39 (by repeat (first | exact Sub.refl | refine Sub.shadow ?_ | refine Sub.same ?_ | refine Sub.push rfl ?_))
    intro wm39 hbm39;replace hb0 := btr hb0 hbm39;replace hB4 := hB4.below hbm39;replace hBs2x9 := hBs2x9.below hbm39
    simp only [List.drop_succ_cons, List.drop_zero]
    refine SG_nil (D_then ?_);refine W_cond rfl ?_ ?_
    ·intro g45
     try simp only [dd] at g45
     refine W_seq ?_;refine W_region ?_;refine SG_q (Rq_fieldAddr fa76_2 rfl) rfl ?_;refine SG_q (Rq_loadB (hBs2x9) Tryz.isAgg3 rfl rfl) rfl ?_;refine SG_pure rfl Tryz.call115 rfl (f115_c _ _) ?_;intro w48 hb48;replace hb0 := btr hb0 hb48;replace hB4 := hB4.below hb48;refine SG_storeW (hB4) rfl rfl rfl rfl Tryz.sizeOf119 rfl rfl ?_;intro ws12x3 hchs12x3 hBs12x3;replace hb0 := bchg hb0 hchs12x3 hle4;clear hB4;refine SG_nil ?_;refine D_then ?_;refine W_ret ?_;refine D_then_ret ?_;refine D_block_ret ?_;refine D_then_ret ?_;refine D_bodyR1 rfl rfl (.cellW rfl (hBs12x3) Tryz.isAgg119 Tryz.sizeOf119 rfl) ?_;exact ⟨by rw [unitR, if_neg (by omega), if_pos g20, unit1, if_neg (by simpa using g27), if_pos g45]; rfl, hb0⟩
    ·intro g45
     try simp only [dd] at g45
     refine W_skip ?_;refine D_then ?_;refine W_exit ?_;refine D_block_exit ?_;refine D_then ?_;refine W_seq ?_;refine W_region ?_;refine SG_q (Rq_build0 build119_) rfl ?_;refine SG_storeW (hB4) rfl rfl rfl rfl Tryz.sizeOf119 rfl rfl ?_;intro ws13x1 hchs13x1 hBs13x1;replace hb0 := bchg hb0 hchs13x1 hle4;clear hB4;refine SG_nil ?_;refine D_then ?_;refine W_ret ?_;refine D_bodyR1 rfl rfl (.cellW rfl (hBs13x1) Tryz.isAgg119 Tryz.sizeOf119 rfl) ?_;exact ⟨by rw [unitR, if_neg (by omega), if_pos g20, unit1, if_neg (by simpa using g27), if_neg (by simpa using g45)]; rfl, hb0⟩
  ·intro g20
   try simp only [dd] at g20
   refine W_skip ?_;refine D_then ?_;refine W_exit ?_;refine D_block_other rfl ?_;refine D_then_exit ?_;refine D_block_other rfl ?_;refine D_then_exit ?_;refine D_block_exit ?_;refine D_then ?_;refine W_seq ?_;refine W_region ?_;refine SG_q (Rq_build0 build119_) rfl ?_;refine SG_storeW (hB4) rfl rfl rfl rfl Tryz.sizeOf119 rfl rfl ?_;intro ws13x1 hchs13x1 hBs13x1;replace hb0 := bchg hb0 hchs13x1 hle4;clear hB4;refine SG_nil ?_;refine D_then ?_;refine W_ret ?_;refine D_bodyR1 rfl rfl (.cellW rfl (hBs13x1) Tryz.isAgg119 Tryz.sizeOf119 rfl) ?_;exact ⟨by rw [unitR, if_neg (by omega), if_neg (by omega)]; rfl, hb0⟩
theorem f91_c {vC vO vR vU vT vM : Value} {ops : List Ot} {bs TS : Nat} {w : World} (hSt : Blk w bs [vC, vO, vR, vU, vT, vM] TS) (hO : SL w vO 5 encO ops) {tr : List Bool} (hT : SL w vT 1 encB tr) (htl : tr.length = ops.length) (hW : ∀ j : Int, 0 ≤ j → j < ops.length → Bd ops.length (getO ops j)) {i : Int} (hi0 : 0 ≤ i) (hi1 : i < ops.length) {x : Ot} (hx : getO ops i = x) : Pure Tryz.prog 91 #[.pointer (some ⟨bs, 0, none⟩), .int .i64 i] w (valOc (workR ops x)) := by
 have hxi := getO_some hi0 hi1;have hbd := hW i hi0 hi1;rw [hx] at hxi hbd;have hxa := getO_some hbd.a0 hbd.a1;have hxb := getO_some hbd.b0 hbd.b1;have hxc := getO_some hbd.c0 hbd.c1;have hba := hbd.a0;have hba1 := hbd.a1;have hbb := hbd.b0;have hbb1 := hbd.b1;have hbc := hbd.c0;have hbc1 := hbd.c1;have hf1 := cellR_f (hW _ hba hba1).f;have hf2 := cellR_f (hW _ hbb hbb1).f;have hf3 := op1R_f (c := x.code) hf1;have hf4 := op2R_f (c := x.code) hf1 hf2;have hb0 := Below.refl w.heap.size w;refine calls_of_W Tryz.func91 rfl Tryz.ntmps91 rfl ?_;refine W_seq (W_region (SG_alloc Tryz.zeroValue119 rfl rfl ?_));intro w4 b4 e4 hb4 hz4 hB4
 have hle4 : w.heap.size ≤ b4 := by have := hb0.size; omega
 replace hb0 := btr hb0 hb4;refine SG_nil (D_then (W_seq (W_region (SG_q (Rq_move rfl) rfl (SG_q (Rq_nilCheck rfl) rfl (SG_q (Rq_fieldAddr fa92_0 rfl) rfl (SG_q (Rq_fieldAddr fa26_1 rfl) rfl (SG_q (Rq_loadB ((hSt).below hb0) Tryz.isAgg23 rfl rfl) rfl (SG_q (Rq_move rfl) rfl ?_)))))))))
 first | refine SG_index ((hO).below hb0) Tryz.runUnderlying23 Tryz.sizeOf76 rfl rfl ?_ ?_ rfl ?_ | refine SG_index ((hT).below hb0) Tryz.runUnderlying23 Tryz.sizeOf76 rfl rfl ?_ ?_ rfl ?_
 ·omega
 ·omega
 intro x18 hx18 hc18;have ex18 := Option.some.inj ((hxi).symm.trans hx18); subst ex18;refine SG_q (Rq_loadA Tryz.isAgg76 Tryz.sizeOf76 rfl ((hc18)) rfl) rfl (SG_alloc Tryz.zeroValue76 rfl rfl ?_);intro w5 b5 e5 hb5 hz5 hB5
 have hle5 : w.heap.size ≤ b5 := by have := hb0.size; omega
 have ne_b4_5 : ¬ b4 = b5 := by have := hB4.lt; omega
 replace hb0 := btr hb0 hb5;replace hB4 := hB4.below hb5;refine SG_storeW (hB5) rfl rfl rfl rfl Tryz.sizeOf76 rfl rfl ?_;intro ws1x9 hchs1x9 hBs1x9;replace hb0 := bchg hb0 hchs1x9 hle5;replace hB4 := hB4.chg hchs1x9 ne_b4_5;clear hc18;clear hB5;refine SG_nil ?_;refine D_then ?_;refine W_seq ?_;refine W_seq ?_;refine W_region ?_;refine SG_q (Rq_fieldAddr fa76_0 rfl) rfl ?_;refine SG_q (Rq_loadB (hBs1x9) Tryz.isAgg5 rfl rfl) rfl ?_;refine SG_q (Rq_lss rfl rfl) rfl ?_;refine SG_q (Rq_move rfl) rfl ?_;refine SG_or (r := ?r23n1) 4 27 23 rfl ?_ ?_ ?_; rotate_left
 ·intro g23 K23
  have g23' := g23; try simp only [dd] at g23'
  have hm23 := Below.refl (ws1x9).heap.size ws1x9;refine SG_yes 23 rfl rfl g23 (SG_q (Rq_fieldAddr fa76_0 rfl) rfl (SG_yes 23 rfl rfl g23 (SG_q (Rq_loadB (hBs1x9) Tryz.isAgg5 rfl rfl) rfl (SG_yes 23 rfl rfl g23 (SG_q (Rq_gtr rfl rfl) rfl (SG_q (Rq_pick rfl (fun h => absurd (g23.symm.trans h) (by decide)) (fun _ => rfl)) rfl ?_))))));exact K23 _ _ hm23 (by repeat (first | exact Sub.refl | refine Sub.shadow ?_ | refine Sub.same ?_ | refine Sub.push rfl ?_))
 ·intro g23 K23
  have g23' := g23; try simp only [dd] at g23'
  have hm23 := Below.refl (ws1x9).heap.size ws1x9;refine SG_no 23 rfl rfl g23 rfl (SG_no 23 rfl rfl g23 rfl (SG_no 23 rfl rfl g23 rfl (SG_q (Rq_pick rfl (fun _ => rfl) (fun h => absurd (g23.symm.trans h) (by decide))) rfl ?_)));exact K23 _ _ hm23 (by repeat (first | exact Sub.refl | refine Sub.shadow ?_ | refine Sub.same ?_ | refine Sub.push rfl ?_))
 intro wm23 hbm23;replace hb0 := btr hb0 hbm23;replace hB4 := hB4.below hbm23;replace hBs1x9 := hBs1x9.below hbm23
 simp only [List.drop_succ_cons, List.drop_zero]
 refine SG_nil (D_then ?_);refine W_cond rfl ?_ ?_
 ·intro g27
  try simp only [dd] at g27
  refine W_seq ?_;refine W_region ?_;refine SG_q (Rq_build0 build119_) rfl ?_;refine SG_storeW (hB4) rfl rfl rfl rfl Tryz.sizeOf119 rfl rfl ?_;intro ws3x1 hchs3x1 hBs3x1;replace hb0 := bchg hb0 hchs3x1 hle4;clear hB4;refine SG_nil ?_;refine D_then ?_;refine W_ret ?_;refine D_then_ret ?_;refine D_bodyR1 rfl rfl (.cellW rfl (hBs3x1) Tryz.isAgg119 Tryz.sizeOf119 rfl) ?_;exact ⟨by rw [workR, if_pos g27]; rfl, hb0⟩
 ·intro g27
  try simp only [dd] at g27
  refine W_skip (D_then (W_seq (W_region (SG_q (Rq_move rfl) rfl (SG_q (Rq_fieldAddr fa76_1 rfl) rfl (SG_q (Rq_loadB (hBs1x9) Tryz.isAgg3 rfl rfl) rfl (SG_pure rfl Tryz.call113 rfl (f113_c ((hSt).below hb0) ((hO).below hb0) (by omega) (by omega) (hW _ hba hba1).f) ?_)))))));intro w33 hb33;replace hb0 := btr hb0 hb33;replace hB4 := hB4.below hb33;replace hBs1x9 := hBs1x9.below hb33;refine SG_q (Rq_move rfl) rfl (SG_q (Rq_extract rfl rfl) rfl (SG_q (Rq_extract rfl rfl) rfl (SG_alloc Tryz.zeroValue106 rfl rfl ?_)));intro w6 b6 e6 hb6 hz6 hB6
  have hle6 : w.heap.size ≤ b6 := by have := hb0.size; omega
  have ne_b4_6 : ¬ b4 = b6 := by have := hB4.lt; omega
  have ne_b5_6 : ¬ b5 = b6 := by have := hBs1x9.lt; omega
  replace hb0 := btr hb0 hb6;replace hB4 := hB4.below hb6;replace hBs1x9 := hBs1x9.below hb6;refine SG_storeW (hB6) rfl rfl rfl rfl Tryz.sizeOf106 rfl rfl ?_;intro ws4x8 hchs4x8 hBs4x8;replace hb0 := bchg hb0 hchs4x8 hle6;replace hB4 := hB4.chg hchs4x8 ne_b4_6;replace hBs1x9 := hBs1x9.chg hchs4x8 ne_b5_6;clear hB6;refine SG_q (Rq_assign rfl) rfl (SG_nil (D_then (W_seq (W_seq (W_region (SG_q (Rq_move rfl) rfl (SG_q (Rq_not rfl) rfl (SG_nil (D_then ?_)))))))));refine W_cond rfl ?_ ?_
  ·intro g37
   try simp only [dd] at g37
   refine W_seq ?_;refine W_region ?_;refine SG_q (Rq_build0 build119_) rfl ?_;refine SG_storeW (hB4) rfl rfl rfl rfl Tryz.sizeOf119 rfl rfl ?_;intro ws6x1 hchs6x1 hBs6x1;replace hb0 := bchg hb0 hchs6x1 hle4;clear hB4;refine SG_nil ?_;refine D_then ?_;refine W_ret ?_;refine D_then_ret ?_;refine D_bodyR1 rfl rfl (.cellW rfl (hBs6x1) Tryz.isAgg119 Tryz.sizeOf119 rfl) ?_;exact ⟨by rw [workR, if_neg (by omega), if_pos g37]; rfl, hb0⟩
  ·intro g37
   try simp only [dd] at g37
   refine W_skip (D_then (W_seq (W_region (SG_q (Rq_fieldAddr fa76_0 rfl) rfl (SG_q (Rq_loadB (hBs1x9) Tryz.isAgg5 rfl rfl) rfl ?_)))))
   first | refine SG_q (Rq_loadBW (hBs4x8) Tryz.isAgg106 Tryz.sizeOf106 rfl rfl) rfl ?_ | refine SG_q (Rq_loadBA (hBs4x8) Tryz.isAgg106 Tryz.sizeOf106 rfl rfl rfl) rfl ?_
   refine SG_pure rfl Tryz.call109 rfl (f109_c _ _ _) ?_;intro w43 hb43;replace hb0 := btr hb0 hb43;replace hB4 := hB4.below hb43;replace hBs1x9 := hBs1x9.below hb43;replace hBs4x8 := hBs4x8.below hb43;refine SG_q (Rq_move rfl) rfl (SG_q (Rq_extract rfl rfl) rfl (SG_q (Rq_extract rfl rfl) rfl (SG_alloc Tryz.zeroValue106 rfl rfl ?_)));intro w8 b8 e8 hb8 hz8 hB8
   have hle8 : w.heap.size ≤ b8 := by have := hb0.size; omega
   have ne_b4_8 : ¬ b4 = b8 := by have := hB4.lt; omega
   have ne_b5_8 : ¬ b5 = b8 := by have := hBs1x9.lt; omega
   have ne_b6_8 : ¬ b6 = b8 := by have := hBs4x8.lt; omega
   replace hb0 := btr hb0 hb8;replace hB4 := hB4.below hb8;replace hBs1x9 := hBs1x9.below hb8;replace hBs4x8 := hBs4x8.below hb8;refine SG_storeW (hB8) rfl rfl rfl rfl Tryz.sizeOf106 rfl rfl ?_;intro ws7x8 hchs7x8 hBs7x8;replace hb0 := bchg hb0 hchs7x8 hle8;replace hB4 := hB4.chg hchs7x8 ne_b4_8;replace hBs1x9 := hBs1x9.chg hchs7x8 ne_b5_8;replace hBs4x8 := hBs4x8.chg hchs7x8 ne_b6_8;clear hB8;refine SG_q (Rq_assign rfl) rfl (SG_nil (D_then (W_seq (W_seq (W_region (SG_q (Rq_move rfl) rfl (SG_q (Rq_neq rfl rfl) rfl (SG_nil (D_then ?_)))))))));refine W_cond rfl ?_ ?_
   ·intro g47
    try simp only [dd] at g47
    refine W_seq (W_region (SG_q (Rq_move rfl) rfl (SG_q (Rq_fieldAddr fa76_2 rfl) rfl (SG_q (Rq_loadB (hBs1x9) Tryz.isAgg3 rfl rfl) rfl (SG_pure rfl Tryz.call113 rfl (f113_c ((hSt).below hb0) ((hO).below hb0) (by omega) (by omega) (hW _ hbb hbb1).f) ?_)))));intro w52 hb52;replace hb0 := btr hb0 hb52;replace hB4 := hB4.below hb52;replace hBs1x9 := hBs1x9.below hb52;replace hBs4x8 := hBs4x8.below hb52;replace hBs7x8 := hBs7x8.below hb52;refine SG_q (Rq_move rfl) rfl (SG_q (Rq_extract rfl rfl) rfl (SG_q (Rq_extract rfl rfl) rfl (SG_alloc Tryz.zeroValue106 rfl rfl ?_)));intro w10 b10 e10 hb10 hz10 hB10
    have hle10 : w.heap.size ≤ b10 := by have := hb0.size; omega
    have ne_b4_10 : ¬ b4 = b10 := by have := hB4.lt; omega
    have ne_b5_10 : ¬ b5 = b10 := by have := hBs1x9.lt; omega
    have ne_b6_10 : ¬ b6 = b10 := by have := hBs4x8.lt; omega
    have ne_b8_10 : ¬ b8 = b10 := by have := hBs7x8.lt; omega
    replace hb0 := btr hb0 hb10;replace hB4 := hB4.below hb10;replace hBs1x9 := hBs1x9.below hb10;replace hBs4x8 := hBs4x8.below hb10;replace hBs7x8 := hBs7x8.below hb10;refine SG_storeW (hB10) rfl rfl rfl rfl Tryz.sizeOf106 rfl rfl ?_;intro ws9x8 hchs9x8 hBs9x8;replace hb0 := bchg hb0 hchs9x8 hle10;replace hB4 := hB4.chg hchs9x8 ne_b4_10;replace hBs1x9 := hBs1x9.chg hchs9x8 ne_b5_10;replace hBs4x8 := hBs4x8.chg hchs9x8 ne_b6_10;replace hBs7x8 := hBs7x8.chg hchs9x8 ne_b8_10;clear hB10;refine SG_q (Rq_assign rfl) rfl (SG_nil (D_then (W_seq (W_seq (W_region (SG_q (Rq_move rfl) rfl (SG_q (Rq_not rfl) rfl (SG_nil (D_then ?_)))))))));refine W_cond rfl ?_ ?_
    ·intro g56
     try simp only [dd] at g56
     refine W_seq ?_;refine W_region ?_;refine SG_q (Rq_build0 build119_) rfl ?_;refine SG_storeW (hB4) rfl rfl rfl rfl Tryz.sizeOf119 rfl rfl ?_;intro ws11x1 hchs11x1 hBs11x1;replace hb0 := bchg hb0 hchs11x1 hle4;clear hB4;refine SG_nil ?_;refine D_then ?_;refine W_ret ?_;refine D_then_ret ?_;refine D_then_ret ?_;refine D_bodyR1 rfl rfl (.cellW rfl (hBs11x1) Tryz.isAgg119 Tryz.sizeOf119 rfl) ?_;exact ⟨by rw [workR, if_neg (by omega), if_neg (by simpa using g37), if_pos g47, if_pos g56]; rfl, hb0⟩
    ·intro g56
     try simp only [dd] at g56
     refine W_skip (D_then (W_region (SG_q (Rq_fieldAddr fa76_0 rfl) rfl (SG_q (Rq_loadB (hBs1x9) Tryz.isAgg5 rfl rfl) rfl ?_))))
     first | refine SG_q (Rq_loadBW (hBs4x8) Tryz.isAgg106 Tryz.sizeOf106 rfl rfl) rfl ?_ | refine SG_q (Rq_loadBA (hBs4x8) Tryz.isAgg106 Tryz.sizeOf106 rfl rfl rfl) rfl ?_
     first | refine SG_q (Rq_loadBW (hBs9x8) Tryz.isAgg106 Tryz.sizeOf106 rfl rfl) rfl ?_ | refine SG_q (Rq_loadBA (hBs9x8) Tryz.isAgg106 Tryz.sizeOf106 rfl rfl rfl) rfl ?_
     refine SG_pure rfl Tryz.call111 rfl (f111_c _ _ _ _) ?_;intro w63 hb63;replace hb0 := btr hb0 hb63;replace hB4 := hB4.below hb63;replace hBs7x8 := hBs7x8.below hb63;refine SG_q (Rq_move rfl) rfl (SG_q (Rq_extract rfl rfl) rfl (SG_q (Rq_extract rfl rfl) rfl (SG_storeW (hBs7x8) rfl rfl rfl rfl Tryz.sizeOf106 rfl rfl ?_)));intro ws12x8 hchs12x8 hBs12x8;replace hb0 := bchg hb0 hchs12x8 hle8;replace hB4 := hB4.chg hchs12x8 ne_b4_8;clear hBs7x8;refine SG_nil (D_then (W_seq (W_seq (W_region (SG_q (Rq_fieldAddr fa106_0 rfl) rfl (SG_q (Rq_loadB (hBs12x8) Tryz.isAgg5 rfl rfl) rfl (SG_q (Rq_neq rfl rfl) rfl (SG_nil (D_then ?_)))))))));refine W_cond rfl ?_ ?_
     ·intro g68
      try simp only [dd] at g68
      refine W_seq ?_;refine W_region ?_;refine SG_q (Rq_fieldAddr fa106_0 rfl) rfl ?_;refine SG_q (Rq_loadB (hBs12x8) Tryz.isAgg5 rfl rfl) rfl ?_;refine SG_q (Rq_convert Tryz.runUnderlying5 Tryz.runUnderlying3 rfl (wrap_i64 (by omega) (by omega))) rfl ?_;refine SG_q (Rq_build2 build76_0_4 rfl rfl rfl rfl ) rfl ?_;refine SG_pure rfl Tryz.call114 rfl (f114_c ⟨2, 0, 0, 0, (op2R x.code (cellR (getO ops x.a)).1 (cellR (getO ops x.b)).1).1.f⟩ _) ?_;intro w73 hb73;replace hb0 := btr hb0 hb73;replace hB4 := hB4.below hb73;refine SG_storeW (hB4) rfl rfl rfl rfl Tryz.sizeOf119 rfl rfl ?_;intro ws14x5 hchs14x5 hBs14x5;replace hb0 := bchg hb0 hchs14x5 hle4;clear hB4;refine SG_nil ?_;refine D_then ?_;refine W_ret ?_;refine D_then_ret ?_;refine D_bodyR1 rfl rfl (.cellW rfl (hBs14x5) Tryz.isAgg119 Tryz.sizeOf119 rfl) ?_;exact ⟨by rw [workR, if_neg (by omega), if_neg (by simpa using g37), if_pos g47, if_neg (by simpa using g56), finR, if_pos g68]; rfl, hb0⟩
     ·intro g68
      try simp only [dd] at g68
      refine W_skip ?_;refine D_then ?_;refine W_seq ?_;refine W_region ?_;refine SG_q (Rq_fieldAddr fa106_1 rfl) rfl ?_;refine SG_q (Rq_loadB (hBs12x8) Tryz.isAgg3 rfl rfl) rfl ?_;refine SG_q (Rq_build2 build76_0_4 rfl rfl rfl rfl ) rfl ?_;refine SG_pure rfl Tryz.call114 rfl (f114_c ⟨1, 0, 0, 0, (op2R x.code (cellR (getO ops x.a)).1 (cellR (getO ops x.b)).1).1.n⟩ _) ?_;intro w77 hb77;replace hb0 := btr hb0 hb77;replace hB4 := hB4.below hb77;refine SG_storeW (hB4) rfl rfl rfl rfl Tryz.sizeOf119 rfl rfl ?_;intro ws15x4 hchs15x4 hBs15x4;replace hb0 := bchg hb0 hchs15x4 hle4;clear hB4;refine SG_nil ?_;refine D_then ?_;refine W_ret ?_;refine D_bodyR1 rfl rfl (.cellW rfl (hBs15x4) Tryz.isAgg119 Tryz.sizeOf119 rfl) ?_;exact ⟨by rw [workR, if_neg (by omega), if_neg (by simpa using g37), if_pos g47, if_neg (by simpa using g56), finR, if_neg (by simpa using g68)]; rfl, hb0⟩
   ·intro g47
    try simp only [dd] at g47
    refine W_skip (D_then (W_seq (W_seq (W_region (SG_q (Rq_fieldAddr fa106_0 rfl) rfl (SG_q (Rq_loadB (hBs7x8) Tryz.isAgg5 rfl rfl) rfl (SG_q (Rq_neq rfl rfl) rfl (SG_nil (D_then ?_)))))))));refine W_cond rfl ?_ ?_
    ·intro g68
     try simp only [dd] at g68
     refine W_seq ?_;refine W_region ?_;refine SG_q (Rq_fieldAddr fa106_0 rfl) rfl ?_;refine SG_q (Rq_loadB (hBs7x8) Tryz.isAgg5 rfl rfl) rfl ?_;refine SG_q (Rq_convert Tryz.runUnderlying5 Tryz.runUnderlying3 rfl (wrap_i64 (by omega) (by omega))) rfl ?_;refine SG_q (Rq_build2 build76_0_4 rfl rfl rfl rfl ) rfl ?_;refine SG_pure rfl Tryz.call114 rfl (f114_c ⟨2, 0, 0, 0, (op1R x.code (cellR (getO ops x.a)).1).1.f⟩ _) ?_;intro w73 hb73;replace hb0 := btr hb0 hb73;replace hB4 := hB4.below hb73;refine SG_storeW (hB4) rfl rfl rfl rfl Tryz.sizeOf119 rfl rfl ?_;intro ws14x5 hchs14x5 hBs14x5;replace hb0 := bchg hb0 hchs14x5 hle4;clear hB4;refine SG_nil ?_;refine D_then ?_;refine W_ret ?_;refine D_then_ret ?_;refine D_bodyR1 rfl rfl (.cellW rfl (hBs14x5) Tryz.isAgg119 Tryz.sizeOf119 rfl) ?_;exact ⟨by rw [workR, if_neg (by omega), if_neg (by simpa using g37), if_neg (by simpa using g47), finR, if_pos g68]; rfl, hb0⟩
    ·intro g68
     try simp only [dd] at g68
     refine W_skip ?_;refine D_then ?_;refine W_seq ?_;refine W_region ?_;refine SG_q (Rq_fieldAddr fa106_1 rfl) rfl ?_;refine SG_q (Rq_loadB (hBs7x8) Tryz.isAgg3 rfl rfl) rfl ?_;refine SG_q (Rq_build2 build76_0_4 rfl rfl rfl rfl ) rfl ?_;refine SG_pure rfl Tryz.call114 rfl (f114_c ⟨1, 0, 0, 0, (op1R x.code (cellR (getO ops x.a)).1).1.n⟩ _) ?_;intro w77 hb77;replace hb0 := btr hb0 hb77;replace hB4 := hB4.below hb77;refine SG_storeW (hB4) rfl rfl rfl rfl Tryz.sizeOf119 rfl rfl ?_;intro ws15x4 hchs15x4 hBs15x4;replace hb0 := bchg hb0 hchs15x4 hle4;clear hB4;refine SG_nil ?_;refine D_then ?_;refine W_ret ?_;refine D_bodyR1 rfl rfl (.cellW rfl (hBs15x4) Tryz.isAgg119 Tryz.sizeOf119 rfl) ?_;exact ⟨by rw [workR, if_neg (by omega), if_neg (by simpa using g37), if_neg (by simpa using g47), finR, if_neg (by simpa using g68)]; rfl, hb0⟩
theorem f101_c {vC vO vR vU vT : Value} {rM : Nat} {ops : List Ot} {bs TS : Nat} {w : World} (hSt : Blk w bs [vC, vO, vR, vU, vT, .map (some rM)] TS) (hO : SL w vO 5 encO ops) {kv : List (Ot × Int)} (hM : Mp w rM valO valI kv) {i : Int} (hi0 : 0 ≤ i) (hi1 : i < ops.length) {x : Ot} (hx : getO ops i = x) : Pure Tryz.prog 101 #[.pointer (some ⟨bs, 0, none⟩), .int .i64 i] w (valOc (sameR (mget kv) i x)) := by
 have hxi := getO_some hi0 hi1;rw [hx] at hxi;have hb0 := Below.refl w.heap.size w;refine calls_of_W Tryz.func101 rfl Tryz.ntmps101 rfl ?_;refine W_seq (W_region (SG_alloc Tryz.zeroValue119 rfl rfl ?_));intro w4 b4 e4 hb4 hz4 hB4
 have hle4 : w.heap.size ≤ b4 := by have := hb0.size; omega
 replace hb0 := btr hb0 hb4;refine SG_nil (D_then (W_seq (W_seq (W_quiet (Tryz.mixed) (by kernel_rfl) ?_))));refine QS_q (Rq_move rfl) rfl (QS_q (Rq_nilCheck rfl) rfl (QS_q (Rq_fieldAddr fa92_3 rfl) rfl (QS_q (Rq_loadB ((hSt).below hb0) Tryz.isAgg90 rfl rfl) rfl (QS_q (Rq_move rfl) rfl (QS_q (Rq_nilCheck rfl) rfl (QS_q (Rq_fieldAddr fa92_0 rfl) rfl (QS_q (Rq_fieldAddr fa26_1 rfl) rfl (QS_q (Rq_loadB ((hSt).below hb0) Tryz.isAgg23 rfl rfl) rfl (QS_q (Rq_move rfl) rfl ?_)))))))));refine QS_index ((hO).below hb0) Tryz.runUnderlying23 Tryz.sizeOf76 rfl rfl ?_ ?_ rfl ?_
 ·omega
 ·omega
 intro x16 hx16 hc16;have ex16 := Option.some.inj ((hxi).symm.trans hx16); subst ex16;refine QS_q (Rq_loadA Tryz.isAgg76 Tryz.sizeOf76 rfl ((hc16)) rfl) rfl (QS_q (Rq_lookupI key76 Tryz.runUnderlying90 ((hM).below hb0) x Tryz.zeroValue3 rfl rfl) rfl (QS_q (Rq_assign rfl) rfl (QS_nil ?_)));intro wr1 hbr1;replace hb0 := btr hb0 hbr1;replace hB4 := hB4.below hbr1;refine D_then (W_seq (W_region (SG_q (Rq_move rfl) rfl (SG_q (Rq_move rfl) rfl (SG_q (Rq_lss rfl rfl) rfl (SG_nil (D_then ?_)))))));refine W_cond rfl ?_ ?_
 ·intro g21
  try simp only [dd] at g21
  refine W_seq ?_;refine W_region ?_;refine SG_q (Rq_move rfl) rfl ?_;refine SG_pure rfl Tryz.call115 rfl (f115_c _ _) ?_;intro w23 hb23;replace hb0 := btr hb0 hb23;replace hB4 := hB4.below hb23;refine SG_storeW (hB4) rfl rfl rfl rfl Tryz.sizeOf119 rfl rfl ?_;intro ws3x2 hchs3x2 hBs3x2;replace hb0 := bchg hb0 hchs3x2 hle4;clear hc16;clear hB4;refine SG_nil ?_;refine D_then ?_;refine W_ret ?_;refine D_then_ret ?_;refine D_bodyR1 rfl rfl (.cellW rfl (hBs3x2) Tryz.isAgg119 Tryz.sizeOf119 rfl) ?_;exact ⟨by rw [sameR, if_pos g21]; rfl, hb0⟩
 ·intro g21
  try simp only [dd] at g21
  refine W_skip ?_;refine D_then ?_;refine W_seq ?_;refine W_region ?_;refine SG_q (Rq_build0 build119_) rfl ?_;refine SG_storeW (hB4) rfl rfl rfl rfl Tryz.sizeOf119 rfl rfl ?_;intro ws4x1 hchs4x1 hBs4x1;replace hb0 := bchg hb0 hchs4x1 hle4;clear hc16;clear hB4;refine SG_nil ?_;refine D_then ?_;refine W_ret ?_;refine D_bodyR1 rfl rfl (.cellW rfl (hBs4x1) Tryz.isAgg119 Tryz.sizeOf119 rfl) ?_;exact ⟨by rw [sameR, if_neg (by omega)]; rfl, hb0⟩
theorem build134_F (w : World) : (Instr.build 134 #[(0, .func (.func 91) #[] #[]), (1, .func (.func 92) #[] #[]), (2, .func (.func 93) #[] #[]), (3, .func (.func 94) #[] #[]), (4, .func (.func 95) #[] #[]), (5, .func (.func 96) #[] #[]), (6, .func (.func 97) #[] #[]), (7, .func (.func 98) #[] #[]), (8, .func (.func 99) #[] #[]), (9, .func (.func 100) #[] #[]), (10, .func (.func 101) #[] #[])]).run Tryz.prog w = .ok (.agg [.func (.func 91) #[] #[], .func (.func 92) #[] #[], .func (.func 93) #[] #[], .func (.func 94) #[] #[], .func (.func 95) #[] #[], .func (.func 96) #[] #[], .func (.func 97) #[] #[], .func (.func 98) #[] #[], .func (.func 99) #[] #[], .func (.func 100) #[] #[], .func (.func 101) #[] #[]].toArray) w := by kernel_rfl
theorem f76_c (w : World) : Pure Tryz.prog 76 #[] w (.agg [.func (.func 91) #[] #[], .func (.func 92) #[] #[], .func (.func 93) #[] #[], .func (.func 94) #[] #[], .func (.func 95) #[] #[], .func (.func 96) #[] #[], .func (.func 97) #[] #[], .func (.func 98) #[] #[], .func (.func 99) #[] #[], .func (.func 100) #[] #[], .func (.func 101) #[] #[]].toArray) := by
 have hb0 := Below.refl w.heap.size w;refine calls_of_W Tryz.func76 rfl Tryz.ntmps76 rfl ?_;refine W_seq (W_region (SG_alloc Tryz.zeroValue134 rfl rfl ?_));intro w1000 b1000 e1000 hb1000 hz1000 hB1000
 have hle1000 : w.heap.size ≤ b1000 := by have := hb0.size; omega
 replace hb0 := btr hb0 hb1000;refine SG_nil (D_then (W_seq (W_region (SG_q (Rq_buildG build134_F rfl) rfl (SG_storeW (hB1000) rfl rfl rfl rfl Tryz.sizeOf134 rfl rfl ?_)))));intro ws1x1 hchs1x1 hBs1x1;replace hb0 := bchg hb0 hchs1x1 hle1000;clear hB1000;refine SG_nil (D_then (W_ret (D_bodyR1 rfl rfl (.cellW rfl (hBs1x1) Tryz.isAgg134 Tryz.sizeOf134 rfl) ?_)));exact ⟨rfl, hb0⟩
theorem f63_c {vC vO vR vU vT : Value} {rM : Nat} {ops : List Ot} {tr us : List Bool} {bs TS : Nat} {w : World} (hSt : Blk w bs [vC, vO, vR, vU, vT, .map (some rM)] TS) (hO : SL w vO 5 encO ops) (hT : SL w vT 1 encB tr) (htl : tr.length = ops.length) (hU : SL w vU 1 encB us) (hul : us.length = ops.length) {kv : List (Ot × Int)} (hM : Mp w rM valO valI kv) (hW : ∀ j : Int, 0 ≤ j → j < ops.length → Bd ops.length (getO ops j)) {i : Int} (hi0 : 0 ≤ i) (hi1 : i < ops.length) (r : Int) : Pure Tryz.prog 63 #[.pointer (some ⟨bs, 0, none⟩), .int .u8 r, .int .i64 i] w (valOc (atR ops tr us (mget kv) r i)) := by
 have hui := getB_some hi0 (show i < us.length by rw [hul]; exact hi1);have hb0 := Below.refl w.heap.size w;refine calls_of_W Tryz.func63 rfl Tryz.ntmps63 rfl ?_;refine W_seq ?_;refine W_region ?_;refine SG_alloc Tryz.zeroValue119 rfl rfl ?_;intro w6 b6 e6 hb6 hz6 hB6
 have hle6 : w.heap.size ≤ b6 := by have := hb0.size; omega
 replace hb0 := btr hb0 hb6;refine SG_nil (D_then (W_seq (W_seq (W_region (SG_q (Rq_move rfl) rfl (SG_q (Rq_nilCheck rfl) rfl (SG_q (Rq_fieldAddr fa92_1 rfl) rfl (SG_q (Rq_loadB ((hSt).below hb0) Tryz.isAgg54 rfl rfl) rfl (SG_q (Rq_move rfl) rfl ?_)))))))));refine SG_index ((hU).below hb0) Tryz.runUnderlying54 Tryz.sizeOf4 rfl rfl ?_ ?_ rfl ?_
 ·(try rw [hul]); omega
 ·(try rw [hul]); omega
 intro x12 hx12 hc12;have ex12 := Option.some.inj ((hui).symm.trans hx12); subst ex12;refine SG_q (Rq_load Tryz.isAgg4 rfl ((hc12).cell 0 rfl)) rfl ?_;refine SG_q (Rq_not rfl) rfl ?_;refine SG_q (Rq_move rfl) rfl ?_;refine SG_or (r := ?r15n1) 3 18 15 rfl ?_ ?_ ?_; rotate_left
 ·intro g15 K15
  have g15' := g15; try simp only [dd] at g15'
  have hm15 := Below.refl (w6).heap.size w6;refine SG_yes 15 rfl rfl g15 (SG_q (Rq_move rfl) rfl (SG_yes 15 rfl rfl g15 (SG_q (Rq_lss rfl rfl) rfl (SG_q (Rq_pick rfl (fun h => absurd (g15.symm.trans h) (by decide)) (fun _ => rfl)) rfl ?_))));exact K15 _ _ hm15 (by repeat (first | exact Sub.refl | refine Sub.shadow ?_ | refine Sub.same ?_ | refine Sub.push rfl ?_))
 ·intro g15 K15
  have g15' := g15; try simp only [dd] at g15'
  have hm15 := Below.refl (w6).heap.size w6;refine SG_no 15 rfl rfl g15 rfl (SG_no 15 rfl rfl g15 rfl (SG_q (Rq_pick rfl (fun _ => rfl) (fun h => absurd (g15.symm.trans h) (by decide))) rfl ?_));exact K15 _ _ hm15 (by repeat (first | exact Sub.refl | refine Sub.shadow ?_ | refine Sub.same ?_ | refine Sub.push rfl ?_))
 intro wm15 hbm15;replace hb0 := btr hb0 hbm15;replace hB6 := hB6.below hbm15
 simp only [List.drop_succ_cons, List.drop_zero]
 refine SG_q (Rq_move rfl) rfl ?_;refine SG_or (r := ?r19n2) 3 22 19 rfl ?_ ?_ ?_; rotate_left
 ·intro g19 K19
  have g19' := g19; try simp only [dd] at g19'
  have hm19 := Below.refl (wm15).heap.size wm15;refine SG_yes 19 rfl rfl g19 (SG_q (Rq_move rfl) rfl (SG_yes 19 rfl rfl g19 (SG_q (Rq_gtr rfl rfl) rfl (SG_q (Rq_pick rfl (fun h => absurd (g19.symm.trans h) (by decide)) (fun _ => rfl)) rfl ?_))));exact K19 _ _ hm19 (by repeat (first | exact Sub.refl | refine Sub.shadow ?_ | refine Sub.same ?_ | refine Sub.push rfl ?_))
 ·intro g19 K19
  have g19' := g19; try simp only [dd] at g19'
  have hm19 := Below.refl (wm15).heap.size wm15;refine SG_no 19 rfl rfl g19 rfl (SG_no 19 rfl rfl g19 rfl (SG_q (Rq_pick rfl (fun _ => rfl) (fun h => absurd (g19.symm.trans h) (by decide))) rfl ?_));exact K19 _ _ hm19 (by repeat (first | exact Sub.refl | refine Sub.shadow ?_ | refine Sub.same ?_ | refine Sub.push rfl ?_))
 intro wm19 hbm19;replace hb0 := btr hb0 hbm19;replace hB6 := hB6.below hbm19
 simp only [List.drop_succ_cons, List.drop_zero]
 refine SG_nil (D_then ?_);refine W_cond rfl ?_ ?_
 ·intro g22
  try simp only [dd] at g22
  refine W_seq ?_;refine W_region ?_;refine SG_q (Rq_build0 build119_) rfl ?_;refine SG_storeW (hB6) rfl rfl rfl rfl Tryz.sizeOf119 rfl rfl ?_;intro ws2x1 hchs2x1 hBs2x1;replace hb0 := bchg hb0 hchs2x1 hle6;clear hc12;clear hB6;refine SG_nil ?_;refine D_then ?_;refine W_ret ?_;refine D_then_ret ?_;refine D_bodyR1 rfl rfl (.cellW rfl (hBs2x1) Tryz.isAgg119 Tryz.sizeOf119 rfl) ?_;exact ⟨by rw [atR, if_pos (by simpa [or_assoc] using g22)]; rfl, hb0⟩
 ·intro g22
  try simp only [dd] at g22
  refine W_skip (D_then (W_seq ?_))
  rcases r11 (r := r) (by omega) (by omega) with rfl | rfl | rfl | rfl | rfl | rfl | rfl | rfl | rfl | rfl | rfl
  ·skip
   refine W_region ?_;refine SG_pure rfl Tryz.call76 rfl (f76_c _) ?_;intro w24 hb24;replace hb0 := btr hb0 hb24;replace hB6 := hB6.below hb24;refine SG_q (Rq_move rfl) rfl ?_;refine SG_q (Rq_sub rfl rfl (wrap_u8 (by omega) (by omega))) rfl ?_;refine SG_q (Rq_aindex Tryz.runUnderlying134 Tryz.sizeOf133 Tryz.isAgg133 rfl rfl (by decide) (by decide) rfl) rfl ?_;refine SG_q (Rq_move rfl) rfl ?_;refine SG_q (Rq_move rfl) rfl ?_;refine SG_purev rfl rfl rfl Tryz.call91 rfl (f91_c ((hSt).below hb0) ((hO).below hb0) ((hT).below hb0) htl hW hi0 hi1 rfl) ?_;intro w30 hb30;replace hb0 := btr hb0 hb30;replace hB6 := hB6.below hb30;refine SG_storeW (hB6) rfl rfl rfl rfl Tryz.sizeOf119 rfl rfl ?_;intro ws3x7 hchs3x7 hBs3x7;replace hb0 := bchg hb0 hchs3x7 hle6;clear hc12;clear hB6;refine SG_nil ?_;refine D_then ?_;refine W_ret ?_;refine D_bodyR1 rfl rfl (.cellW rfl (hBs3x7) Tryz.isAgg119 Tryz.sizeOf119 rfl) ?_;exact ⟨by rw [atR, if_neg (by simpa [or_assoc] using g22)]; rfl, hb0⟩
  ·skip
   refine W_region ?_;refine SG_pure rfl Tryz.call76 rfl (f76_c _) ?_;intro w24 hb24;replace hb0 := btr hb0 hb24;replace hB6 := hB6.below hb24;refine SG_q (Rq_move rfl) rfl ?_;refine SG_q (Rq_sub rfl rfl (wrap_u8 (by omega) (by omega))) rfl ?_;refine SG_q (Rq_aindex Tryz.runUnderlying134 Tryz.sizeOf133 Tryz.isAgg133 rfl rfl (by decide) (by decide) rfl) rfl ?_;refine SG_q (Rq_move rfl) rfl ?_;refine SG_q (Rq_move rfl) rfl ?_;refine SG_purev rfl rfl rfl Tryz.call92 rfl (f92_c ((hSt).below hb0) ((hO).below hb0) ((hT).below hb0) htl hW hi0 hi1 rfl) ?_;intro w30 hb30;replace hb0 := btr hb0 hb30;replace hB6 := hB6.below hb30;refine SG_storeW (hB6) rfl rfl rfl rfl Tryz.sizeOf119 rfl rfl ?_;intro ws3x7 hchs3x7 hBs3x7;replace hb0 := bchg hb0 hchs3x7 hle6;clear hc12;clear hB6;refine SG_nil ?_;refine D_then ?_;refine W_ret ?_;refine D_bodyR1 rfl rfl (.cellW rfl (hBs3x7) Tryz.isAgg119 Tryz.sizeOf119 rfl) ?_;exact ⟨by rw [atR, if_neg (by simpa [or_assoc] using g22)]; rfl, hb0⟩
  ·skip
   refine W_region ?_;refine SG_pure rfl Tryz.call76 rfl (f76_c _) ?_;intro w24 hb24;replace hb0 := btr hb0 hb24;replace hB6 := hB6.below hb24;refine SG_q (Rq_move rfl) rfl ?_;refine SG_q (Rq_sub rfl rfl (wrap_u8 (by omega) (by omega))) rfl ?_;refine SG_q (Rq_aindex Tryz.runUnderlying134 Tryz.sizeOf133 Tryz.isAgg133 rfl rfl (by decide) (by decide) rfl) rfl ?_;refine SG_q (Rq_move rfl) rfl ?_;refine SG_q (Rq_move rfl) rfl ?_;refine SG_purev rfl rfl rfl Tryz.call93 rfl (f93_c ((hSt).below hb0) ((hO).below hb0) ((hT).below hb0) htl hW hi0 hi1 rfl) ?_;intro w30 hb30;replace hb0 := btr hb0 hb30;replace hB6 := hB6.below hb30;refine SG_storeW (hB6) rfl rfl rfl rfl Tryz.sizeOf119 rfl rfl ?_;intro ws3x7 hchs3x7 hBs3x7;replace hb0 := bchg hb0 hchs3x7 hle6;clear hc12;clear hB6;refine SG_nil ?_;refine D_then ?_;refine W_ret ?_;refine D_bodyR1 rfl rfl (.cellW rfl (hBs3x7) Tryz.isAgg119 Tryz.sizeOf119 rfl) ?_;exact ⟨by rw [atR, if_neg (by simpa [or_assoc] using g22)]; rfl, hb0⟩
  ·skip
   refine W_region ?_;refine SG_pure rfl Tryz.call76 rfl (f76_c _) ?_;intro w24 hb24;replace hb0 := btr hb0 hb24;replace hB6 := hB6.below hb24;refine SG_q (Rq_move rfl) rfl ?_;refine SG_q (Rq_sub rfl rfl (wrap_u8 (by omega) (by omega))) rfl ?_;refine SG_q (Rq_aindex Tryz.runUnderlying134 Tryz.sizeOf133 Tryz.isAgg133 rfl rfl (by decide) (by decide) rfl) rfl ?_;refine SG_q (Rq_move rfl) rfl ?_;refine SG_q (Rq_move rfl) rfl ?_;refine SG_purev rfl rfl rfl Tryz.call94 rfl (f94_c ((hSt).below hb0) ((hO).below hb0) ((hT).below hb0) htl hW hi0 hi1 rfl) ?_;intro w30 hb30;replace hb0 := btr hb0 hb30;replace hB6 := hB6.below hb30;refine SG_storeW (hB6) rfl rfl rfl rfl Tryz.sizeOf119 rfl rfl ?_;intro ws3x7 hchs3x7 hBs3x7;replace hb0 := bchg hb0 hchs3x7 hle6;clear hc12;clear hB6;refine SG_nil ?_;refine D_then ?_;refine W_ret ?_;refine D_bodyR1 rfl rfl (.cellW rfl (hBs3x7) Tryz.isAgg119 Tryz.sizeOf119 rfl) ?_;exact ⟨by rw [atR, if_neg (by simpa [or_assoc] using g22)]; rfl, hb0⟩
  ·skip
   refine W_region ?_;refine SG_pure rfl Tryz.call76 rfl (f76_c _) ?_;intro w24 hb24;replace hb0 := btr hb0 hb24;replace hB6 := hB6.below hb24;refine SG_q (Rq_move rfl) rfl ?_;refine SG_q (Rq_sub rfl rfl (wrap_u8 (by omega) (by omega))) rfl ?_;refine SG_q (Rq_aindex Tryz.runUnderlying134 Tryz.sizeOf133 Tryz.isAgg133 rfl rfl (by decide) (by decide) rfl) rfl ?_;refine SG_q (Rq_move rfl) rfl ?_;refine SG_q (Rq_move rfl) rfl ?_;refine SG_purev rfl rfl rfl Tryz.call95 rfl (f95_c ((hSt).below hb0) ((hO).below hb0) ((hT).below hb0) htl hW hi0 hi1 rfl) ?_;intro w30 hb30;replace hb0 := btr hb0 hb30;replace hB6 := hB6.below hb30;refine SG_storeW (hB6) rfl rfl rfl rfl Tryz.sizeOf119 rfl rfl ?_;intro ws3x7 hchs3x7 hBs3x7;replace hb0 := bchg hb0 hchs3x7 hle6;clear hc12;clear hB6;refine SG_nil ?_;refine D_then ?_;refine W_ret ?_;refine D_bodyR1 rfl rfl (.cellW rfl (hBs3x7) Tryz.isAgg119 Tryz.sizeOf119 rfl) ?_;exact ⟨by rw [atR, if_neg (by simpa [or_assoc] using g22)]; rfl, hb0⟩
  ·skip
   refine W_region ?_;refine SG_pure rfl Tryz.call76 rfl (f76_c _) ?_;intro w24 hb24;replace hb0 := btr hb0 hb24;replace hB6 := hB6.below hb24;refine SG_q (Rq_move rfl) rfl ?_;refine SG_q (Rq_sub rfl rfl (wrap_u8 (by omega) (by omega))) rfl ?_;refine SG_q (Rq_aindex Tryz.runUnderlying134 Tryz.sizeOf133 Tryz.isAgg133 rfl rfl (by decide) (by decide) rfl) rfl ?_;refine SG_q (Rq_move rfl) rfl ?_;refine SG_q (Rq_move rfl) rfl ?_;refine SG_purev rfl rfl rfl Tryz.call96 rfl (f96_c ((hSt).below hb0) ((hO).below hb0) ((hT).below hb0) htl hW hi0 hi1 rfl) ?_;intro w30 hb30;replace hb0 := btr hb0 hb30;replace hB6 := hB6.below hb30;refine SG_storeW (hB6) rfl rfl rfl rfl Tryz.sizeOf119 rfl rfl ?_;intro ws3x7 hchs3x7 hBs3x7;replace hb0 := bchg hb0 hchs3x7 hle6;clear hc12;clear hB6;refine SG_nil ?_;refine D_then ?_;refine W_ret ?_;refine D_bodyR1 rfl rfl (.cellW rfl (hBs3x7) Tryz.isAgg119 Tryz.sizeOf119 rfl) ?_;exact ⟨by rw [atR, if_neg (by simpa [or_assoc] using g22)]; rfl, hb0⟩
  ·skip
   refine W_region ?_;refine SG_pure rfl Tryz.call76 rfl (f76_c _) ?_;intro w24 hb24;replace hb0 := btr hb0 hb24;replace hB6 := hB6.below hb24;refine SG_q (Rq_move rfl) rfl ?_;refine SG_q (Rq_sub rfl rfl (wrap_u8 (by omega) (by omega))) rfl ?_;refine SG_q (Rq_aindex Tryz.runUnderlying134 Tryz.sizeOf133 Tryz.isAgg133 rfl rfl (by decide) (by decide) rfl) rfl ?_;refine SG_q (Rq_move rfl) rfl ?_;refine SG_q (Rq_move rfl) rfl ?_;refine SG_purev rfl rfl rfl Tryz.call97 rfl (f97_c ((hSt).below hb0) ((hO).below hb0) ((hT).below hb0) htl hW hi0 hi1 rfl) ?_;intro w30 hb30;replace hb0 := btr hb0 hb30;replace hB6 := hB6.below hb30;refine SG_storeW (hB6) rfl rfl rfl rfl Tryz.sizeOf119 rfl rfl ?_;intro ws3x7 hchs3x7 hBs3x7;replace hb0 := bchg hb0 hchs3x7 hle6;clear hc12;clear hB6;refine SG_nil ?_;refine D_then ?_;refine W_ret ?_;refine D_bodyR1 rfl rfl (.cellW rfl (hBs3x7) Tryz.isAgg119 Tryz.sizeOf119 rfl) ?_;exact ⟨by rw [atR, if_neg (by simpa [or_assoc] using g22)]; rfl, hb0⟩
  ·skip
   refine W_region ?_;refine SG_pure rfl Tryz.call76 rfl (f76_c _) ?_;intro w24 hb24;replace hb0 := btr hb0 hb24;replace hB6 := hB6.below hb24;refine SG_q (Rq_move rfl) rfl ?_;refine SG_q (Rq_sub rfl rfl (wrap_u8 (by omega) (by omega))) rfl ?_;refine SG_q (Rq_aindex Tryz.runUnderlying134 Tryz.sizeOf133 Tryz.isAgg133 rfl rfl (by decide) (by decide) rfl) rfl ?_;refine SG_q (Rq_move rfl) rfl ?_;refine SG_q (Rq_move rfl) rfl ?_;refine SG_purev rfl rfl rfl Tryz.call98 rfl (f98_c ((hSt).below hb0) ((hO).below hb0) ((hT).below hb0) htl hW hi0 hi1 rfl) ?_;intro w30 hb30;replace hb0 := btr hb0 hb30;replace hB6 := hB6.below hb30;refine SG_storeW (hB6) rfl rfl rfl rfl Tryz.sizeOf119 rfl rfl ?_;intro ws3x7 hchs3x7 hBs3x7;replace hb0 := bchg hb0 hchs3x7 hle6;clear hc12;clear hB6;refine SG_nil ?_;refine D_then ?_;refine W_ret ?_;refine D_bodyR1 rfl rfl (.cellW rfl (hBs3x7) Tryz.isAgg119 Tryz.sizeOf119 rfl) ?_;exact ⟨by rw [atR, if_neg (by simpa [or_assoc] using g22)]; rfl, hb0⟩
  ·skip
   refine W_region ?_;refine SG_pure rfl Tryz.call76 rfl (f76_c _) ?_;intro w24 hb24;replace hb0 := btr hb0 hb24;replace hB6 := hB6.below hb24;refine SG_q (Rq_move rfl) rfl ?_;refine SG_q (Rq_sub rfl rfl (wrap_u8 (by omega) (by omega))) rfl ?_;refine SG_q (Rq_aindex Tryz.runUnderlying134 Tryz.sizeOf133 Tryz.isAgg133 rfl rfl (by decide) (by decide) rfl) rfl ?_;refine SG_q (Rq_move rfl) rfl ?_;refine SG_q (Rq_move rfl) rfl ?_;refine SG_purev rfl rfl rfl Tryz.call99 rfl (f99_c ((hSt).below hb0) ((hO).below hb0) ((hT).below hb0) htl hW hi0 hi1 rfl) ?_;intro w30 hb30;replace hb0 := btr hb0 hb30;replace hB6 := hB6.below hb30;refine SG_storeW (hB6) rfl rfl rfl rfl Tryz.sizeOf119 rfl rfl ?_;intro ws3x7 hchs3x7 hBs3x7;replace hb0 := bchg hb0 hchs3x7 hle6;clear hc12;clear hB6;refine SG_nil ?_;refine D_then ?_;refine W_ret ?_;refine D_bodyR1 rfl rfl (.cellW rfl (hBs3x7) Tryz.isAgg119 Tryz.sizeOf119 rfl) ?_;exact ⟨by rw [atR, if_neg (by simpa [or_assoc] using g22)]; rfl, hb0⟩
  ·skip
   refine W_region ?_;refine SG_pure rfl Tryz.call76 rfl (f76_c _) ?_;intro w24 hb24;replace hb0 := btr hb0 hb24;replace hB6 := hB6.below hb24;refine SG_q (Rq_move rfl) rfl ?_;refine SG_q (Rq_sub rfl rfl (wrap_u8 (by omega) (by omega))) rfl ?_;refine SG_q (Rq_aindex Tryz.runUnderlying134 Tryz.sizeOf133 Tryz.isAgg133 rfl rfl (by decide) (by decide) rfl) rfl ?_;refine SG_q (Rq_move rfl) rfl ?_;refine SG_q (Rq_move rfl) rfl ?_;refine SG_purev rfl rfl rfl Tryz.call100 rfl (f100_c ((hSt).below hb0) ((hO).below hb0) ((hT).below hb0) htl hW hi0 hi1 rfl) ?_;intro w30 hb30;replace hb0 := btr hb0 hb30;replace hB6 := hB6.below hb30;refine SG_storeW (hB6) rfl rfl rfl rfl Tryz.sizeOf119 rfl rfl ?_;intro ws3x7 hchs3x7 hBs3x7;replace hb0 := bchg hb0 hchs3x7 hle6;clear hc12;clear hB6;refine SG_nil ?_;refine D_then ?_;refine W_ret ?_;refine D_bodyR1 rfl rfl (.cellW rfl (hBs3x7) Tryz.isAgg119 Tryz.sizeOf119 rfl) ?_;exact ⟨by rw [atR, if_neg (by simpa [or_assoc] using g22)]; rfl, hb0⟩
  ·skip
   refine W_region ?_;refine SG_pure rfl Tryz.call76 rfl (f76_c _) ?_;intro w24 hb24;replace hb0 := btr hb0 hb24;replace hB6 := hB6.below hb24;refine SG_q (Rq_move rfl) rfl ?_;refine SG_q (Rq_sub rfl rfl (wrap_u8 (by omega) (by omega))) rfl ?_;refine SG_q (Rq_aindex Tryz.runUnderlying134 Tryz.sizeOf133 Tryz.isAgg133 rfl rfl (by decide) (by decide) rfl) rfl ?_;refine SG_q (Rq_move rfl) rfl ?_;refine SG_q (Rq_move rfl) rfl ?_;refine SG_purev rfl rfl rfl Tryz.call101 rfl (f101_c ((hSt).below hb0) ((hO).below hb0) ((hM).below hb0) hi0 hi1 rfl) ?_;intro w30 hb30;replace hb0 := btr hb0 hb30;replace hB6 := hB6.below hb30;refine SG_storeW (hB6) rfl rfl rfl rfl Tryz.sizeOf119 rfl rfl ?_;intro ws3x7 hchs3x7 hBs3x7;replace hb0 := bchg hb0 hchs3x7 hle6;clear hc12;clear hB6;refine SG_nil ?_;refine D_then ?_;refine W_ret ?_;refine D_bodyR1 rfl rfl (.cellW rfl (hBs3x7) Tryz.isAgg119 Tryz.sizeOf119 rfl) ?_;exact ⟨by rw [atR, if_neg (by simpa [or_assoc] using g22)]; rfl, hb0⟩
end Go.Proofs.YtphmoebiobjfhaaGreat
