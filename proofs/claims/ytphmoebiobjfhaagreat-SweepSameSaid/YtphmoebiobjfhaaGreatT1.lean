/- Walks of functions, printed by a program of the author. -/
import Derived.Test.YtphmoebiobjfhaaGreatSp
import Derived.Test.YtphmoebiobjfhaaGreatMm
import Derived.Test.YtphmoebiobjfhaaGreatRows
set_option linter.all false
namespace Go.Proofs.YtphmoebiobjfhaaGreat
open Go Go.Mi Go.RowKit
theorem Tryz.mixed : Tryz.prog.follows .mixedOrders = true := by kernel_rfl
theorem fa106_0 (w : World) (a : Addr) : (Instr.fieldAt 106 (.pointer (some a)) 0).run Tryz.prog w = .ok (.pointer (some (a.add 0))) w := by kernel_rfl
theorem fa106_1 (w : World) (a : Addr) : (Instr.fieldAt 106 (.pointer (some a)) 1).run Tryz.prog w = .ok (.pointer (some (a.add 1))) w := by kernel_rfl
theorem build106_ (w : World) : (Instr.build 106 #[]).run Tryz.prog w = .ok (.agg [(.int .u8 0), (.int .i64 0)].toArray) w := by
 unfold Instr.build
 simp [Sem.run_bind, Tryz.zeroValue106, Tryz.runUnderlying106, Tryz.sizeOf3, Tryz.sizeOf5, Instr.fill, Result.andThen, cells_agg]
theorem build106_0 (v : Value) (w : World) (hv : one1 v = true) : (Instr.build 106 #[(0, v)]).run Tryz.prog w = .ok (.agg [v, (.int .i64 0)].toArray) w := by
 unfold Instr.build
 simp [Sem.run_bind, Tryz.zeroValue106, Tryz.runUnderlying106, Tryz.sizeOf3, Tryz.sizeOf5, Instr.fill, cells_one hv, Result.andThen, cells_agg]
theorem build106_1 (v : Value) (w : World) (hv : one1 v = true) : (Instr.build 106 #[(1, v)]).run Tryz.prog w = .ok (.agg [(.int .u8 0), v].toArray) w := by
 unfold Instr.build
 simp [Sem.run_bind, Tryz.zeroValue106, Tryz.runUnderlying106, Tryz.sizeOf3, Tryz.sizeOf5, Instr.fill, cells_one hv, Result.andThen, cells_agg]
theorem f112_c {g : FuncId} {caps : List Value} {p : Int → Bool} {v : Value} {xs : List Int} {w : World} (hlen : xs.length ≤ 4611686018427387904) (hs : SL w v 1 encI xs) (hg : ∀ args w, (callFunc g args).run Tryz.prog w = .ok (.enter g args) w)
  (hp : ∀ x ∈ xs, ∀ w', Below w.heap.size w w' → Pure Tryz.prog g (.int .i64 x :: caps).toArray w' (.bool (p x))) : Pure Tryz.prog 112 #[v, .func (.func g) #[] caps.toArray] w (.int .i64 (idx p xs)) := by
 have hb0 := Below.refl w.heap.size w;refine calls_of_W Tryz.func112 rfl Tryz.ntmps112 rfl ?_;refine W_seq (W_region (SG_q (Rq_assign rfl) rfl (SG_nil (D_then (W_seq (W_seq (W_region (SG_q (Rq_move rfl) rfl (SG_q (Rq_len ((hs).below hb0) Tryz.runUnderlying24 rfl) rfl (SG_q (Rq_move rfl) rfl (SG_nil (D_then (W_block ?_)))))))))))));refine W_loop (α := Nat) (fun x => [(0, v), (1, .func (.func g) #[] caps.toArray), (7, .int .i64 xs.length), (8, .int .i64 x)]) (fun x w' => Below w.heap.size w w' ∧ x ≤ xs.length ∧ ∀ (j : Nat) (z : Int), j < x → xs[j]? = some z → p z = false) (fun x => xs.length - x) (0) (by repeat (first | exact Sub.nil | refine Sub.cons rfl ?_)) ⟨hb0, Nat.zero_le _, fun j z hj => absurd hj (Nat.not_lt_zero j)⟩ ?_;clear hb0;rintro x wl0 ⟨hb0, hx, hno⟩;refine W_seq (W_region (SG_q (Rq_lss rfl rfl) rfl (SG_nil (D_then (W_seq ?_)))));refine W_cond rfl ?_ ?_
 ·intro g9
  try simp only [dd] at g9
  refine W_skip (D_then (W_seq (W_block (W_seq (W_region (SG_q (Rq_move rfl) rfl (SG_q (Rq_assign rfl) rfl (SG_nil (D_then (W_seq (W_region (SG_q (Rq_move rfl) rfl (SG_q (Rq_move rfl) rfl (SG_q (Rq_move rfl) rfl ?_))))))))))))));refine SG_index ((hs).below hb0) Tryz.runUnderlying24 Tryz.sizeOf3 rfl rfl ?_ ?_ rfl ?_
  ·omega
  ·omega
  intro x14 hx14 hc14;refine SG_q (Rq_load Tryz.isAgg3 rfl ((hc14).cell 0 rfl)) rfl (SG_purev rfl rfl rfl hg rfl (hp x14 (List.mem_of_getElem? hx14) _ hb0) ?_);intro w16 hb16;replace hb0 := btr hb0 hb16;refine SG_nil (D_then ?_);refine W_cond rfl ?_ ?_
  ·intro g16
   try simp only [dd] at g16
   refine W_seq (W_region (SG_q (Rq_move rfl) rfl (SG_q (Rq_assign rfl) rfl (SG_nil (D_then (W_ret (D_block_ret (D_then_ret (D_loop_ret ?_)))))))));refine D_block_ret (D_then_ret (D_body1 rfl rfl rfl ?_));exact ⟨by rw [idx_found hno hx14 g16], hb0⟩
  ·intro g16
   try simp only [dd] at g16
   refine W_skip (D_block (D_then (W_region (SG_q (Rq_add rfl rfl (wrap_i64 (by omega) (by omega))) rfl (SG_q (Rq_move rfl) rfl (SG_nil ?_))))));refine D_loop (x + 1) (by repeat (first | exact Sub.nil | refine Sub.cons rfl ?_)) ⟨hb0, by omega, no_succ hno hx14 g16⟩ (by omega)
 ·intro g9
  try simp only [dd] at g9
  refine W_exit (D_then_exit (D_loop_exit ?_));refine D_block_exit (D_then (W_seq (W_region (SG_q (Rq_assign rfl) rfl (SG_nil (D_then (W_ret (D_body1 rfl rfl rfl ?_))))))));exact ⟨by rw [idx_none (no_all hno (by omega))], hb0⟩
theorem f86_c {g : FuncId} {caps : List Value} {p : Int → Bool} {v : Value} {xs : List Int} {w : World} (hlen : xs.length ≤ 4611686018427387904) (hs : SL w v 1 encI xs) (hg : ∀ args w, (callFunc g args).run Tryz.prog w = .ok (.enter g args) w)
  (hp : ∀ x ∈ xs, ∀ w', Below w.heap.size w w' → Pure Tryz.prog g (.int .i64 x :: caps).toArray w' (.bool (p x))) : Pure Tryz.prog 86 #[v, .func (.func g) #[] caps.toArray] w (.bool (xs.any p)) := by
 have hb0 := Below.refl w.heap.size w;refine calls_of_W Tryz.func86 rfl Tryz.ntmps86 rfl ?_;refine W_seq (W_region (SG_q (Rq_assign rfl) rfl (SG_nil (D_then (W_seq (W_region (SG_q (Rq_move rfl) rfl (SG_q (Rq_move rfl) rfl (SG_pure rfl Tryz.call112 rfl (f112_c hlen ((hs).below hb0) hg (fun x hx w' hb => hp x hx w' (btr hb0 hb))) ?_)))))))));intro w7 hb7;replace hb0 := btr hb0 hb7;refine SG_q (Rq_geq rfl rfl) rfl (SG_q (Rq_assign rfl) rfl (SG_nil (D_then (W_ret (D_body1 rfl rfl rfl ?_)))));exact ⟨by rw [idx_any], hb0⟩
theorem f125_c {b1 b2 T1 T2 : Nat} {least most n : Int} {w : World} (h1 : Blk w b1 [.int .i64 least] T1) (h2 : Blk w b2 [.int .i64 most] T2) : Pure Tryz.prog 125 #[.int .i64 n, .pointer (some ⟨b1, 0, none⟩), .pointer (some ⟨b2, 0, none⟩)] w (.bool (decide (n < least) || decide (most < n))) := by
 have hb0 := Below.refl w.heap.size w;refine calls_of_W Tryz.func125 rfl Tryz.ntmps125 rfl ?_;refine W_seq ?_;refine W_region ?_;refine SG_q (Rq_assign rfl) rfl ?_;refine SG_nil ?_;refine D_then ?_;refine W_seq ?_;refine W_region ?_;refine SG_q (Rq_move rfl) rfl ?_;refine SG_q (Rq_loadB ((h1).below hb0) Tryz.isAgg3 rfl rfl) rfl ?_;refine SG_q (Rq_lss rfl rfl) rfl ?_;refine SG_q (Rq_move rfl) rfl ?_;refine SG_or (r := ?r8n1) 4 12 8 rfl ?_ ?_ ?_; rotate_left
 ·intro g8 K8
  have g8' := g8; try simp only [dd] at g8'
  have hm8 := Below.refl (w).heap.size w;refine SG_yes 8 rfl rfl g8 (SG_q (Rq_move rfl) rfl (SG_yes 8 rfl rfl g8 (SG_q (Rq_loadB ((h2).below hb0) Tryz.isAgg3 rfl rfl) rfl (SG_yes 8 rfl rfl g8 (SG_q (Rq_gtr rfl rfl) rfl (SG_q (Rq_pick rfl (fun h => absurd (g8.symm.trans h) (by decide)) (fun _ => rfl)) rfl ?_))))));exact K8 _ _ hm8 (by repeat (first | exact Sub.refl | refine Sub.shadow ?_ | refine Sub.same ?_ | refine Sub.push rfl ?_))
 ·intro g8 K8
  have g8' := g8; try simp only [dd] at g8'
  have hm8 := Below.refl (w).heap.size w;refine SG_no 8 rfl rfl g8 rfl (SG_no 8 rfl rfl g8 rfl (SG_no 8 rfl rfl g8 rfl (SG_q (Rq_pick rfl (fun _ => rfl) (fun h => absurd (g8.symm.trans h) (by decide))) rfl ?_)));exact K8 _ _ hm8 (by repeat (first | exact Sub.refl | refine Sub.shadow ?_ | refine Sub.same ?_ | refine Sub.push rfl ?_))
 intro wm8 hbm8;replace hb0 := btr hb0 hbm8
 simp only [List.drop_succ_cons, List.drop_zero]
 refine SG_q (Rq_assign rfl) rfl (SG_nil (D_then (W_ret (D_body1 rfl rfl rfl ?_))));exact ⟨rfl, hb0⟩
theorem f118_c {least most : Int} {v : Value} {xs : List Int} {w : World} (hlen : xs.length ≤ 4611686018427387904) (hs : SL w v 1 encI xs) : Pure Tryz.prog 118 #[.int .i64 least, .int .i64 most, v] w (.bool (withinB least most xs)) := by
 have hb0 := Below.refl w.heap.size w;refine calls_of_W Tryz.func118 rfl Tryz.ntmps118 rfl ?_;refine W_seq (W_region (SG_box rfl rfl rfl ?_));intro w3 b3 e3 hb3 hz3 hB3
 have hle3 : w.heap.size ≤ b3 := by have := hb0.size; omega
 replace hb0 := btr hb0 hb3;refine SG_box rfl rfl rfl ?_;intro w4 b4 e4 hb4 hz4 hB4
 have hle4 : w.heap.size ≤ b4 := by have := hb0.size; omega
 have ne_b3_4 : ¬ b3 = b4 := by have := hB3.lt; omega
 replace hb0 := btr hb0 hb4;replace hB3 := hB3.below hb4;refine SG_q (Rq_assign rfl) rfl (SG_nil (D_then (W_seq (W_region (SG_q (Rq_move rfl) rfl (SG_q (Rq_makeFunc rfl) rfl (SG_pure rfl Tryz.call86 rfl (f86_c hlen ((hs).below hb0) Tryz.call125 (fun x hx w' hb => f125_c (hB3.below hb) (hB4.below hb))) ?_)))))));intro w9 hb9;replace hb0 := btr hb0 hb9;refine SG_q (Rq_not rfl) rfl (SG_q (Rq_assign rfl) rfl (SG_nil (D_then (W_ret (D_body1 rfl rfl rfl ?_)))));exact ⟨rfl, hb0⟩
theorem f119_c (n : Int) (w : World) : Pure Tryz.prog 119 #[.int .u8 n] w (valV ⟨n, 0⟩) := by
 have hb0 := Below.refl w.heap.size w;refine calls_of_W Tryz.func119 rfl Tryz.ntmps119 rfl ?_;refine W_seq (W_region (SG_alloc Tryz.zeroValue106 rfl rfl ?_));intro w2 b2 e2 hb2 hz2 hB2
 have hle2 : w.heap.size ≤ b2 := by have := hb0.size; omega
 replace hb0 := btr hb0 hb2;refine SG_nil (D_then (W_seq (W_region (SG_q (Rq_move rfl) rfl (SG_q (Rq_build1 build106_0 rfl rfl ) rfl (SG_storeW (hB2) rfl rfl rfl rfl Tryz.sizeOf106 rfl rfl ?_))))));intro ws1x2 hchs1x2 hBs1x2;replace hb0 := bchg hb0 hchs1x2 hle2;clear hB2;refine SG_nil (D_then (W_ret (D_bodyR1 rfl rfl (.cellW rfl (hBs1x2) Tryz.isAgg106 Tryz.sizeOf106 rfl) ?_)));exact ⟨rfl, hb0⟩
theorem f108_c (n : Int) (w : World) : Pure Tryz.prog 108 #[.int .i64 n] w (valV (mkV n)) := by
 have hb0 := Below.refl w.heap.size w;refine calls_of_W Tryz.func108 rfl Tryz.ntmps108 rfl ?_;refine W_seq (W_region (SG_alloc Tryz.zeroValue106 rfl rfl ?_));intro w2 b2 e2 hb2 hz2 hB2
 have hle2 : w.heap.size ≤ b2 := by have := hb0.size; omega
 replace hb0 := btr hb0 hb2;refine SG_nil (D_then (W_seq (W_seq (W_region (SG_q (Rq_move rfl) rfl (SG_bslice (enc := encI) (val := valI) (os := [.tmp 3]) rfl rfl (MV.cons (MV.nil)) (fun _ => rfl) (fun _ => rfl) Tryz.runUnderlying24 Tryz.sizeOf3 Tryz.zeroValue3 rfl (by decide) (by decide) rfl ?_))))));intro w4 v4 b4 e4 hb4 hz4 hob4 hO4
 have hle4 : w.heap.size ≤ b4 := by have := hb0.size; omega
 have lt_b2_4 : b2 < b4 := by have := hB2.lt; omega
 replace hb0 := btr hb0 hb4;replace hB2 := hB2.below hb4;refine SG_pure rfl Tryz.call118 rfl (f118_c (by simp) (hO4.sl)) ?_;intro w5 hb5;replace hb0 := btr hb0 hb5;replace hB2 := hB2.below hb5;refine SG_q (Rq_not rfl) rfl (SG_nil (D_then ?_));refine W_cond rfl ?_ ?_
 ·intro g6
  try simp only [dd] at g6
  refine W_seq ?_;refine W_region ?_;refine SG_pure rfl Tryz.call119 rfl (f119_c _ _) ?_;intro w7 hb7;replace hb0 := btr hb0 hb7;replace hB2 := hB2.below hb7;refine SG_storeW (hB2) rfl rfl rfl rfl Tryz.sizeOf106 rfl rfl ?_;intro ws2x1 hchs2x1 hBs2x1;replace hb0 := bchg hb0 hchs2x1 hle2;clear hO4;clear hB2;refine SG_nil ?_;refine D_then ?_;refine W_ret ?_;refine D_then_ret ?_;refine D_bodyR1 rfl rfl (.cellW rfl (hBs2x1) Tryz.isAgg106 Tryz.sizeOf106 rfl) ?_;exact ⟨by rw [within1] at g6; simp only [decide_eq_false_iff_not] at g6; rw [mkV, if_neg g6]; rfl, hb0⟩
 ·intro g6
  try simp only [dd] at g6
  refine W_skip ?_;refine D_then ?_;refine W_seq ?_;refine W_region ?_;refine SG_q (Rq_move rfl) rfl ?_;refine SG_q (Rq_build1 build106_1 rfl rfl ) rfl ?_;refine SG_storeW (hB2) rfl rfl rfl rfl Tryz.sizeOf106 rfl rfl ?_;intro ws3x2 hchs3x2 hBs3x2;replace hb0 := bchg hb0 hchs3x2 hle2;clear hO4;clear hB2;refine SG_nil ?_;refine D_then ?_;refine W_ret ?_;refine D_bodyR1 rfl rfl (.cellW rfl (hBs3x2) Tryz.isAgg106 Tryz.sizeOf106 rfl) ?_;exact ⟨by rw [within1] at g6; simp only [decide_eq_true_eq] at g6; rw [mkV, if_pos g6]; rfl, hb0⟩
theorem f128_c (b : Bool) (w : World) : Pure Tryz.prog 128 #[.bool b] w (valV (truthV b)) := by
 have hb0 := Below.refl w.heap.size w;refine calls_of_W Tryz.func128 rfl Tryz.ntmps128 rfl ?_;refine W_seq (W_region (SG_alloc Tryz.zeroValue106 rfl rfl ?_));intro w2 b2 e2 hb2 hz2 hB2
 have hle2 : w.heap.size ≤ b2 := by have := hb0.size; omega
 replace hb0 := btr hb0 hb2;refine SG_nil (D_then (W_seq (W_seq (W_region (SG_q (Rq_move rfl) rfl (SG_nil (D_then ?_)))))));refine W_cond rfl ?_ ?_
 ·intro g3
  try simp only [dd] at g3
  refine W_seq ?_;refine W_region ?_;refine SG_pure rfl Tryz.call108 rfl (f108_c _ _) ?_;intro w4 hb4;replace hb0 := btr hb0 hb4;replace hB2 := hB2.below hb4;refine SG_storeW (hB2) rfl rfl rfl rfl Tryz.sizeOf106 rfl rfl ?_;intro ws2x1 hchs2x1 hBs2x1;replace hb0 := bchg hb0 hchs2x1 hle2;clear hB2;refine SG_nil ?_;refine D_then ?_;refine W_ret ?_;refine D_then_ret ?_;refine D_bodyR1 rfl rfl (.cellW rfl (hBs2x1) Tryz.isAgg106 Tryz.sizeOf106 rfl) ?_;exact ⟨by rw [g3]; rfl, hb0⟩
 ·intro g3
  try simp only [dd] at g3
  refine W_skip ?_;refine D_then ?_;refine W_seq ?_;refine W_region ?_;refine SG_pure rfl Tryz.call108 rfl (f108_c _ _) ?_;intro w5 hb5;replace hb0 := btr hb0 hb5;replace hB2 := hB2.below hb5;refine SG_storeW (hB2) rfl rfl rfl rfl Tryz.sizeOf106 rfl rfl ?_;intro ws3x1 hchs3x1 hBs3x1;replace hb0 := bchg hb0 hchs3x1 hle2;clear hB2;refine SG_nil ?_;refine D_then ?_;refine W_ret ?_;refine D_bodyR1 rfl rfl (.cellW rfl (hBs3x1) Tryz.isAgg106 Tryz.sizeOf106 rfl) ?_;exact ⟨by rw [g3]; rfl, hb0⟩
theorem f121_c (x : Vl) (w : World) : Pure Tryz.prog 121 #[valV x] w (.bool (isCellB x)) := by
 have hb0 := Below.refl w.heap.size w;refine calls_of_W Tryz.func121 rfl Tryz.ntmps121 rfl ?_;refine W_seq (W_region (SG_box rfl rfl rfl ?_));intro w1 b1 e1 hb1 hz1 hB1
 have hle1 : w.heap.size ≤ b1 := by have := hb0.size; omega
 replace hb0 := btr hb0 hb1;refine SG_q (Rq_assign rfl) rfl (SG_nil (D_then (W_seq (W_seq (W_region (SG_q (Rq_fieldAddr fa106_0 rfl) rfl (SG_q (Rq_loadB (hB1) Tryz.isAgg5 rfl rfl) rfl (SG_q (Rq_eql rfl rfl) rfl (SG_nil (D_then ?_))))))))));refine W_cond rfl ?_ ?_
 ·intro g5
  try simp only [dd] at g5
  refine W_seq (W_region (SG_q (Rq_fieldAddr fa106_1 rfl) rfl (SG_q (Rq_loadB (hB1) Tryz.isAgg3 rfl rfl) rfl (SG_bslice (enc := encI) (val := valI) (os := [.tmp 7]) rfl rfl (MV.cons (MV.nil)) (fun _ => rfl) (fun _ => rfl) Tryz.runUnderlying24 Tryz.sizeOf3 Tryz.zeroValue3 rfl (by decide) (by decide) rfl ?_))));intro w8 v8 b8 e8 hb8 hz8 hob8 hO8
  have hle8 : w.heap.size ≤ b8 := by have := hb0.size; omega
  have lt_b1_8 : b1 < b8 := by have := hB1.lt; omega
  replace hb0 := btr hb0 hb8;refine SG_pure rfl Tryz.call118 rfl (f118_c (by simp) (hO8.sl)) ?_;intro w9 hb9;replace hb0 := btr hb0 hb9;refine SG_q (Rq_assign rfl) rfl (SG_nil (D_then (W_ret (D_then_ret (D_body1 rfl rfl rfl ?_)))));exact ⟨by rw [within1, isCellB, if_pos g5, Bool.decide_and], hb0⟩
 ·intro g5
  try simp only [dd] at g5
  refine W_skip ?_;refine D_then ?_;refine W_seq ?_;refine W_region ?_;refine SG_q (Rq_fieldAddr fa106_0 rfl) rfl ?_;refine SG_q (Rq_loadB (hB1) Tryz.isAgg5 rfl rfl) rfl ?_;refine SG_q (Rq_leq rfl rfl) rfl ?_;refine SG_q (Rq_move rfl) rfl ?_;refine SG_and (r := ?r13n1) 4 17 13 rfl ?_ ?_ ?_; rotate_left
  ·intro g13 K13
   have g13' := g13; try simp only [dd] at g13'
   have hm13 := Below.refl (w1).heap.size w1;refine SG_yes 13 rfl rfl g13 (SG_q (Rq_fieldAddr fa106_1 rfl) rfl (SG_yes 13 rfl rfl g13 (SG_q (Rq_loadB (hB1) Tryz.isAgg3 rfl rfl) rfl (SG_yes 13 rfl rfl g13 (SG_q (Rq_eql rfl rfl) rfl (SG_q (Rq_pick rfl (fun _ => rfl) (fun h => absurd (g13.symm.trans h) (by decide))) rfl ?_))))));exact K13 _ _ hm13 (by repeat (first | exact Sub.refl | refine Sub.shadow ?_ | refine Sub.same ?_ | refine Sub.push rfl ?_))
  ·intro g13 K13
   have g13' := g13; try simp only [dd] at g13'
   have hm13 := Below.refl (w1).heap.size w1;refine SG_no 13 rfl rfl g13 rfl (SG_no 13 rfl rfl g13 rfl (SG_no 13 rfl rfl g13 rfl (SG_q (Rq_pick rfl (fun h => absurd (g13.symm.trans h) (by decide)) (fun _ => rfl)) rfl ?_)));exact K13 _ _ hm13 (by repeat (first | exact Sub.refl | refine Sub.shadow ?_ | refine Sub.same ?_ | refine Sub.push rfl ?_))
  intro wm13 hbm13;replace hb0 := btr hb0 hbm13
  simp only [List.drop_succ_cons, List.drop_zero]
  refine SG_q (Rq_assign rfl) rfl (SG_nil (D_then (W_ret (D_body1 rfl rfl rfl ?_))));exact ⟨by rw [isCellB, if_neg g5], hb0⟩
theorem f132_c (x : Vl) (w : World) : Pure Tryz.prog 132 #[valV x] w (.bool (!isCellB x)) := by
 have hb0 := Below.refl w.heap.size w;refine calls_of_W Tryz.func132 rfl Tryz.ntmps132 rfl ?_;refine W_seq (W_region (SG_box rfl rfl rfl ?_));intro w1 b1 e1 hb1 hz1 hB1
 have hle1 : w.heap.size ≤ b1 := by have := hb0.size; omega
 replace hb0 := btr hb0 hb1;refine SG_q (Rq_assign rfl) rfl (SG_nil (D_then (W_seq (W_region ?_))))
 first | refine SG_q (Rq_loadBW (hB1) Tryz.isAgg106 Tryz.sizeOf106 rfl rfl) rfl ?_ | refine SG_q (Rq_loadBA (hB1) Tryz.isAgg106 Tryz.sizeOf106 rfl rfl rfl) rfl ?_
 refine SG_pure rfl Tryz.call121 rfl (f121_c _ _) ?_;intro w4 hb4;replace hb0 := btr hb0 hb4;refine SG_q (Rq_not rfl) rfl (SG_q (Rq_assign rfl) rfl (SG_nil (D_then (W_ret (D_body1 rfl rfl rfl ?_)))));exact ⟨rfl, hb0⟩
theorem f129_c {g : FuncId} {caps : List Value} {p : Vl → Bool} {v : Value} {xs : List Vl} {w : World} (hlen : xs.length ≤ 4611686018427387904) (hs : SL w v 2 encV xs) (hg : ∀ args w, (callFunc g args).run Tryz.prog w = .ok (.enter g args) w)
  (hp : ∀ x ∈ xs, ∀ w', Below w.heap.size w w' → Pure Tryz.prog g (valV x :: caps).toArray w' (.bool (p x))) : Pure Tryz.prog 129 #[v, .func (.func g) #[] caps.toArray] w (.int .i64 (idx p xs)) := by
 have hb0 := Below.refl w.heap.size w;refine calls_of_W Tryz.func129 rfl Tryz.ntmps129 rfl ?_;refine W_seq (W_region (SG_q (Rq_assign rfl) rfl (SG_nil (D_then (W_seq (W_seq (W_region (SG_q (Rq_move rfl) rfl (SG_q (Rq_len ((hs).below hb0) Tryz.runUnderlying69 rfl) rfl (SG_q (Rq_move rfl) rfl (SG_nil (D_then (W_block ?_)))))))))))));refine W_loop (α := Nat) (fun x => [(0, v), (1, .func (.func g) #[] caps.toArray), (7, .int .i64 xs.length), (8, .int .i64 x)]) (fun x w' => Below w.heap.size w w' ∧ x ≤ xs.length ∧ ∀ (j : Nat) (z : Vl), j < x → xs[j]? = some z → p z = false) (fun x => xs.length - x) (0) (by repeat (first | exact Sub.nil | refine Sub.cons rfl ?_)) ⟨hb0, Nat.zero_le _, fun j z hj => absurd hj (Nat.not_lt_zero j)⟩ ?_;clear hb0;rintro x wl0 ⟨hb0, hx, hno⟩;refine W_seq (W_region (SG_q (Rq_lss rfl rfl) rfl (SG_nil (D_then (W_seq ?_)))));refine W_cond rfl ?_ ?_
 ·intro g9
  try simp only [dd] at g9
  refine W_skip (D_then (W_seq (W_block (W_seq (W_region (SG_q (Rq_move rfl) rfl (SG_q (Rq_assign rfl) rfl (SG_nil (D_then (W_seq (W_region (SG_q (Rq_move rfl) rfl (SG_q (Rq_move rfl) rfl (SG_q (Rq_move rfl) rfl ?_))))))))))))));refine SG_index ((hs).below hb0) Tryz.runUnderlying69 Tryz.sizeOf106 rfl rfl ?_ ?_ rfl ?_
  ·omega
  ·omega
  intro x14 hx14 hc14;refine SG_q (Rq_loadA Tryz.isAgg106 Tryz.sizeOf106 rfl ((hc14)) rfl) rfl (SG_purev rfl rfl rfl hg rfl (hp x14 (List.mem_of_getElem? hx14) _ hb0) ?_);intro w16 hb16;replace hb0 := btr hb0 hb16;refine SG_nil (D_then ?_);refine W_cond rfl ?_ ?_
  ·intro g16
   try simp only [dd] at g16
   refine W_seq (W_region (SG_q (Rq_move rfl) rfl (SG_q (Rq_assign rfl) rfl (SG_nil (D_then (W_ret (D_block_ret (D_then_ret (D_loop_ret ?_)))))))));refine D_block_ret (D_then_ret (D_body1 rfl rfl rfl ?_));exact ⟨by rw [idx_found hno hx14 g16], hb0⟩
  ·intro g16
   try simp only [dd] at g16
   refine W_skip (D_block (D_then (W_region (SG_q (Rq_add rfl rfl (wrap_i64 (by omega) (by omega))) rfl (SG_q (Rq_move rfl) rfl (SG_nil ?_))))));refine D_loop (x + 1) (by repeat (first | exact Sub.nil | refine Sub.cons rfl ?_)) ⟨hb0, by omega, no_succ hno hx14 g16⟩ (by omega)
 ·intro g9
  try simp only [dd] at g9
  refine W_exit (D_then_exit (D_loop_exit ?_));refine D_block_exit (D_then (W_seq (W_region (SG_q (Rq_assign rfl) rfl (SG_nil (D_then (W_ret (D_body1 rfl rfl rfl ?_))))))));exact ⟨by rw [idx_none (no_all hno (by omega))], hb0⟩
theorem f131_c {g : FuncId} {caps : List Value} {p : Vl → Bool} {v : Value} {xs : List Vl} {w : World} (hlen : xs.length ≤ 4611686018427387904) (hs : SL w v 2 encV xs) (hg : ∀ args w, (callFunc g args).run Tryz.prog w = .ok (.enter g args) w)
  (hp : ∀ x ∈ xs, ∀ w', Below w.heap.size w w' → Pure Tryz.prog g (valV x :: caps).toArray w' (.bool (p x))) : Pure Tryz.prog 131 #[v, .func (.func g) #[] caps.toArray] w (.bool (xs.any p)) := by
 have hb0 := Below.refl w.heap.size w;refine calls_of_W Tryz.func131 rfl Tryz.ntmps131 rfl ?_;refine W_seq (W_region (SG_q (Rq_assign rfl) rfl (SG_nil (D_then (W_seq (W_region (SG_q (Rq_move rfl) rfl (SG_q (Rq_move rfl) rfl (SG_pure rfl Tryz.call129 rfl (f129_c hlen ((hs).below hb0) hg (fun x hx w' hb => hp x hx w' (btr hb0 hb))) ?_)))))))));intro w7 hb7;replace hb0 := btr hb0 hb7;refine SG_q (Rq_geq rfl rfl) rfl (SG_q (Rq_assign rfl) rfl (SG_nil (D_then (W_ret (D_body1 rfl rfl rfl ?_)))));exact ⟨by rw [idx_any], hb0⟩
theorem f123_c {v : Value} {xs : List Vl} {w : World} (hlen : xs.length ≤ 4611686018427387904) (hs : SL w v 2 encV xs) : Pure Tryz.prog 123 #[v] w (.bool (areCellsB xs)) := by
 have hb0 := Below.refl w.heap.size w;refine calls_of_W Tryz.func123 rfl Tryz.ntmps123 rfl ?_;refine W_seq (W_region (SG_q (Rq_assign rfl) rfl (SG_nil (D_then (W_seq (W_region (SG_q (Rq_move rfl) rfl (SG_pure rfl Tryz.call131 rfl (f131_c (caps := []) hlen ((hs).below hb0) Tryz.call132 (fun x hx w' hb => f132_c x w')) ?_))))))));intro w4 hb4;replace hb0 := btr hb0 hb4;refine SG_q (Rq_not rfl) rfl (SG_q (Rq_assign rfl) rfl (SG_nil (D_then (W_ret (D_body1 rfl rfl rfl ?_)))));exact ⟨rfl, hb0⟩
theorem f130_c (x : Vl) (w : World) : Pure Tryz.prog 130 #[valV x] w (.bool (!decide (x.f = 0))) := by
 have hb0 := Below.refl w.heap.size w;refine calls_of_W Tryz.func130 rfl Tryz.ntmps130 rfl ?_;refine W_seq (W_region (SG_box rfl rfl rfl ?_));intro w1 b1 e1 hb1 hz1 hB1
 have hle1 : w.heap.size ≤ b1 := by have := hb0.size; omega
 replace hb0 := btr hb0 hb1;refine SG_q (Rq_assign rfl) rfl (SG_nil (D_then (W_seq (W_region (SG_q (Rq_fieldAddr fa106_0 rfl) rfl (SG_q (Rq_loadB (hB1) Tryz.isAgg5 rfl rfl) rfl (SG_q (Rq_neq rfl rfl) rfl (SG_q (Rq_assign rfl) rfl (SG_nil (D_then (W_ret (D_body1 rfl rfl rfl ?_))))))))))));exact ⟨rfl, hb0⟩
theorem idx_lo {α : Type} (p : α → Bool) (xs : List α) : -1 ≤ idx p xs := by unfold idx; split <;> omega
theorem idx_hi {α : Type} (p : α → Bool) (xs : List α) : idx p xs < xs.length := by
 unfold idx; split
 ·rename_i h; have := List.findIdx_lt_length.2 (by simpa using List.any_eq_true.1 h); omega
 ·omega
theorem f122_c {v : Value} {xs : List Vl} {w : World} (hlen : xs.length ≤ 4611686018427387904) (hs : SL w v 2 encV xs) : Pure Tryz.prog 122 #[v] w (match xs.find? (fun x => !decide (x.f = 0)) with | some x => .tuple #[valV x, .bool true] | none => .tuple #[valV ⟨0, 0⟩, .bool false]) := by
 have hb0 := Below.refl w.heap.size w;refine calls_of_W Tryz.func122 rfl Tryz.ntmps122 rfl ?_;refine W_seq (W_region (SG_alloc Tryz.zeroValue106 rfl rfl ?_));intro w2 b2 e2 hb2 hz2 hB2
 have hle2 : w.heap.size ≤ b2 := by have := hb0.size; omega
 replace hb0 := btr hb0 hb2;refine SG_q (Rq_assign rfl) rfl (SG_nil (D_then (W_seq (W_region (SG_q (Rq_move rfl) rfl (SG_pure rfl Tryz.call129 rfl (f129_c (caps := []) hlen ((hs).below hb0) Tryz.call130 (fun x hx w' hb => f130_c x w')) ?_))))));intro w6 hb6;replace hb0 := btr hb0 hb6;replace hB2 := hB2.below hb6;refine SG_q (Rq_assign rfl) rfl (SG_nil (D_then (W_seq (W_seq (W_region (SG_q (Rq_move rfl) rfl (SG_q (Rq_lss rfl rfl) rfl (SG_nil (D_then ?_)))))))));refine W_cond rfl ?_ ?_
 ·intro g8
  try simp only [dd] at g8
  refine W_seq ?_;refine W_region ?_;refine SG_q (Rq_build0 build106_) rfl ?_;refine SG_storeW (hB2) rfl rfl rfl rfl Tryz.sizeOf106 rfl rfl ?_;intro ws3x1 hchs3x1 hBs3x1;replace hb0 := bchg hb0 hchs3x1 hle2;clear hB2;refine SG_q (Rq_assign rfl) rfl ?_;refine SG_nil ?_;refine D_then ?_;refine W_ret ?_;refine D_then_ret ?_;refine D_bodyR2 rfl rfl (.cellW rfl (hBs3x1) Tryz.isAgg106 Tryz.sizeOf106 rfl) (.tmp rfl) ?_;exact ⟨by rw [find_none_of g8]; rfl, hb0⟩
 ·intro g8
  try simp only [dd] at g8
  refine W_skip (D_then (W_seq (W_region (SG_q (Rq_move rfl) rfl (SG_q (Rq_move rfl) rfl ?_)))));refine SG_index ((hs).below hb0) Tryz.runUnderlying69 Tryz.sizeOf106 rfl rfl ?_ ?_ rfl ?_
  ·(have := idx_hi (fun x : Vl => !decide (x.f = 0)) xs; omega)
  ·(have := idx_hi (fun x : Vl => !decide (x.f = 0)) xs; omega)
  intro x12 hx12 hc12;refine SG_q (Rq_loadA Tryz.isAgg106 Tryz.sizeOf106 rfl ((hc12)) rfl) rfl ?_;refine SG_storeW (hB2) rfl rfl rfl rfl Tryz.sizeOf106 rfl rfl ?_;intro ws4x4 hchs4x4 hBs4x4;replace hb0 := bchg hb0 hchs4x4 hle2;clear hc12;clear hB2;refine SG_q (Rq_assign rfl) rfl ?_;refine SG_nil ?_;refine D_then ?_;refine W_ret ?_;refine D_bodyR2 rfl rfl (.cellW rfl (hBs4x4) Tryz.isAgg106 Tryz.sizeOf106 rfl) (.tmp rfl) ?_;exact ⟨by rw [find_some_of hx12 (by omega)]; rfl, hb0⟩
theorem f122_none {v : Value} {xs : List Vl} {w : World} (hlen : xs.length ≤ 4611686018427387904) (hs : SL w v 2 encV xs) (h : xs.find? (fun x => !decide (x.f = 0)) = none) : Pure Tryz.prog 122 #[v] w (.tuple #[valV ⟨0, 0⟩, .bool false]) := by
 have := f122_c hlen hs; rw [h] at this; exact this
theorem f122_some {v : Value} {xs : List Vl} {w : World} {x : Vl} (hlen : xs.length ≤ 4611686018427387904) (hs : SL w v 2 encV xs) (h : xs.find? (fun x => !decide (x.f = 0)) = some x) : Pure Tryz.prog 122 #[v] w (.tuple #[valV x, .bool true]) := by
 have := f122_c hlen hs; rw [h] at this; exact this
theorem f126_c {n : Int} (h1 : -9999 ≤ n) (h2 : n ≤ 9999) (w : World) : Pure Tryz.prog 126 #[.int .i64 n] w (valV (mkV (-n))) := by
 have hb0 := Below.refl w.heap.size w;refine calls_of_W Tryz.func126 rfl Tryz.ntmps126 rfl ?_;refine W_seq (W_region (SG_alloc Tryz.zeroValue106 rfl rfl ?_));intro w2 b2 e2 hb2 hz2 hB2
 have hle2 : w.heap.size ≤ b2 := by have := hb0.size; omega
 replace hb0 := btr hb0 hb2;refine SG_nil (D_then (W_seq (W_region (SG_q (Rq_move rfl) rfl (SG_q (Rq_neg rfl (wrap_i64 (by omega) (by omega))) rfl (SG_pure rfl Tryz.call108 rfl (f108_c _ _) ?_))))));intro w5 hb5;replace hb0 := btr hb0 hb5;replace hB2 := hB2.below hb5;refine SG_storeW (hB2) rfl rfl rfl rfl Tryz.sizeOf106 rfl rfl ?_;intro ws1x3 hchs1x3 hBs1x3;replace hb0 := bchg hb0 hchs1x3 hle2;clear hB2;refine SG_nil (D_then (W_ret (D_bodyR1 rfl rfl (.cellW rfl (hBs1x3) Tryz.isAgg106 Tryz.sizeOf106 rfl) ?_)));exact ⟨rfl, hb0⟩
theorem f127_c (n : Int) (w : World) : Pure Tryz.prog 127 #[.int .i64 n] w (valV (truthV (decide (n = 0)))) := by
 have hb0 := Below.refl w.heap.size w;refine calls_of_W Tryz.func127 rfl Tryz.ntmps127 rfl ?_;refine W_seq (W_region (SG_alloc Tryz.zeroValue106 rfl rfl ?_));intro w2 b2 e2 hb2 hz2 hB2
 have hle2 : w.heap.size ≤ b2 := by have := hb0.size; omega
 replace hb0 := btr hb0 hb2;refine SG_nil (D_then (W_seq (W_region (SG_q (Rq_move rfl) rfl (SG_q (Rq_eql rfl rfl) rfl (SG_pure rfl Tryz.call128 rfl (f128_c _ _) ?_))))));intro w5 hb5;replace hb0 := btr hb0 hb5;replace hB2 := hB2.below hb5;refine SG_storeW (hB2) rfl rfl rfl rfl Tryz.sizeOf106 rfl rfl ?_;intro ws1x3 hchs1x3 hBs1x3;replace hb0 := bchg hb0 hchs1x3 hle2;clear hB2;refine SG_nil (D_then (W_ret (D_bodyR1 rfl rfl (.cellW rfl (hBs1x3) Tryz.isAgg106 Tryz.sizeOf106 rfl) ?_)));exact ⟨rfl, hb0⟩
def soloV (code : Int) : Value := if code = 5 then .func (.func 126) #[] #[] else if code = 6 then .func (.func 127) #[] #[] else .nilFunc
theorem soloV_form (code : Int) : soloV code = .nilFunc ∨ ∃ f p q, soloV code = .func f p q := by
 unfold soloV; split
 ·exact .inr ⟨_, _, _, rfl⟩
 ·split
  ·exact .inr ⟨_, _, _, rfl⟩
  ·exact .inl rfl
theorem soloV_nil (code : Int) : isNilF (soloV code) = !isSolo code := by
 unfold soloV isSolo; split
 ·rename_i h; simp [h, isNilF]
 ·split
  ·rename_i h; simp [h, isNilF]
  ·rename_i h h'; simp [h, h', isNilF]
theorem solo_call {code n : Int} (h : isNilF (soloV code) = false) (h1 : -9999 ≤ n) (h2 : n ≤ 9999) (w : World) : ∃ f cap, soloV code = .func (.func f) #[] cap.toArray ∧ (∀ args w, (callFunc f args).run Tryz.prog w = .ok (.enter f args) w) ∧ Pure Tryz.prog f ([.int .i64 n] ++ cap).toArray w (valV (soloR code n)) := by
 unfold soloV at *; split
 ·rename_i h5; exact ⟨126, [], rfl, Tryz.call126, by rw [soloR, if_pos h5]; exact f126_c h1 h2 w⟩
 ·rename_i h5
  split
  ·exact ⟨127, [], rfl, Tryz.call127, by rw [soloR, if_neg h5]; exact f127_c n w⟩
  ·rename_i h6; rw [if_neg h5, if_neg h6] at h; simp [isNilF] at h
theorem cell_bd {a : Vl} (h : isCellB a = true) (hf : a.f = 0) : -9999 ≤ a.n ∧ a.n ≤ 9999 := by
 rw [isCellB, if_pos hf] at h; simpa using h
theorem f120_c (code : Int) (w : World) : Pure Tryz.prog 120 #[.int .u8 code] w (soloV code) := by
 have hb0 := Below.refl w.heap.size w;refine calls_of_W Tryz.func120 rfl Tryz.ntmps120 rfl ?_;refine W_seq (W_region (SG_q (Rq_assign rfl) rfl (SG_nil (D_then (W_seq (W_seq (W_region (SG_q (Rq_move rfl) rfl (SG_nil (D_then (W_block (W_seq (W_region (SG_q (Rq_eql rfl rfl) rfl (SG_q (Rq_assign rfl) rfl (SG_nil (D_then ?_)))))))))))))))));refine W_cond rfl ?_ ?_
 ·intro g4
  try simp only [dd] at g4
  refine W_seq (W_region (SG_q (Rq_assign rfl) rfl (SG_nil (D_then (W_ret (D_block_ret (D_then_ret (D_body1 rfl rfl rfl ?_))))))));exact ⟨by rw [soloV, if_pos g4], hb0⟩
 ·intro g4
  try simp only [dd] at g4
  refine W_seq (W_region (SG_q (Rq_eql rfl rfl) rfl (SG_q (Rq_assign rfl) rfl (SG_nil (D_then ?_)))));refine W_cond rfl ?_ ?_
  ·intro g6
   try simp only [dd] at g6
   refine W_seq (W_region (SG_q (Rq_assign rfl) rfl (SG_nil (D_then (W_ret (D_block_ret (D_then_ret (D_body1 rfl rfl rfl ?_))))))));exact ⟨by rw [soloV, if_neg g4, if_pos g6], hb0⟩
  ·intro g6
   try simp only [dd] at g6
   refine W_skip (D_block (D_then (W_seq (W_region (SG_q (Rq_assign rfl) rfl (SG_nil (D_then (W_ret (D_body1 rfl rfl rfl ?_)))))))));exact ⟨by rw [soloV, if_neg g4, if_neg g6], hb0⟩
theorem f109_c (code : Int) (a : Vl) (w : World) : Pure Tryz.prog 109 #[.int .u8 code, valV a] w (.tuple #[valV (op1R code a).1, .int .i64 (op1R code a).2]) := by
 have hb0 := Below.refl w.heap.size w;refine calls_of_W Tryz.func109 rfl Tryz.ntmps109 rfl ?_;refine W_seq (W_region (SG_box rfl rfl rfl ?_));intro w3 b3 e3 hb3 hz3 hB3
 have hle3 : w.heap.size ≤ b3 := by have := hb0.size; omega
 replace hb0 := btr hb0 hb3;refine SG_alloc Tryz.zeroValue106 rfl rfl ?_;intro w4 b4 e4 hb4 hz4 hB4
 have hle4 : w.heap.size ≤ b4 := by have := hb0.size; omega
 have ne_b3_4 : ¬ b3 = b4 := by have := hB3.lt; omega
 replace hb0 := btr hb0 hb4;replace hB3 := hB3.below hb4;refine SG_q (Rq_assign rfl) rfl ?_;refine SG_nil ?_;refine D_then ?_;refine W_seq ?_;refine W_region ?_;refine SG_q (Rq_move rfl) rfl ?_;refine SG_pure rfl Tryz.call120 rfl (f120_c _ _) ?_;intro w10 hb10;replace hb0 := btr hb0 hb10;replace hB3 := hB3.below hb10;replace hB4 := hB4.below hb10;refine SG_q (Rq_assign rfl) rfl ?_;refine SG_nil ?_;refine D_then ?_;refine W_seq ?_;refine W_seq ?_;refine W_region ?_;refine SG_q (Rq_move rfl) rfl ?_;refine SG_q (Rq_eql_fn Tryz.runUnderlying165 rfl (soloV_form code)) rfl ?_;refine SG_q (Rq_move rfl) rfl ?_;refine SG_or (r := ?r13n1) 4 17 13 rfl ?_ ?_ ?_; rotate_left
 ·intro g13 K13
  have g13' := g13; try simp only [dd] at g13'
  have hm13 := Below.refl (w10).heap.size w10;refine SG_yes 13 rfl rfl g13 ?_
  first | refine SG_q (Rq_loadBW (hB3) Tryz.isAgg106 Tryz.sizeOf106 rfl rfl) rfl ?_ | refine SG_q (Rq_loadBA (hB3) Tryz.isAgg106 Tryz.sizeOf106 rfl rfl rfl) rfl ?_
  refine SG_yes 13 rfl rfl g13 (SG_pure rfl Tryz.call121 rfl (f121_c _ _) ?_);intro w15 hb15;replace hb0 := btr hb0 hb15;replace hm13 := btr hm13 hb15;refine SG_yes 13 rfl rfl g13 (SG_q (Rq_not rfl) rfl (SG_q (Rq_pick rfl (fun h => absurd (g13.symm.trans h) (by decide)) (fun _ => rfl)) rfl ?_));exact K13 _ _ hm13 (by repeat (first | exact Sub.refl | refine Sub.shadow ?_ | refine Sub.same ?_ | refine Sub.push rfl ?_))
 ·intro g13 K13
  have g13' := g13; try simp only [dd] at g13'
  have hm13 := Below.refl (w10).heap.size w10;refine SG_no 13 rfl rfl g13 rfl (SG_no 13 rfl rfl g13 rfl (SG_no 13 rfl rfl g13 rfl (SG_q (Rq_pick rfl (fun _ => rfl) (fun h => absurd (g13.symm.trans h) (by decide))) rfl ?_)));exact K13 _ _ hm13 (by repeat (first | exact Sub.refl | refine Sub.shadow ?_ | refine Sub.same ?_ | refine Sub.push rfl ?_))
 intro wm13 hbm13;replace hb0 := btr hb0 hbm13;replace hB3 := hB3.below hbm13;replace hB4 := hB4.below hbm13
 simp only [List.drop_succ_cons, List.drop_zero]
 refine SG_nil (D_then ?_);refine W_cond rfl ?_ ?_
 ·intro g17
  try simp only [dd] at g17
  refine W_seq ?_;refine W_region ?_;refine SG_q (Rq_build0 build106_) rfl ?_;refine SG_storeW (hB4) rfl rfl rfl rfl Tryz.sizeOf106 rfl rfl ?_;intro ws3x1 hchs3x1 hBs3x1;replace hb0 := bchg hb0 hchs3x1 hle4;clear hB4;refine SG_q (Rq_assign rfl) rfl ?_;refine SG_nil ?_;refine D_then ?_;refine W_ret ?_;refine D_then_ret ?_;refine D_bodyR2 rfl rfl (.cellW rfl (hBs3x1) Tryz.isAgg106 Tryz.sizeOf106 rfl) (.tmp rfl) ?_;exact ⟨by rw [op1R, if_pos (by rw [soloV_nil] at g17; simpa using g17)]; rfl, hb0⟩
 ·intro g17
  try simp only [dd] at g17
  refine W_skip (D_then (W_seq (W_seq ?_)))
  by_cases hf : a.f = 0
  ·skip
   refine W_region ?_
   first | refine SG_q (Rq_loadBW (hB3) Tryz.isAgg106 Tryz.sizeOf106 rfl rfl) rfl ?_ | refine SG_q (Rq_loadBA (hB3) Tryz.isAgg106 Tryz.sizeOf106 rfl rfl rfl) rfl ?_
   refine SG_bslice (enc := encV) (val := valV) (os := [.tmp 20]) rfl rfl (MV.cons (MV.nil)) (fun _ => rfl) (fun _ => rfl) Tryz.runUnderlying69 Tryz.sizeOf106 Tryz.zeroValue106 rfl (by decide) (by decide) rfl ?_;intro w21 v21 b21 e21 hb21 hz21 hob21 hO21
   have hle21 : w.heap.size ≤ b21 := by have := hb0.size; omega
   have lt_b3_21 : b3 < b21 := by have := hB3.lt; omega
   have lt_b4_21 : b4 < b21 := by have := hB4.lt; omega
   replace hb0 := btr hb0 hb21;replace hB3 := hB3.below hb21;replace hB4 := hB4.below hb21;refine SG_pure rfl Tryz.call122 rfl (f122_none (xs := [a]) (by simp) (hO21.sl) (by simp [hf])) ?_;intro w22 hb22;replace hb0 := btr hb0 hb22;replace hB3 := hB3.below hb22;replace hB4 := hB4.below hb22;refine SG_q (Rq_move rfl) rfl (SG_q (Rq_extract rfl rfl) rfl (SG_q (Rq_extract rfl rfl) rfl (SG_alloc Tryz.zeroValue106 rfl rfl ?_)));intro w7 b7 e7 hb7 hz7 hB7
   have hle7 : w.heap.size ≤ b7 := by have := hb0.size; omega
   have ne_b3_7 : ¬ b3 = b7 := by have := hB3.lt; omega
   have ne_b4_7 : ¬ b4 = b7 := by have := hB4.lt; omega
   replace hb0 := btr hb0 hb7;replace hB3 := hB3.below hb7;replace hB4 := hB4.below hb7;refine SG_storeW (hB7) rfl rfl rfl rfl Tryz.sizeOf106 rfl rfl ?_;intro ws4x7 hchs4x7 hBs4x7;replace hb0 := bchg hb0 hchs4x7 hle7;replace hB3 := hB3.chg hchs4x7 ne_b3_7;replace hB4 := hB4.chg hchs4x7 ne_b4_7;clear hO21;clear hB7;refine SG_q (Rq_assign rfl) rfl ?_;refine SG_nil ?_;refine D_then ?_;refine W_seq ?_;refine W_region ?_;refine SG_q (Rq_move rfl) rfl ?_;refine SG_nil ?_;refine D_then ?_;refine W_condF rfl ?_;refine W_skip ?_;refine D_then ?_;refine W_seq ?_;refine W_region ?_;refine SG_q (Rq_move rfl) rfl ?_;refine SG_q (Rq_fieldAddr fa106_1 rfl) rfl ?_;refine SG_q (Rq_loadB (hB3) Tryz.isAgg3 rfl rfl) rfl ?_;refine SG_pureE rfl rfl rfl (solo_call g17.1 (cell_bd g17.2 hf).1 (cell_bd g17.2 hf).2 _) ?_;intro w30 hb30;replace hb0 := btr hb0 hb30;replace hB4 := hB4.below hb30;refine SG_storeW (hB4) rfl rfl rfl rfl Tryz.sizeOf106 rfl rfl ?_;intro ws7x4 hchs7x4 hBs7x4;replace hb0 := bchg hb0 hchs7x4 hle4;clear hB4;refine SG_q (Rq_assign rfl) rfl ?_;refine SG_nil ?_;refine D_then ?_;refine W_ret ?_;refine D_bodyR2 rfl rfl (.cellW rfl (hBs7x4) Tryz.isAgg106 Tryz.sizeOf106 rfl) (.tmp rfl) ?_;exact ⟨by rw [op1R, if_neg (by rw [soloV_nil] at g17; have h1 := g17.1; simp at h1; simp [h1, g17.2]), if_neg (by simpa using hf)]; rfl, hb0⟩
  ·skip
   refine W_region ?_
   first | refine SG_q (Rq_loadBW (hB3) Tryz.isAgg106 Tryz.sizeOf106 rfl rfl) rfl ?_ | refine SG_q (Rq_loadBA (hB3) Tryz.isAgg106 Tryz.sizeOf106 rfl rfl rfl) rfl ?_
   refine SG_bslice (enc := encV) (val := valV) (os := [.tmp 20]) rfl rfl (MV.cons (MV.nil)) (fun _ => rfl) (fun _ => rfl) Tryz.runUnderlying69 Tryz.sizeOf106 Tryz.zeroValue106 rfl (by decide) (by decide) rfl ?_;intro w21 v21 b21 e21 hb21 hz21 hob21 hO21
   have hle21 : w.heap.size ≤ b21 := by have := hb0.size; omega
   have lt_b3_21 : b3 < b21 := by have := hB3.lt; omega
   have lt_b4_21 : b4 < b21 := by have := hB4.lt; omega
   replace hb0 := btr hb0 hb21;replace hB3 := hB3.below hb21;replace hB4 := hB4.below hb21;refine SG_pure rfl Tryz.call122 rfl (f122_some (xs := [a]) (x := a) (by simp) (hO21.sl) (by simp [hf])) ?_;intro w22 hb22;replace hb0 := btr hb0 hb22;replace hB3 := hB3.below hb22;replace hB4 := hB4.below hb22;refine SG_q (Rq_move rfl) rfl (SG_q (Rq_extract rfl rfl) rfl (SG_q (Rq_extract rfl rfl) rfl (SG_alloc Tryz.zeroValue106 rfl rfl ?_)));intro w7 b7 e7 hb7 hz7 hB7
   have hle7 : w.heap.size ≤ b7 := by have := hb0.size; omega
   have ne_b3_7 : ¬ b3 = b7 := by have := hB3.lt; omega
   have ne_b4_7 : ¬ b4 = b7 := by have := hB4.lt; omega
   replace hb0 := btr hb0 hb7;replace hB4 := hB4.below hb7;refine SG_storeW (hB7) rfl rfl rfl rfl Tryz.sizeOf106 rfl rfl ?_;intro ws4x7 hchs4x7 hBs4x7;replace hb0 := bchg hb0 hchs4x7 hle7;replace hB4 := hB4.chg hchs4x7 ne_b4_7;clear hO21;clear hB7;refine SG_q (Rq_assign rfl) rfl (SG_nil (D_then (W_seq (W_region (SG_q (Rq_move rfl) rfl (SG_nil (D_then (W_condT rfl ?_))))))));refine W_seq (W_region ?_)
   first | refine SG_q (Rq_loadBW (hBs4x7) Tryz.isAgg106 Tryz.sizeOf106 rfl rfl) rfl ?_ | refine SG_q (Rq_loadBA (hBs4x7) Tryz.isAgg106 Tryz.sizeOf106 rfl rfl rfl) rfl ?_
   refine SG_storeW (hB4) rfl rfl rfl rfl Tryz.sizeOf106 rfl rfl ?_;intro ws6x1 hchs6x1 hBs6x1;replace hb0 := bchg hb0 hchs6x1 hle4;clear hB4;refine SG_q (Rq_assign rfl) rfl ?_;refine SG_nil ?_;refine D_then ?_;refine W_ret ?_;refine D_then_ret ?_;refine D_bodyR2 rfl rfl (.cellW rfl (hBs6x1) Tryz.isAgg106 Tryz.sizeOf106 rfl) (.tmp rfl) ?_;exact ⟨by rw [op1R, if_neg (by rw [soloV_nil] at g17; have h1 := g17.1; simp at h1; simp [h1, g17.2]), if_pos hf]; rfl, hb0⟩
theorem f110_c (a b c : Vl) (w : World) : Pure Tryz.prog 110 #[valV a, valV b, valV c] w (.tuple #[valV (chooseR a b c).1, .int .i64 (chooseR a b c).2]) := by
 have hb0 := Below.refl w.heap.size w;refine calls_of_W Tryz.func110 rfl Tryz.ntmps110 rfl ?_;refine W_seq (W_region (SG_box rfl rfl rfl ?_));intro w3 b3 e3 hb3 hz3 hB3
 have hle3 : w.heap.size ≤ b3 := by have := hb0.size; omega
 replace hb0 := btr hb0 hb3;refine SG_box rfl rfl rfl ?_;intro w4 b4 e4 hb4 hz4 hB4
 have hle4 : w.heap.size ≤ b4 := by have := hb0.size; omega
 have ne_b3_4 : ¬ b3 = b4 := by have := hB3.lt; omega
 replace hb0 := btr hb0 hb4;replace hB3 := hB3.below hb4;refine SG_box rfl rfl rfl ?_;intro w5 b5 e5 hb5 hz5 hB5
 have hle5 : w.heap.size ≤ b5 := by have := hb0.size; omega
 have ne_b3_5 : ¬ b3 = b5 := by have := hB3.lt; omega
 have ne_b4_5 : ¬ b4 = b5 := by have := hB4.lt; omega
 replace hb0 := btr hb0 hb5;replace hB3 := hB3.below hb5;replace hB4 := hB4.below hb5;refine SG_alloc Tryz.zeroValue106 rfl rfl ?_;intro w6 b6 e6 hb6 hz6 hB6
 have hle6 : w.heap.size ≤ b6 := by have := hb0.size; omega
 have ne_b3_6 : ¬ b3 = b6 := by have := hB3.lt; omega
 have ne_b4_6 : ¬ b4 = b6 := by have := hB4.lt; omega
 have ne_b5_6 : ¬ b5 = b6 := by have := hB5.lt; omega
 replace hb0 := btr hb0 hb6;replace hB3 := hB3.below hb6;replace hB4 := hB4.below hb6;replace hB5 := hB5.below hb6;refine SG_q (Rq_assign rfl) rfl (SG_nil (D_then (W_seq (W_block (W_seq (W_region ?_))))))
 first | refine SG_q (Rq_loadBW (hB3) Tryz.isAgg106 Tryz.sizeOf106 rfl rfl) rfl ?_ | refine SG_q (Rq_loadBA (hB3) Tryz.isAgg106 Tryz.sizeOf106 rfl rfl rfl) rfl ?_
 first | refine SG_q (Rq_loadBW (hB4) Tryz.isAgg106 Tryz.sizeOf106 rfl rfl) rfl ?_ | refine SG_q (Rq_loadBA (hB4) Tryz.isAgg106 Tryz.sizeOf106 rfl rfl rfl) rfl ?_
 first | refine SG_q (Rq_loadBW (hB5) Tryz.isAgg106 Tryz.sizeOf106 rfl rfl) rfl ?_ | refine SG_q (Rq_loadBA (hB5) Tryz.isAgg106 Tryz.sizeOf106 rfl rfl rfl) rfl ?_
 refine SG_bslice (enc := encV) (val := valV) (os := [.tmp 9, .tmp 10, .tmp 11]) rfl rfl (MV.cons (MV.cons (MV.cons (MV.nil)))) (fun _ => rfl) (fun _ => rfl) Tryz.runUnderlying69 Tryz.sizeOf106 Tryz.zeroValue106 rfl (by decide) (by decide) rfl ?_;intro w12 v12 b12 e12 hb12 hz12 hob12 hO12
 have hle12 : w.heap.size ≤ b12 := by have := hb0.size; omega
 have lt_b3_12 : b3 < b12 := by have := hB3.lt; omega
 have lt_b4_12 : b4 < b12 := by have := hB4.lt; omega
 have lt_b5_12 : b5 < b12 := by have := hB5.lt; omega
 have lt_b6_12 : b6 < b12 := by have := hB6.lt; omega
 replace hb0 := btr hb0 hb12;replace hB3 := hB3.below hb12;replace hB4 := hB4.below hb12;replace hB5 := hB5.below hb12;replace hB6 := hB6.below hb12;refine SG_pure rfl Tryz.call123 rfl (f123_c (by simp) (hO12.sl)) ?_;intro w13 hb13;replace hb0 := btr hb0 hb13;replace hB3 := hB3.below hb13;replace hB4 := hB4.below hb13;replace hB5 := hB5.below hb13;replace hB6 := hB6.below hb13;refine SG_q (Rq_not rfl) rfl (SG_q (Rq_assign rfl) rfl (SG_nil (D_then ?_)));refine W_cond rfl ?_ ?_
 ·intro g8
  try simp only [dd] at g8
  refine W_seq ?_;refine W_region ?_;refine SG_q (Rq_build0 build106_) rfl ?_;refine SG_storeW (hB6) rfl rfl rfl rfl Tryz.sizeOf106 rfl rfl ?_;intro ws2x1 hchs2x1 hBs2x1;replace hb0 := bchg hb0 hchs2x1 hle6;clear hO12;clear hB6;refine SG_q (Rq_assign rfl) rfl ?_;refine SG_nil ?_;refine D_then ?_;refine W_ret ?_;refine D_block_ret ?_;refine D_then_ret ?_;refine D_bodyR2 rfl rfl (.cellW rfl (hBs2x1) Tryz.isAgg106 Tryz.sizeOf106 rfl) (.tmp rfl) ?_;exact ⟨by rw [chooseR, if_pos g8]; rfl, hb0⟩
 ·intro g8
  try simp only [dd] at g8
  refine W_seq (W_region (SG_q (Rq_fieldAddr fa106_0 rfl) rfl (SG_q (Rq_loadB (hB3) Tryz.isAgg5 rfl rfl) rfl (SG_q (Rq_neq rfl rfl) rfl (SG_q (Rq_assign rfl) rfl (SG_nil (D_then ?_)))))));refine W_cond rfl ?_ ?_
  ·intro g16
   try simp only [dd] at g16
   refine W_seq (W_region ?_)
   first | refine SG_q (Rq_loadBW (hB3) Tryz.isAgg106 Tryz.sizeOf106 rfl rfl) rfl ?_ | refine SG_q (Rq_loadBA (hB3) Tryz.isAgg106 Tryz.sizeOf106 rfl rfl rfl) rfl ?_
   refine SG_storeW (hB6) rfl rfl rfl rfl Tryz.sizeOf106 rfl rfl ?_;intro ws4x1 hchs4x1 hBs4x1;replace hb0 := bchg hb0 hchs4x1 hle6;clear hO12;clear hB6;refine SG_q (Rq_assign rfl) rfl ?_;refine SG_nil ?_;refine D_then ?_;refine W_ret ?_;refine D_block_ret ?_;refine D_then_ret ?_;refine D_bodyR2 rfl rfl (.cellW rfl (hBs4x1) Tryz.isAgg106 Tryz.sizeOf106 rfl) (.tmp rfl) ?_;exact ⟨by rw [chooseR, if_neg (by simp [g8]), if_pos g16]; rfl, hb0⟩
  ·intro g16
   try simp only [dd] at g16
   refine W_seq (W_region (SG_q (Rq_fieldAddr fa106_1 rfl) rfl (SG_q (Rq_loadB (hB3) Tryz.isAgg3 rfl rfl) rfl (SG_q (Rq_eql rfl rfl) rfl (SG_q (Rq_assign rfl) rfl (SG_nil (D_then ?_)))))));refine W_cond rfl ?_ ?_
   ·intro g21
    try simp only [dd] at g21
    refine W_seq (W_region ?_)
    first | refine SG_q (Rq_loadBW (hB5) Tryz.isAgg106 Tryz.sizeOf106 rfl rfl) rfl ?_ | refine SG_q (Rq_loadBA (hB5) Tryz.isAgg106 Tryz.sizeOf106 rfl rfl rfl) rfl ?_
    refine SG_storeW (hB6) rfl rfl rfl rfl Tryz.sizeOf106 rfl rfl ?_;intro ws6x1 hchs6x1 hBs6x1;replace hb0 := bchg hb0 hchs6x1 hle6;clear hO12;clear hB6;refine SG_q (Rq_assign rfl) rfl ?_;refine SG_nil ?_;refine D_then ?_;refine W_ret ?_;refine D_block_ret ?_;refine D_then_ret ?_;refine D_bodyR2 rfl rfl (.cellW rfl (hBs6x1) Tryz.isAgg106 Tryz.sizeOf106 rfl) (.tmp rfl) ?_;exact ⟨by rw [chooseR, if_neg (by simp [g8]), if_neg (by simp [g16]), if_pos g21]; rfl, hb0⟩
   ·intro g21
    try simp only [dd] at g21
    refine W_skip (D_block (D_then (W_seq (W_region ?_))))
    first | refine SG_q (Rq_loadBW (hB4) Tryz.isAgg106 Tryz.sizeOf106 rfl rfl) rfl ?_ | refine SG_q (Rq_loadBA (hB4) Tryz.isAgg106 Tryz.sizeOf106 rfl rfl rfl) rfl ?_
    refine SG_storeW (hB6) rfl rfl rfl rfl Tryz.sizeOf106 rfl rfl ?_;intro ws7x1 hchs7x1 hBs7x1;replace hb0 := bchg hb0 hchs7x1 hle6;clear hO12;clear hB6;refine SG_q (Rq_assign rfl) rfl ?_;refine SG_nil ?_;refine D_then ?_;refine W_ret ?_;refine D_bodyR2 rfl rfl (.cellW rfl (hBs7x1) Tryz.isAgg106 Tryz.sizeOf106 rfl) (.tmp rfl) ?_;exact ⟨by rw [chooseR, if_neg (by simp [g8]), if_neg (by simp [g16]), if_neg g21]; rfl, hb0⟩
theorem f147_c (n : Int) (w : World) : Pure Tryz.prog 147 #[.int .i64 n] w (.bool false) := by
 have hb0 := Below.refl w.heap.size w;refine calls_of_W Tryz.func147 rfl Tryz.ntmps147 rfl ?_;refine W_seq (W_region (SG_q (Rq_assign rfl) rfl (SG_nil (D_then (W_seq (W_region (SG_q (Rq_move rfl) rfl (SG_q (Rq_move rfl) rfl (SG_q (Rq_neq rfl rfl) rfl (SG_q (Rq_assign rfl) rfl (SG_nil (D_then (W_ret (D_body1 rfl rfl rfl ?_))))))))))))));exact ⟨by simp, hb0⟩
theorem f146_c (a b : Int) (w : World) : Pure Tryz.prog 146 #[.int .i64 a, .int .i64 b] w (.int .i64 (sign a b)) := by
 have hb0 := Below.refl w.heap.size w;refine calls_of_W Tryz.func146 rfl Tryz.ntmps146 rfl ?_;refine W_seq (W_region (SG_q (Rq_assign rfl) rfl (SG_nil (D_then (W_seq (W_region (SG_q (Rq_move rfl) rfl (SG_pure rfl Tryz.call147 rfl (f147_c _ _) ?_))))))));intro w8 hb8;replace hb0 := btr hb0 hb8;refine SG_q (Rq_assign rfl) rfl (SG_nil (D_then (W_seq (W_region (SG_q (Rq_move rfl) rfl (SG_pure rfl Tryz.call147 rfl (f147_c _ _) ?_))))));intro w10 hb10;replace hb0 := btr hb0 hb10;refine SG_q (Rq_assign rfl) rfl (SG_nil (D_then (W_seq (W_seq (W_region (SG_q (Rq_move rfl) rfl (SG_nil (D_then ?_))))))));refine W_cond rfl ?_ ?_
 ·intro g11; exfalso; (try simp only [dd] at g11); cases g11
 ·intro g11
  try simp only [dd] at g11
  refine W_skip (D_then (W_seq (W_seq (W_region (SG_q (Rq_move rfl) rfl (SG_nil (D_then ?_)))))));refine W_cond rfl ?_ ?_
  ·intro g13; exfalso; (try simp only [dd] at g13); cases g13
  ·intro g13
   try simp only [dd] at g13
   refine W_skip (D_then (W_seq (W_seq (W_region (SG_q (Rq_move rfl) rfl (SG_q (Rq_move rfl) rfl (SG_q (Rq_lss rfl rfl) rfl (SG_nil (D_then ?_)))))))));refine W_cond rfl ?_ ?_
   ·intro g16
    try simp only [dd] at g16
    refine W_seq (W_region (SG_q (Rq_assign rfl) rfl (SG_nil (D_then (W_ret (D_then_ret (D_body1 rfl rfl rfl ?_)))))));exact ⟨by rw [sign, if_pos g16], hb0⟩
   ·intro g16
    try simp only [dd] at g16
    refine W_skip (D_then (W_seq (W_seq (W_region (SG_q (Rq_move rfl) rfl (SG_q (Rq_move rfl) rfl (SG_q (Rq_gtr rfl rfl) rfl (SG_nil (D_then ?_)))))))));refine W_cond rfl ?_ ?_
    ·intro g19
     try simp only [dd] at g19
     refine W_seq (W_region (SG_q (Rq_assign rfl) rfl (SG_nil (D_then (W_ret (D_then_ret (D_body1 rfl rfl rfl ?_)))))));exact ⟨by rw [sign, if_neg (show ¬ a < b by omega), if_pos g19], hb0⟩
    ·intro g19
     try simp only [dd] at g19
     refine W_skip (D_then (W_seq (W_region (SG_q (Rq_assign rfl) rfl (SG_nil (D_then (W_ret (D_body1 rfl rfl rfl ?_))))))));exact ⟨by rw [sign, if_neg (show ¬ a < b by omega), if_neg (show ¬ b < a by omega)], hb0⟩
theorem mul_bd {a b : Int} (h1 : -9999 ≤ a) (h2 : a ≤ 9999) (h3 : -9999 ≤ b) (h4 : b ≤ 9999) : -99980001 ≤ a * b ∧ a * b ≤ 99980001 := by
 rcases Int.le_total 0 a with ha | ha <;> rcases Int.le_total 0 b with hb | hb
 ·have := Int.mul_le_mul h2 h4 hb (by omega); have := Int.mul_nonneg ha hb; omega
 ·have := Int.mul_le_mul h2 (show -b ≤ 9999 by omega) (by omega) (by omega); have := Int.mul_nonneg ha (show 0 ≤ -b by omega); rw [Int.mul_neg] at *; omega
 ·have := Int.mul_le_mul (show -a ≤ 9999 by omega) h4 hb (by omega); have := Int.mul_nonneg (show 0 ≤ -a by omega) hb; rw [Int.neg_mul] at *; omega
 ·have := Int.mul_le_mul (show -a ≤ 9999 by omega) (show -b ≤ 9999 by omega) (by omega) (by omega); have := Int.mul_nonneg (show 0 ≤ -a by omega) (show 0 ≤ -b by omega); rw [Int.neg_mul_neg] at *; omega
theorem quot_bd {a b : Int} (h1 : -9999 ≤ a) (h2 : a ≤ 9999) (h3 : -9999 ≤ b) (h4 : b ≤ 9999) (hb : b ≠ 0) : -9999 ≤ a.tdiv b ∧ a.tdiv b ≤ 9999 ∧ -9999 ≤ a.tmod b ∧ a.tmod b ≤ 9999 := by
 have e1 := Int.tmod_def a b
 have n1 : (a.tdiv b).natAbs ≤ a.natAbs := by rw [Int.natAbs_tdiv]; exact Nat.div_le_self _ _
 have n2 : (a.tmod b).natAbs ≤ a.natAbs := by rw [Int.natAbs_tmod]; exact Nat.mod_le _ _
 omega
theorem f133_c {a b : Int} (h1 : -9999 ≤ a) (h2 : a ≤ 9999) (h3 : -9999 ≤ b) (h4 : b ≤ 9999) (w : World) : Pure Tryz.prog 133 #[.int .i64 a, .int .i64 b] w (valV (mkV (a + b))) := by
 have hb0 := Below.refl w.heap.size w;refine calls_of_W Tryz.func133 rfl Tryz.ntmps133 rfl ?_;refine W_seq (W_region (SG_alloc Tryz.zeroValue106 rfl rfl ?_));intro w4 b4 e4 hb4 hz4 hB4
 have hle4 : w.heap.size ≤ b4 := by have := hb0.size; omega
 replace hb0 := btr hb0 hb4;refine SG_nil (D_then (W_seq (W_region (SG_q (Rq_move rfl) rfl (SG_q (Rq_move rfl) rfl (SG_q (Rq_add rfl rfl (wrap_i64 (by omega) (by omega))) rfl (SG_pure rfl Tryz.call108 rfl (f108_c _ _) ?_)))))));intro w8 hb8;replace hb0 := btr hb0 hb8;replace hB4 := hB4.below hb8;refine SG_storeW (hB4) rfl rfl rfl rfl Tryz.sizeOf106 rfl rfl ?_;intro ws1x4 hchs1x4 hBs1x4;replace hb0 := bchg hb0 hchs1x4 hle4;clear hB4;refine SG_nil (D_then (W_ret (D_bodyR1 rfl rfl (.cellW rfl (hBs1x4) Tryz.isAgg106 Tryz.sizeOf106 rfl) ?_)));exact ⟨rfl, hb0⟩
theorem f134_c {a b : Int} (h1 : -9999 ≤ a) (h2 : a ≤ 9999) (h3 : -9999 ≤ b) (h4 : b ≤ 9999) (w : World) : Pure Tryz.prog 134 #[.int .i64 a, .int .i64 b] w (valV (mkV (a - b))) := by
 have hb0 := Below.refl w.heap.size w;refine calls_of_W Tryz.func134 rfl Tryz.ntmps134 rfl ?_;refine W_seq (W_region (SG_alloc Tryz.zeroValue106 rfl rfl ?_));intro w4 b4 e4 hb4 hz4 hB4
 have hle4 : w.heap.size ≤ b4 := by have := hb0.size; omega
 replace hb0 := btr hb0 hb4;refine SG_nil (D_then (W_seq (W_region (SG_q (Rq_move rfl) rfl (SG_q (Rq_move rfl) rfl (SG_q (Rq_sub rfl rfl (wrap_i64 (by omega) (by omega))) rfl (SG_pure rfl Tryz.call108 rfl (f108_c _ _) ?_)))))));intro w8 hb8;replace hb0 := btr hb0 hb8;replace hB4 := hB4.below hb8;refine SG_storeW (hB4) rfl rfl rfl rfl Tryz.sizeOf106 rfl rfl ?_;intro ws1x4 hchs1x4 hBs1x4;replace hb0 := bchg hb0 hchs1x4 hle4;clear hB4;refine SG_nil (D_then (W_ret (D_bodyR1 rfl rfl (.cellW rfl (hBs1x4) Tryz.isAgg106 Tryz.sizeOf106 rfl) ?_)));exact ⟨rfl, hb0⟩
theorem f135_c {a b : Int} (h1 : -9999 ≤ a) (h2 : a ≤ 9999) (h3 : -9999 ≤ b) (h4 : b ≤ 9999) (w : World) : Pure Tryz.prog 135 #[.int .i64 a, .int .i64 b] w (valV (mkV (a * b))) := by
 have hb0 := Below.refl w.heap.size w;refine calls_of_W Tryz.func135 rfl Tryz.ntmps135 rfl ?_;refine W_seq (W_region (SG_alloc Tryz.zeroValue106 rfl rfl ?_));intro w4 b4 e4 hb4 hz4 hB4
 have hle4 : w.heap.size ≤ b4 := by have := hb0.size; omega
 replace hb0 := btr hb0 hb4;refine SG_nil ?_;refine D_then ?_;refine W_seq ?_;refine W_region ?_;refine SG_q (Rq_move rfl) rfl ?_;refine SG_q (Rq_move rfl) rfl ?_;refine SG_q (Rq_mul rfl rfl (wrap_i64 (by (have := mul_bd h1 h2 h3 h4; omega)) (by (have := mul_bd h1 h2 h3 h4; omega)))) rfl ?_;refine SG_pure rfl Tryz.call108 rfl (f108_c _ _) ?_;intro w8 hb8;replace hb0 := btr hb0 hb8;replace hB4 := hB4.below hb8;refine SG_storeW (hB4) rfl rfl rfl rfl Tryz.sizeOf106 rfl rfl ?_;intro ws1x4 hchs1x4 hBs1x4;replace hb0 := bchg hb0 hchs1x4 hle4;clear hB4;refine SG_nil ?_;refine D_then ?_;refine W_ret ?_;refine D_bodyR1 rfl rfl (.cellW rfl (hBs1x4) Tryz.isAgg106 Tryz.sizeOf106 rfl) ?_;exact ⟨rfl, hb0⟩
theorem f137_c (a b : Int) (w : World) : Pure Tryz.prog 137 #[.int .i64 a, .int .i64 b] w (.int .i64 a) := by
 have hb0 := Below.refl w.heap.size w;refine calls_of_W Tryz.func137 rfl Tryz.ntmps137 rfl ?_;refine W_seq (W_region (SG_q (Rq_assign rfl) rfl (SG_nil (D_then (W_seq (W_region (SG_q (Rq_move rfl) rfl (SG_q (Rq_assign rfl) rfl (SG_nil (D_then (W_ret (D_body1 rfl rfl rfl ?_))))))))))));exact ⟨rfl, hb0⟩
theorem f138_c (a b : Int) (w : World) : Pure Tryz.prog 138 #[.int .i64 a, .int .i64 b] w (.int .i64 b) := by
 have hb0 := Below.refl w.heap.size w;refine calls_of_W Tryz.func138 rfl Tryz.ntmps138 rfl ?_;refine W_seq (W_region (SG_q (Rq_assign rfl) rfl (SG_nil (D_then (W_seq (W_region (SG_q (Rq_move rfl) rfl (SG_q (Rq_assign rfl) rfl (SG_nil (D_then (W_ret (D_body1 rfl rfl rfl ?_))))))))))));exact ⟨rfl, hb0⟩
theorem f140_c (s : Int) (w : World) : Pure Tryz.prog 140 #[.int .i64 s] w (.bool (decide (s = 0))) := by
 have hb0 := Below.refl w.heap.size w;refine calls_of_W Tryz.func140 rfl Tryz.ntmps140 rfl ?_;refine W_seq (W_region (SG_q (Rq_assign rfl) rfl (SG_nil (D_then (W_seq (W_region (SG_q (Rq_move rfl) rfl (SG_q (Rq_eql rfl rfl) rfl (SG_q (Rq_assign rfl) rfl (SG_nil (D_then (W_ret (D_body1 rfl rfl rfl ?_)))))))))))));exact ⟨rfl, hb0⟩
theorem f141_c (s : Int) (w : World) : Pure Tryz.prog 141 #[.int .i64 s] w (.bool (decide (s < 0))) := by
 have hb0 := Below.refl w.heap.size w;refine calls_of_W Tryz.func141 rfl Tryz.ntmps141 rfl ?_;refine W_seq (W_region (SG_q (Rq_assign rfl) rfl (SG_nil (D_then (W_seq (W_region (SG_q (Rq_move rfl) rfl (SG_q (Rq_lss rfl rfl) rfl (SG_q (Rq_assign rfl) rfl (SG_nil (D_then (W_ret (D_body1 rfl rfl rfl ?_)))))))))))));exact ⟨rfl, hb0⟩
theorem f142_c (s : Int) (w : World) : Pure Tryz.prog 142 #[.int .i64 s] w (.bool (decide (s ≤ 0))) := by
 have hb0 := Below.refl w.heap.size w;refine calls_of_W Tryz.func142 rfl Tryz.ntmps142 rfl ?_;refine W_seq (W_region (SG_q (Rq_assign rfl) rfl (SG_nil (D_then (W_seq (W_region (SG_q (Rq_move rfl) rfl (SG_q (Rq_leq rfl rfl) rfl (SG_q (Rq_assign rfl) rfl (SG_nil (D_then (W_ret (D_body1 rfl rfl rfl ?_)))))))))))));exact ⟨rfl, hb0⟩
theorem f144_c {a b : Int} (h1 : -9999 ≤ a) (h2 : a ≤ 9999) (h3 : -9999 ≤ b) (h4 : b ≤ 9999) (hb : b ≠ 0) (w : World) : Pure Tryz.prog 144 #[.int .i64 a, .int .i64 b] w (.tuple #[.int .i64 (quotR a b).1, .int .i64 (quotR a b).2]) := by
 have hq := quot_bd h1 h2 h3 h4 hb;have hb0 := Below.refl w.heap.size w;refine calls_of_W Tryz.func144 rfl Tryz.ntmps144 rfl ?_;refine W_seq ?_;refine W_region ?_;refine SG_q (Rq_assign rfl) rfl ?_;refine SG_q (Rq_assign rfl) rfl ?_;refine SG_nil ?_;refine D_then ?_;refine W_seq ?_;refine W_quiet (Tryz.mixed) (by kernel_rfl) ?_;refine QS_q (Rq_move rfl) rfl ?_;refine QS_q (Rq_move rfl) rfl ?_;refine QS_q (Rq_quo rfl rfl (by omega) (wrap_i64 (by omega) (by omega))) rfl ?_;refine QS_q (Rq_move rfl) rfl ?_;refine QS_q (Rq_move rfl) rfl ?_;refine QS_q (Rq_rem rfl rfl (by omega) ) rfl ?_;refine QS_q (Rq_assign rfl) rfl ?_;refine QS_q (Rq_assign rfl) rfl ?_;refine QS_nil ?_;intro wr1 hbr1;replace hb0 := btr hb0 hbr1;refine D_then ?_;refine W_seq ?_;refine W_seq ?_;refine W_region ?_;refine SG_q (Rq_move rfl) rfl ?_;refine SG_q (Rq_neq rfl rfl) rfl ?_;refine SG_q (Rq_move rfl) rfl ?_;refine SG_and (r := ?r14n1) 6 20 14 rfl ?_ ?_ ?_; rotate_left
 ·intro g14 K14
  have g14' := g14; try simp only [dd] at g14'
  have hm14 := Below.refl (wr1).heap.size wr1;refine SG_yes 14 rfl rfl g14 (SG_q (Rq_move rfl) rfl (SG_yes 14 rfl rfl g14 (SG_q (Rq_lss rfl rfl) rfl (SG_yes 14 rfl rfl g14 (SG_q (Rq_move rfl) rfl (SG_yes 14 rfl rfl g14 (SG_q (Rq_lss rfl rfl) rfl (SG_yes 14 rfl rfl g14 (SG_q (Rq_neq_bool Tryz.runUnderlying4 rfl rfl) rfl (SG_q (Rq_pick rfl (fun _ => rfl) (fun h => absurd (g14.symm.trans h) (by decide))) rfl ?_))))))))));exact K14 _ _ hm14 (by repeat (first | exact Sub.refl | refine Sub.shadow ?_ | refine Sub.same ?_ | refine Sub.push rfl ?_))
 ·intro g14 K14
  have g14' := g14; try simp only [dd] at g14'
  have hm14 := Below.refl (wr1).heap.size wr1;refine SG_no 14 rfl rfl g14 rfl (SG_no 14 rfl rfl g14 rfl (SG_no 14 rfl rfl g14 rfl (SG_no 14 rfl rfl g14 rfl (SG_no 14 rfl rfl g14 rfl (SG_q (Rq_pick rfl (fun h => absurd (g14.symm.trans h) (by decide)) (fun _ => rfl)) rfl ?_)))));exact K14 _ _ hm14 (by repeat (first | exact Sub.refl | refine Sub.shadow ?_ | refine Sub.same ?_ | refine Sub.push rfl ?_))
 intro wm14 hbm14;replace hb0 := btr hb0 hbm14
 simp only [List.drop_succ_cons, List.drop_zero]
 refine SG_nil (D_then ?_);refine W_cond rfl ?_ ?_
 ·intro g20
  try simp only [dd] at g20
  refine W_seq (W_region (SG_q (Rq_move rfl) rfl (SG_q (Rq_sub rfl rfl (wrap_i64 (by omega) (by omega))) rfl (SG_q (Rq_move rfl) rfl (SG_q (Rq_move rfl) rfl (SG_q (Rq_add rfl rfl (wrap_i64 (by omega) (by omega))) rfl (SG_q (Rq_assign rfl) rfl (SG_q (Rq_assign rfl) rfl (SG_nil (D_then (W_ret (D_then_ret (D_body2 rfl rfl rfl rfl ?_)))))))))))));exact ⟨by rw [quotR, if_pos (by simpa using g20)], hb0⟩
 ·intro g20
  try simp only [dd] at g20
  refine W_skip (D_then (W_seq (W_region (SG_q (Rq_move rfl) rfl (SG_q (Rq_move rfl) rfl (SG_q (Rq_assign rfl) rfl (SG_q (Rq_assign rfl) rfl (SG_nil (D_then (W_ret (D_body2 rfl rfl rfl rfl ?_)))))))))));exact ⟨by rw [quotR, if_neg (by simpa using g20)], hb0⟩
theorem f143_c {a b : Int} {g c T : Nat} {o : Int → Int → Int} (h1 : -9999 ≤ a) (h2 : a ≤ 9999) (h3 : -9999 ≤ b) (h4 : b ≤ 9999) (w : World) (hB : Blk w c [.func (.func g) #[] #[]] T) (hg : ∀ args w, (callFunc g args).run Tryz.prog w = .ok (.enter g args) w) (hof : ∀ q r w', Pure Tryz.prog g #[.int .i64 q, .int .i64 r] w' (.int .i64 (o q r))) : Pure Tryz.prog 143 #[.int .i64 a, .int .i64 b, .pointer (some ⟨c, 0, none⟩)] w (valV (if b = 0 then ⟨1, 0⟩ else mkV (o (quotR a b).1 (quotR a b).2))) := by
 have hb0 := Below.refl w.heap.size w;refine calls_of_W Tryz.func143 rfl Tryz.ntmps143 rfl ?_;refine W_seq (W_region (SG_alloc Tryz.zeroValue106 rfl rfl ?_));intro w5 b5 e5 hb5 hz5 hB5
 have hle5 : w.heap.size ≤ b5 := by have := hb0.size; omega
 replace hb0 := btr hb0 hb5;refine SG_nil (D_then (W_seq (W_seq (W_region (SG_q (Rq_move rfl) rfl (SG_q (Rq_eql rfl rfl) rfl (SG_nil (D_then ?_))))))));refine W_cond rfl ?_ ?_
 ·intro g7
  try simp only [dd] at g7
  refine W_seq ?_;refine W_region ?_;refine SG_pure rfl Tryz.call119 rfl (f119_c _ _) ?_;intro w8 hb8;replace hb0 := btr hb0 hb8;replace hB5 := hB5.below hb8;refine SG_storeW (hB5) rfl rfl rfl rfl Tryz.sizeOf106 rfl rfl ?_;intro ws2x1 hchs2x1 hBs2x1;replace hb0 := bchg hb0 hchs2x1 hle5;clear hB5;refine SG_nil ?_;refine D_then ?_;refine W_ret ?_;refine D_then_ret ?_;refine D_bodyR1 rfl rfl (.cellW rfl (hBs2x1) Tryz.isAgg106 Tryz.sizeOf106 rfl) ?_;exact ⟨by rw [if_pos g7]; rfl, hb0⟩
 ·intro g7
  try simp only [dd] at g7
  refine W_skip ?_;refine D_then ?_;refine W_seq ?_;refine W_any 8 [[], [], [], [1, 2], [3], [3], [0, 4, 5], [6]] [det [] ?a3_0n1, det [] ?a3_1n1, det [] ?a3_2n1, det [1, 2] ?a3_3n1, det [3] ?a3_4n1, det [3] ?a3_5n1, det [0, 4, 5] ?a3_6n1, det [6] ?a3_7n1] Tryz.mixed (by kernel_rfl) rfl ⟨det_stab _ _, det_stab _ _, det_stab _ _, det_stab _ _, det_stab _ _, det_stab _ _, det_stab _ _, det_stab _ _, trivial⟩ ?_ ?_; rotate_left 8
  ·refine Obls_cons ?_ ?_
   ·intro wq hbq
    refine Obl_nil ?_
    refine Ex_q2 (Rq_loadB ((hB).below (btr hb0 hbq)) Tryz.isAgg150 rfl rfl) ?_; first | exact rfl | rfl
   refine Obls_cons ?_ ?_
   ·intro wq hbq
    refine Obl_nil ?_
    refine Ex_q2 (Rq_move rfl) ?_; first | exact rfl | rfl
   refine Obls_cons ?_ ?_
   ·intro wq hbq
    refine Obl_nil ?_
    refine Ex_q2 (Rq_move rfl) ?_; first | exact rfl | rfl
   refine Obls_cons ?_ ?_
   ·intro wq hbq
    refine Obl_det rfl rfl (Obl_det rfl rfl (Obl_nil ?_))
    refine Ex_call rfl Tryz.call144 (fn_det2 (f144_c h1 h2 h3 h4 g7 _) ?_); first | exact rfl | rfl
   refine Obls_cons ?_ ?_
   ·intro wq hbq
    refine Obl_det rfl rfl (Obl_nil ?_)
    refine Ex_q2 (Rq_extract rfl rfl) ?_; first | exact rfl | rfl
   refine Obls_cons ?_ ?_
   ·intro wq hbq
    refine Obl_det rfl rfl (Obl_nil ?_)
    refine Ex_q2 (Rq_extract rfl rfl) ?_; first | exact rfl | rfl
   refine Obls_cons ?_ ?_
   ·intro wq hbq
    refine Obl_det rfl rfl (Obl_det rfl rfl (Obl_det rfl rfl (Obl_nil ?_)))
    refine Ex_callv rfl rfl rfl hg (fn_det2 (hof _ _ _) ?_); first | exact rfl | rfl
   refine Obls_cons ?_ ?_
   ·intro wq hbq
    refine Obl_det rfl rfl (Obl_nil ?_)
    refine Ex_call rfl Tryz.call108 (fn_det2 (f108_c _ _) ?_); first | exact rfl | rfl
   exact Obls_nil
  ·intro wa3 hba3
   replace hb0 := btr hb0 hba3;replace hB5 := hB5.below hba3;refine Fin_det rfl (Fin_det rfl (Fin_det rfl (Fin_det rfl (Fin_det rfl (Fin_det rfl (Fin_det rfl (Fin_det rfl (Fin_nil ?_))))))))
   simp only [List.drop_succ_cons, List.drop_zero]
   refine SG_storeW (hB5) rfl rfl rfl rfl Tryz.sizeOf106 rfl rfl ?_;intro ws3x8 hchs3x8 hBs3x8;replace hb0 := bchg hb0 hchs3x8 hle5;clear hB5;refine SG_nil ?_;refine D_then ?_;refine W_ret ?_;refine D_bodyR1 rfl rfl (.cellW rfl (hBs3x8) Tryz.isAgg106 Tryz.sizeOf106 rfl) ?_;exact ⟨by rw [if_neg g7]; rfl, hb0⟩
theorem f136_c (g : Nat) (w : World) : Mi.Fn Tryz.prog 136 #[.func (.func g) #[] #[]] w (fun v w' => ∃ b T, v = .func (.func 143) #[] #[.pointer (some ⟨b, 0, none⟩)] ∧ Blk w' b [.func (.func g) #[] #[]] T ∧ w.heap.size ≤ b) := by
 have hb0 := Below.refl w.heap.size w;refine calls_of_W Tryz.func136 rfl Tryz.ntmps136 rfl ?_;refine W_seq (W_region (SG_box rfl rfl rfl ?_));intro w1 b1 e1 hb1 hz1 hB1
 have hle1 : w.heap.size ≤ b1 := by have := hb0.size; omega
 replace hb0 := btr hb0 hb1;refine SG_q (Rq_assign rfl) rfl (SG_nil (D_then (W_seq (W_region (SG_q (Rq_makeFunc rfl) rfl (SG_q (Rq_assign rfl) rfl (SG_nil (D_then (W_ret (D_body1 rfl rfl rfl ?_))))))))));exact ⟨_, rfl, hb0, _, _, rfl, hB1, hle1⟩
theorem f145_c {a b : Int} {g c T : Nat} {o : Int → Bool} (h1 : -9999 ≤ a) (h2 : a ≤ 9999) (h3 : -9999 ≤ b) (h4 : b ≤ 9999) (w : World) (hB : Blk w c [.func (.func g) #[] #[]] T) (hg : ∀ args w, (callFunc g args).run Tryz.prog w = .ok (.enter g args) w) (hof : ∀ s w', Pure Tryz.prog g #[.int .i64 s] w' (.bool (o s))) : Pure Tryz.prog 145 #[.int .i64 a, .int .i64 b, .pointer (some ⟨c, 0, none⟩)] w (valV (truthV (o (sign a b)))) := by
 have hb0 := Below.refl w.heap.size w;refine calls_of_W Tryz.func145 rfl Tryz.ntmps145 rfl ?_;refine W_seq (W_region (SG_alloc Tryz.zeroValue106 rfl rfl ?_));intro w5 b5 e5 hb5 hz5 hB5
 have hle5 : w.heap.size ≤ b5 := by have := hb0.size; omega
 replace hb0 := btr hb0 hb5;refine SG_nil ?_;refine D_then ?_;refine W_seq ?_;refine W_any 6 [[], [], [], [1, 2], [0, 3], [4]] [det [] ?a1_0n1, det [] ?a1_1n1, det [] ?a1_2n1, det [1, 2] ?a1_3n1, det [0, 3] ?a1_4n1, det [4] ?a1_5n1] Tryz.mixed (by kernel_rfl) rfl ⟨det_stab _ _, det_stab _ _, det_stab _ _, det_stab _ _, det_stab _ _, det_stab _ _, trivial⟩ ?_ ?_; rotate_left 6
 ·refine Obls_cons ?_ ?_
  ·intro wq hbq
   refine Obl_nil ?_
   refine Ex_q2 (Rq_loadB ((hB).below (btr hb0 hbq)) Tryz.isAgg124 rfl rfl) ?_; first | exact rfl | rfl
  refine Obls_cons ?_ ?_
  ·intro wq hbq
   refine Obl_nil ?_
   refine Ex_q2 (Rq_move rfl) ?_; first | exact rfl | rfl
  refine Obls_cons ?_ ?_
  ·intro wq hbq
   refine Obl_nil ?_
   refine Ex_q2 (Rq_move rfl) ?_; first | exact rfl | rfl
  refine Obls_cons ?_ ?_
  ·intro wq hbq
   refine Obl_det rfl rfl (Obl_det rfl rfl (Obl_nil ?_))
   refine Ex_call rfl Tryz.call146 (fn_det2 (f146_c _ _ _) ?_); first | exact rfl | rfl
  refine Obls_cons ?_ ?_
  ·intro wq hbq
   refine Obl_det rfl rfl (Obl_det rfl rfl (Obl_nil ?_))
   refine Ex_callv rfl rfl rfl hg (fn_det2 (hof _ _) ?_); first | exact rfl | rfl
  refine Obls_cons ?_ ?_
  ·intro wq hbq
   refine Obl_det rfl rfl (Obl_nil ?_)
   refine Ex_call rfl Tryz.call128 (fn_det2 (f128_c _ _) ?_); first | exact rfl | rfl
  exact Obls_nil
 ·intro wa1 hba1
  replace hb0 := btr hb0 hba1;replace hB5 := hB5.below hba1;refine Fin_det rfl (Fin_det rfl (Fin_det rfl (Fin_det rfl (Fin_det rfl (Fin_det rfl (Fin_nil ?_))))))
  simp only [List.drop_succ_cons, List.drop_zero]
  refine SG_storeW (hB5) rfl rfl rfl rfl Tryz.sizeOf106 rfl rfl ?_;intro ws1x6 hchs1x6 hBs1x6;replace hb0 := bchg hb0 hchs1x6 hle5;clear hB5;refine SG_nil (D_then (W_ret (D_bodyR1 rfl rfl (.cellW rfl (hBs1x6) Tryz.isAgg106 Tryz.sizeOf106 rfl) ?_)));exact ⟨rfl, hb0⟩
theorem f139_c (g : Nat) (w : World) : Mi.Fn Tryz.prog 139 #[.func (.func g) #[] #[]] w (fun v w' => ∃ b T, v = .func (.func 145) #[] #[.pointer (some ⟨b, 0, none⟩)] ∧ Blk w' b [.func (.func g) #[] #[]] T ∧ w.heap.size ≤ b) := by
 have hb0 := Below.refl w.heap.size w;refine calls_of_W Tryz.func139 rfl Tryz.ntmps139 rfl ?_;refine W_seq (W_region (SG_box rfl rfl rfl ?_));intro w1 b1 e1 hb1 hz1 hB1
 have hle1 : w.heap.size ≤ b1 := by have := hb0.size; omega
 replace hb0 := btr hb0 hb1;refine SG_q (Rq_assign rfl) rfl (SG_nil (D_then (W_seq (W_region (SG_q (Rq_makeFunc rfl) rfl (SG_q (Rq_assign rfl) rfl (SG_nil (D_then (W_ret (D_body1 rfl rfl rfl ?_))))))))));exact ⟨_, rfl, hb0, _, _, rfl, hB1, hle1⟩
def DuoOk (code : Int) (v : Value) (lo hi : Nat) (w : World) : Prop := hi ≤ w.heap.size ∧ ((isDuo code = false ∧ v = .nilFunc) ∨ (isDuo code = true ∧ ∃ f cap, v = .func (.func f) #[] cap.toArray ∧ (∀ args w, (callFunc f args).run Tryz.prog w = .ok (.enter f args) w) ∧
 ∀ a b w', -9999 ≤ a → a ≤ 9999 → -9999 ≤ b → b ≤ 9999 → Keep lo hi w w' → Pure Tryz.prog f ([.int .i64 a, .int .i64 b] ++ cap).toArray w' (valV (duoR code a b))))
theorem DuoOk.le {code : Int} {v : Value} {lo hi : Nat} {w : World} (h : DuoOk code v lo hi w) : hi ≤ w.heap.size := h.1
theorem DuoOk.kp {code : Int} {v : Value} {lo hi : Nat} {w w' : World} (h : DuoOk code v lo hi w) (hb : Keep lo hi w w') : DuoOk code v lo hi w' := by
 refine ⟨Nat.le_trans h.1 hb.size, ?_⟩
 rcases h.2 with h | ⟨h, f, cap, h1, h2, h3⟩
 ·exact .inl h
 ·exact .inr ⟨h, f, cap, h1, h2, fun a b w'' a1 a2 a3 a4 hb' => h3 a b w'' a1 a2 a3 a4 (hb.trans hb')⟩
theorem DuoOk.form {code : Int} {v : Value} {lo hi : Nat} {w : World} (h : DuoOk code v lo hi w) : v = .nilFunc ∨ ∃ f p q, v = .func f p q := by
 rcases h.2 with h | ⟨h, f, cap, h1, _⟩
 ·exact .inl h.2
 ·exact .inr ⟨_, _, _, h1⟩
theorem DuoOk.isnil {code : Int} {v : Value} {lo hi : Nat} {w : World} (h : DuoOk code v lo hi w) : isNilF v = !isDuo code := by
 rcases h.2 with ⟨h', rfl⟩ | ⟨h', f, cap, rfl, _⟩ <;> simp [h', isNilF]
theorem DuoOk.call {code : Int} {v : Value} {lo hi : Nat} {w : World} (h : DuoOk code v lo hi w) (hn : isNilF v = false) {a b : Int} (h1 : -9999 ≤ a) (h2 : a ≤ 9999) (h3 : -9999 ≤ b) (h4 : b ≤ 9999) :
  ∃ f cap, v = .func (.func f) #[] cap.toArray ∧ (∀ args w, (callFunc f args).run Tryz.prog w = .ok (.enter f args) w) ∧ Pure Tryz.prog f ([.int .i64 a, .int .i64 b] ++ cap).toArray w (valV (duoR code a b)) := by
 rcases h.2 with ⟨h, rfl⟩ | ⟨h, f, cap, e1, e2, e3⟩
 ·simp [isNilF] at hn
 ·exact ⟨f, cap, e1, e2, e3 a b w h1 h2 h3 h4 (Keep.refl _ _ _)⟩
theorem f124_c (code : Int) (w : World) : Mi.Fn Tryz.prog 124 #[.int .u8 code] w (fun v w' => DuoOk code v w.heap.size w'.heap.size w') := by
 have hb0 := Below.refl w.heap.size w;refine calls_of_W Tryz.func124 rfl Tryz.ntmps124 rfl ?_;refine W_seq (W_region (SG_q (Rq_assign rfl) rfl (SG_nil (D_then (W_seq (W_seq (W_region (SG_q (Rq_move rfl) rfl (SG_nil (D_then (W_block (W_seq (W_region (SG_q (Rq_eql rfl rfl) rfl (SG_q (Rq_assign rfl) rfl (SG_nil (D_then ?_)))))))))))))))));refine W_cond rfl ?_ ?_
 ·intro g4
  try simp only [dd] at g4
  refine W_seq (W_region (SG_q (Rq_assign rfl) rfl (SG_nil (D_then (W_ret (D_block_ret (D_then_ret (D_body1 rfl rfl rfl ?_))))))));exact ⟨_, rfl, hb0, Nat.le_refl _, .inr ⟨by simp [isDuo, g4], 133, [], rfl, Tryz.call133, fun a b w' h1 h2 h3 h4 hb => by simpa [duoR, g4] using f133_c h1 h2 h3 h4 w'⟩⟩
 ·intro g4
  try simp only [dd] at g4
  refine W_seq (W_region (SG_q (Rq_eql rfl rfl) rfl (SG_q (Rq_assign rfl) rfl (SG_nil (D_then ?_)))));refine W_cond rfl ?_ ?_
  ·intro g6
   try simp only [dd] at g6
   refine W_seq (W_region (SG_q (Rq_assign rfl) rfl (SG_nil (D_then (W_ret (D_block_ret (D_then_ret (D_body1 rfl rfl rfl ?_))))))));exact ⟨_, rfl, hb0, Nat.le_refl _, .inr ⟨by simp [isDuo, g6], 134, [], rfl, Tryz.call134, fun a b w' h1 h2 h3 h4 hb => by simpa [duoR, g6] using f134_c h1 h2 h3 h4 w'⟩⟩
  ·intro g6
   try simp only [dd] at g6
   refine W_seq (W_region (SG_q (Rq_eql rfl rfl) rfl (SG_q (Rq_assign rfl) rfl (SG_nil (D_then ?_)))));refine W_cond rfl ?_ ?_
   ·intro g8
    try simp only [dd] at g8
    refine W_seq (W_region (SG_q (Rq_assign rfl) rfl (SG_nil (D_then (W_ret (D_block_ret (D_then_ret (D_body1 rfl rfl rfl ?_))))))));exact ⟨_, rfl, hb0, Nat.le_refl _, .inr ⟨by simp [isDuo, g8], 135, [], rfl, Tryz.call135, fun a b w' h1 h2 h3 h4 hb => by simpa [duoR, g8] using f135_c h1 h2 h3 h4 w'⟩⟩
   ·intro g8
    try simp only [dd] at g8
    refine W_seq (W_region (SG_q (Rq_eql rfl rfl) rfl (SG_q (Rq_assign rfl) rfl (SG_nil (D_then ?_)))));refine W_cond rfl ?_ ?_
    ·intro g10
     try simp only [dd] at g10
     refine W_seq (W_region (SG_call rfl Tryz.call136 rfl (f136_c _ _) ?_));rintro v12 w12 hb12 ⟨b12, T12, rfl, hK12, hkl12⟩;replace hb0 := btr hb0 hb12;refine SG_q (Rq_assign rfl) rfl (SG_nil (D_then (W_ret (D_block_ret (D_then_ret (D_body1 rfl rfl rfl ?_))))));exact ⟨_, rfl, hb0, Nat.le_refl _, .inr ⟨by simp [isDuo, g10], 143, [.pointer (some ⟨b12, 0, none⟩)], rfl, Tryz.call143, fun a b w' h1 h2 h3 h4 hb => by simpa [duoR, g10] using f143_c (o := fun q _ => q) h1 h2 h3 h4 w' (hK12.keep hb (by omega) hK12.lt) Tryz.call137 (fun q r w' => f137_c q r w')⟩⟩
    ·intro g10
     try simp only [dd] at g10
     refine W_seq (W_region (SG_q (Rq_eql rfl rfl) rfl (SG_q (Rq_assign rfl) rfl (SG_nil (D_then ?_)))));refine W_cond rfl ?_ ?_
     ·intro g13
      try simp only [dd] at g13
      refine W_seq (W_region (SG_call rfl Tryz.call136 rfl (f136_c _ _) ?_));rintro v15 w15 hb15 ⟨b15, T15, rfl, hK15, hkl15⟩;replace hb0 := btr hb0 hb15;refine SG_q (Rq_assign rfl) rfl (SG_nil (D_then (W_ret (D_block_ret (D_then_ret (D_body1 rfl rfl rfl ?_))))));exact ⟨_, rfl, hb0, Nat.le_refl _, .inr ⟨by simp [isDuo, g13], 143, [.pointer (some ⟨b15, 0, none⟩)], rfl, Tryz.call143, fun a b w' h1 h2 h3 h4 hb => by simpa [duoR, g13] using f143_c (o := fun _ r => r) h1 h2 h3 h4 w' (hK15.keep hb (by omega) hK15.lt) Tryz.call138 (fun q r w' => f138_c q r w')⟩⟩
     ·intro g13
      try simp only [dd] at g13
      refine W_seq (W_region (SG_q (Rq_eql rfl rfl) rfl (SG_q (Rq_assign rfl) rfl (SG_nil (D_then ?_)))));refine W_cond rfl ?_ ?_
      ·intro g16
       try simp only [dd] at g16
       refine W_seq (W_region (SG_call rfl Tryz.call139 rfl (f139_c _ _) ?_));rintro v18 w18 hb18 ⟨b18, T18, rfl, hK18, hkl18⟩;replace hb0 := btr hb0 hb18;refine SG_q (Rq_assign rfl) rfl (SG_nil (D_then (W_ret (D_block_ret (D_then_ret (D_body1 rfl rfl rfl ?_))))));exact ⟨_, rfl, hb0, Nat.le_refl _, .inr ⟨by simp [isDuo, g16], 145, [.pointer (some ⟨b18, 0, none⟩)], rfl, Tryz.call145, fun a b w' h1 h2 h3 h4 hb => by simpa [duoR, g16] using f145_c (o := fun s => decide (s = 0)) h1 h2 h3 h4 w' (hK18.keep hb (by omega) hK18.lt) Tryz.call140 (fun s w' => f140_c s w')⟩⟩
      ·intro g16
       try simp only [dd] at g16
       refine W_seq (W_region (SG_q (Rq_eql rfl rfl) rfl (SG_q (Rq_assign rfl) rfl (SG_nil (D_then ?_)))));refine W_cond rfl ?_ ?_
       ·intro g19
        try simp only [dd] at g19
        refine W_seq (W_region (SG_call rfl Tryz.call139 rfl (f139_c _ _) ?_));rintro v21 w21 hb21 ⟨b21, T21, rfl, hK21, hkl21⟩;replace hb0 := btr hb0 hb21;refine SG_q (Rq_assign rfl) rfl (SG_nil (D_then (W_ret (D_block_ret (D_then_ret (D_body1 rfl rfl rfl ?_))))));exact ⟨_, rfl, hb0, Nat.le_refl _, .inr ⟨by simp [isDuo, g19], 145, [.pointer (some ⟨b21, 0, none⟩)], rfl, Tryz.call145, fun a b w' h1 h2 h3 h4 hb => by simpa [duoR, g19] using f145_c (o := fun s => decide (s < 0)) h1 h2 h3 h4 w' (hK21.keep hb (by omega) hK21.lt) Tryz.call141 (fun s w' => f141_c s w')⟩⟩
       ·intro g19
        try simp only [dd] at g19
        refine W_seq (W_region (SG_q (Rq_eql rfl rfl) rfl (SG_q (Rq_assign rfl) rfl (SG_nil (D_then ?_)))));refine W_cond rfl ?_ ?_
        ·intro g22
         try simp only [dd] at g22
         refine W_seq (W_region (SG_call rfl Tryz.call139 rfl (f139_c _ _) ?_));rintro v24 w24 hb24 ⟨b24, T24, rfl, hK24, hkl24⟩;replace hb0 := btr hb0 hb24;refine SG_q (Rq_assign rfl) rfl (SG_nil (D_then (W_ret (D_block_ret (D_then_ret (D_body1 rfl rfl rfl ?_))))));exact ⟨_, rfl, hb0, Nat.le_refl _, .inr ⟨by simp [isDuo, g22], 145, [.pointer (some ⟨b24, 0, none⟩)], rfl, Tryz.call145, fun a b w' h1 h2 h3 h4 hb => by simpa [duoR, g22] using f145_c (o := fun s => decide (s ≤ 0)) h1 h2 h3 h4 w' (hK24.keep hb (by omega) hK24.lt) Tryz.call142 (fun s w' => f142_c s w')⟩⟩
        ·intro g22
         try simp only [dd] at g22
         refine W_skip ?_;refine D_block ?_;refine D_then ?_;refine W_seq ?_;refine W_region ?_;refine SG_q (Rq_assign rfl) rfl ?_;refine SG_nil ?_;refine D_then ?_;refine W_ret ?_;refine D_body1 rfl rfl rfl ?_;exact ⟨_, rfl, hb0, Nat.le_refl _, .inl ⟨by simp [isDuo]; omega, rfl⟩⟩
theorem ff2 (a b : Vl) : (a.f = 0 ∧ b.f = 0 ∧ [a, b].find? (fun x => !decide (x.f = 0)) = none) ∨ (a.f ≠ 0 ∧ [a, b].find? (fun x => !decide (x.f = 0)) = some a) ∨ (a.f = 0 ∧ b.f ≠ 0 ∧ [a, b].find? (fun x => !decide (x.f = 0)) = some b) := by
 by_cases h : a.f = 0 <;> by_cases h' : b.f = 0 <;> simp [h, h']
theorem are2 {a b : Vl} (h : areCellsB [a, b] = true) : isCellB a = true ∧ isCellB b = true := by
 simp [areCellsB] at h; exact ⟨by simpa using h.1, by simpa using h.2⟩
theorem f111_c (code : Int) (a b : Vl) (w : World) : Pure Tryz.prog 111 #[.int .u8 code, valV a, valV b] w (.tuple #[valV (op2R code a b).1, .int .i64 (op2R code a b).2]) := by
 have hb0 := Below.refl w.heap.size w;refine calls_of_W Tryz.func111 rfl Tryz.ntmps111 rfl ?_;refine W_seq (W_region (SG_box rfl rfl rfl ?_));intro w4 b4 e4 hb4 hz4 hB4
 have hle4 : w.heap.size ≤ b4 := by have := hb0.size; omega
 replace hb0 := btr hb0 hb4;refine SG_box rfl rfl rfl ?_;intro w5 b5 e5 hb5 hz5 hB5
 have hle5 : w.heap.size ≤ b5 := by have := hb0.size; omega
 have ne_b4_5 : ¬ b4 = b5 := by have := hB4.lt; omega
 replace hb0 := btr hb0 hb5;replace hB4 := hB4.below hb5;refine SG_alloc Tryz.zeroValue106 rfl rfl ?_;intro w6 b6 e6 hb6 hz6 hB6
 have hle6 : w.heap.size ≤ b6 := by have := hb0.size; omega
 have ne_b4_6 : ¬ b4 = b6 := by have := hB4.lt; omega
 have ne_b5_6 : ¬ b5 = b6 := by have := hB5.lt; omega
 replace hb0 := btr hb0 hb6;replace hB4 := hB4.below hb6;replace hB5 := hB5.below hb6;refine SG_q (Rq_assign rfl) rfl (SG_nil (D_then (W_seq (W_seq (W_region (SG_q (Rq_move rfl) rfl (SG_nil (D_then (W_block (W_seq (W_region (SG_q (Rq_eql rfl rfl) rfl (SG_q (Rq_assign rfl) rfl (SG_nil (D_then ?_)))))))))))))));refine W_cond rfl ?_ ?_
 ·intro g12
  try simp only [dd] at g12
  refine W_seq ?_;refine W_any 6 [[], [], [], [0, 1, 2], [3], [3]] [det [] ?a3_0n1, det [] ?a3_1n1, det [] ?a3_2n1, det [0, 1, 2] ?a3_3n1, det [3] ?a3_4n1, det [3] ?a3_5n1] Tryz.mixed (by kernel_rfl) rfl ⟨det_stab _ _, det_stab _ _, det_stab _ _, det_stab _ _, det_stab _ _, det_stab _ _, trivial⟩ ?_ ?_; rotate_left 6
  ·refine Obls_cons ?_ ?_
   ·intro wq hbq
    refine Obl_nil ?_
    first | (refine Ex_q2 (Rq_loadBW ((hB4).below hbq) Tryz.isAgg106 Tryz.sizeOf106 rfl rfl) ?_; first | exact rfl | rfl) | (refine Ex_q2 (Rq_loadBA ((hB4).below hbq) Tryz.isAgg106 Tryz.sizeOf106 rfl rfl rfl) ?_; first | exact rfl | rfl)
   refine Obls_cons ?_ ?_
   ·intro wq hbq
    refine Obl_nil ?_
    first | (refine Ex_q2 (Rq_loadBW ((hB5).below hbq) Tryz.isAgg106 Tryz.sizeOf106 rfl rfl) ?_; first | exact rfl | rfl) | (refine Ex_q2 (Rq_loadBA ((hB5).below hbq) Tryz.isAgg106 Tryz.sizeOf106 rfl rfl rfl) ?_; first | exact rfl | rfl)
   refine Obls_cons ?_ ?_
   ·intro wq hbq
    refine Obl_nil ?_
    refine Ex_call rfl Tryz.call108 (fn_det2 (f108_c _ _) ?_); first | exact rfl | rfl
   refine Obls_cons ?_ ?_
   ·intro wq hbq
    refine Obl_det rfl rfl (Obl_det rfl rfl (Obl_det rfl rfl (Obl_nil ?_)))
    refine Ex_call rfl Tryz.call110 (fn_det2 (f110_c _ _ _ _) ?_); first | exact rfl | rfl
   refine Obls_cons ?_ ?_
   ·intro wq hbq
    refine Obl_det rfl rfl (Obl_nil ?_)
    refine Ex_q2 (Rq_extract rfl rfl) ?_; first | exact rfl | rfl
   refine Obls_cons ?_ ?_
   ·intro wq hbq
    refine Obl_det rfl rfl (Obl_nil ?_)
    refine Ex_q2 (Rq_extract rfl rfl) ?_; first | exact rfl | rfl
   exact Obls_nil
  ·intro wa3 hba3
   replace hb0 := btr hb0 hba3;replace hB6 := hB6.below hba3;refine Fin_det rfl (Fin_det rfl (Fin_det rfl (Fin_det rfl (Fin_det rfl (Fin_det rfl (Fin_nil ?_))))))
   simp only [List.drop_succ_cons, List.drop_zero]
   refine SG_storeW (hB6) rfl rfl rfl rfl Tryz.sizeOf106 rfl rfl ?_;intro ws3x6 hchs3x6 hBs3x6;replace hb0 := bchg hb0 hchs3x6 hle6;clear hB6;refine SG_q (Rq_assign rfl) rfl ?_;refine SG_nil ?_;refine D_then ?_;refine W_ret ?_;refine D_block_ret ?_;refine D_then_ret ?_;refine D_bodyR2 rfl rfl (.cellW rfl (hBs3x6) Tryz.isAgg106 Tryz.sizeOf106 rfl) (.tmp rfl) ?_;exact ⟨by rw [op2R, if_pos g12]; rfl, hb0⟩
 ·intro g12
  try simp only [dd] at g12
  refine W_seq (W_region (SG_q (Rq_eql rfl rfl) rfl (SG_q (Rq_assign rfl) rfl (SG_nil (D_then ?_)))));refine W_cond rfl ?_ ?_
  ·intro g20
   try simp only [dd] at g20
   refine W_seq ?_;refine W_any 6 [[], [], [], [0, 1, 2], [3], [3]] [det [] ?a5_0n2, det [] ?a5_1n2, det [] ?a5_2n2, det [0, 1, 2] ?a5_3n2, det [3] ?a5_4n2, det [3] ?a5_5n2] Tryz.mixed (by kernel_rfl) rfl ⟨det_stab _ _, det_stab _ _, det_stab _ _, det_stab _ _, det_stab _ _, det_stab _ _, trivial⟩ ?_ ?_; rotate_left 6
   ·refine Obls_cons ?_ ?_
    ·intro wq hbq
     refine Obl_nil ?_
     first | (refine Ex_q2 (Rq_loadBW ((hB4).below hbq) Tryz.isAgg106 Tryz.sizeOf106 rfl rfl) ?_; first | exact rfl | rfl) | (refine Ex_q2 (Rq_loadBA ((hB4).below hbq) Tryz.isAgg106 Tryz.sizeOf106 rfl rfl rfl) ?_; first | exact rfl | rfl)
    refine Obls_cons ?_ ?_
    ·intro wq hbq
     refine Obl_nil ?_
     refine Ex_call rfl Tryz.call108 (fn_det2 (f108_c _ _) ?_); first | exact rfl | rfl
    refine Obls_cons ?_ ?_
    ·intro wq hbq
     refine Obl_nil ?_
     first | (refine Ex_q2 (Rq_loadBW ((hB5).below hbq) Tryz.isAgg106 Tryz.sizeOf106 rfl rfl) ?_; first | exact rfl | rfl) | (refine Ex_q2 (Rq_loadBA ((hB5).below hbq) Tryz.isAgg106 Tryz.sizeOf106 rfl rfl rfl) ?_; first | exact rfl | rfl)
    refine Obls_cons ?_ ?_
    ·intro wq hbq
     refine Obl_det rfl rfl (Obl_det rfl rfl (Obl_det rfl rfl (Obl_nil ?_)))
     refine Ex_call rfl Tryz.call110 (fn_det2 (f110_c _ _ _ _) ?_); first | exact rfl | rfl
    refine Obls_cons ?_ ?_
    ·intro wq hbq
     refine Obl_det rfl rfl (Obl_nil ?_)
     refine Ex_q2 (Rq_extract rfl rfl) ?_; first | exact rfl | rfl
    refine Obls_cons ?_ ?_
    ·intro wq hbq
     refine Obl_det rfl rfl (Obl_nil ?_)
     refine Ex_q2 (Rq_extract rfl rfl) ?_; first | exact rfl | rfl
    exact Obls_nil
   ·intro wa5 hba5
    replace hb0 := btr hb0 hba5;replace hB6 := hB6.below hba5;refine Fin_det rfl (Fin_det rfl (Fin_det rfl (Fin_det rfl (Fin_det rfl (Fin_det rfl (Fin_nil ?_))))))
    simp only [List.drop_succ_cons, List.drop_zero]
    refine SG_storeW (hB6) rfl rfl rfl rfl Tryz.sizeOf106 rfl rfl ?_;intro ws5x6 hchs5x6 hBs5x6;replace hb0 := bchg hb0 hchs5x6 hle6;clear hB6;refine SG_q (Rq_assign rfl) rfl ?_;refine SG_nil ?_;refine D_then ?_;refine W_ret ?_;refine D_block_ret ?_;refine D_then_ret ?_;refine D_bodyR2 rfl rfl (.cellW rfl (hBs5x6) Tryz.isAgg106 Tryz.sizeOf106 rfl) (.tmp rfl) ?_;exact ⟨by rw [op2R, if_neg g12, if_pos g20]; rfl, hb0⟩
  ·intro g20
   try simp only [dd] at g20
   refine W_skip ?_;refine D_block ?_;refine D_then ?_;refine W_seq ?_;refine W_region ?_;refine SG_q (Rq_move rfl) rfl ?_;refine SG_call rfl Tryz.call124 rfl (f124_c _ _) ?_;rintro v29 w29 hb29 hD29;replace hb0 := btr hb0 hb29;replace hB4 := hB4.below hb29;replace hB5 := hB5.below hb29;replace hB6 := hB6.below hb29;refine SG_q (Rq_assign rfl) rfl ?_;refine SG_nil ?_;refine D_then ?_;refine W_seq ?_;refine W_seq ?_;refine W_region ?_;refine SG_q (Rq_move rfl) rfl ?_;refine SG_q (Rq_eql_fn Tryz.runUnderlying171 rfl hD29.form) rfl ?_;refine SG_q (Rq_move rfl) rfl ?_;refine SG_or (r := ?r32n3) 6 38 32 rfl ?_ ?_ ?_; rotate_left
   ·intro g32 K32
    have g32' := g32; try simp only [dd] at g32'
    have hm32 := Below.refl (w29).heap.size w29;refine SG_yes 32 rfl rfl g32 ?_
    first | refine SG_q (Rq_loadBW (hB4) Tryz.isAgg106 Tryz.sizeOf106 rfl rfl) rfl ?_ | refine SG_q (Rq_loadBA (hB4) Tryz.isAgg106 Tryz.sizeOf106 rfl rfl rfl) rfl ?_
    refine SG_yes 32 rfl rfl g32 ?_
    first | refine SG_q (Rq_loadBW (hB5) Tryz.isAgg106 Tryz.sizeOf106 rfl rfl) rfl ?_ | refine SG_q (Rq_loadBA (hB5) Tryz.isAgg106 Tryz.sizeOf106 rfl rfl rfl) rfl ?_
    refine SG_yes 32 rfl rfl g32 (SG_bslice (enc := encV) (val := valV) (os := [.tmp 33, .tmp 34]) rfl rfl (MV.cons (MV.cons (MV.nil))) (fun _ => rfl) (fun _ => rfl) Tryz.runUnderlying69 Tryz.sizeOf106 Tryz.zeroValue106 rfl (by decide) (by decide) rfl ?_);intro w35 v35 b35 e35 hb35 hz35 hob35 hO35
    have hle35 : w.heap.size ≤ b35 := by have := hb0.size; omega
    have lt_b4_35 : b4 < b35 := by have := hB4.lt; omega
    have lt_b5_35 : b5 < b35 := by have := hB5.lt; omega
    have lt_b6_35 : b6 < b35 := by have := hB6.lt; omega
    replace hb0 := btr hb0 hb35;replace hm32 := btr hm32 hb35;replace hD29 := hD29.kp (Keep.of_below hb35 hD29.le);refine SG_yes 32 rfl rfl g32 (SG_pure rfl Tryz.call123 rfl (f123_c (by simp) (hO35.sl)) ?_);intro w36 hb36;replace hb0 := btr hb0 hb36;replace hm32 := btr hm32 hb36;replace hD29 := hD29.kp (Keep.of_below hb36 hD29.le);refine SG_yes 32 rfl rfl g32 (SG_q (Rq_not rfl) rfl (SG_q (Rq_pick rfl (fun h => absurd (g32.symm.trans h) (by decide)) (fun _ => rfl)) rfl ?_));exact K32 _ _ hm32 (by repeat (first | exact Sub.refl | refine Sub.shadow ?_ | refine Sub.same ?_ | refine Sub.push rfl ?_))
   ·intro g32 K32
    have g32' := g32; try simp only [dd] at g32'
    have hm32 := Below.refl (w29).heap.size w29;refine SG_no 32 rfl rfl g32 rfl (SG_no 32 rfl rfl g32 rfl (SG_no 32 rfl rfl g32 rfl (SG_no 32 rfl rfl g32 rfl (SG_no 32 rfl rfl g32 rfl (SG_q (Rq_pick rfl (fun _ => rfl) (fun h => absurd (g32.symm.trans h) (by decide))) rfl ?_)))));exact K32 _ _ hm32 (by repeat (first | exact Sub.refl | refine Sub.shadow ?_ | refine Sub.same ?_ | refine Sub.push rfl ?_))
   intro wm32 hbm32;replace hb0 := btr hb0 hbm32;replace hB4 := hB4.below hbm32;replace hB5 := hB5.below hbm32;replace hB6 := hB6.below hbm32;replace hD29 := hD29.kp (Keep.of_below hbm32 hD29.le)
   simp only [List.drop_succ_cons, List.drop_zero]
   refine SG_nil (D_then ?_);refine W_cond rfl ?_ ?_
   ·intro g38
    try simp only [dd] at g38
    have g38q := g38; rw [hD29.isnil] at g38q;refine W_seq ?_;refine W_region ?_;refine SG_q (Rq_build0 build106_) rfl ?_;refine SG_storeW (hB6) rfl rfl rfl rfl Tryz.sizeOf106 rfl rfl ?_;intro ws8x1 hchs8x1 hBs8x1;replace hb0 := bchg hb0 hchs8x1 hle6;replace hD29 := hD29.kp (Keep.of_chg hchs8x1 (by omega) hD29.le);clear hB6;refine SG_q (Rq_assign rfl) rfl ?_;refine SG_nil ?_;refine D_then ?_;refine W_ret ?_;refine D_then_ret ?_;refine D_bodyR2 rfl rfl (.cellW rfl (hBs8x1) Tryz.isAgg106 Tryz.sizeOf106 rfl) (.tmp rfl) ?_;exact ⟨by rw [op2R, if_neg g12, if_neg g20, if_pos (by simpa using g38q)]; rfl, hb0⟩
   ·intro g38
    try simp only [dd] at g38
    have g38q := g38; rw [hD29.isnil] at g38q;refine W_skip (D_then (W_seq (W_seq ?_)))
    rcases ff2 a b with ⟨hf, hf2, hfi⟩ | ⟨hf, hfi⟩ | ⟨hf, hf2, hfi⟩
    ·skip
     refine W_region ?_
     first | refine SG_q (Rq_loadBW (hB4) Tryz.isAgg106 Tryz.sizeOf106 rfl rfl) rfl ?_ | refine SG_q (Rq_loadBA (hB4) Tryz.isAgg106 Tryz.sizeOf106 rfl rfl rfl) rfl ?_
     first | refine SG_q (Rq_loadBW (hB5) Tryz.isAgg106 Tryz.sizeOf106 rfl rfl) rfl ?_ | refine SG_q (Rq_loadBA (hB5) Tryz.isAgg106 Tryz.sizeOf106 rfl rfl rfl) rfl ?_
     refine SG_bslice (enc := encV) (val := valV) (os := [.tmp 41, .tmp 42]) rfl rfl (MV.cons (MV.cons (MV.nil))) (fun _ => rfl) (fun _ => rfl) Tryz.runUnderlying69 Tryz.sizeOf106 Tryz.zeroValue106 rfl (by decide) (by decide) rfl ?_;intro w43 v43 b43 e43 hb43 hz43 hob43 hO43
     have hle43 : w.heap.size ≤ b43 := by have := hb0.size; omega
     have lt_b4_43 : b4 < b43 := by have := hB4.lt; omega
     have lt_b5_43 : b5 < b43 := by have := hB5.lt; omega
     have lt_b6_43 : b6 < b43 := by have := hB6.lt; omega
     replace hb0 := btr hb0 hb43;replace hB4 := hB4.below hb43;replace hB5 := hB5.below hb43;replace hB6 := hB6.below hb43;replace hD29 := hD29.kp (Keep.of_below hb43 hD29.le);refine SG_pure rfl Tryz.call122 rfl (f122_none (by simp) (hO43.sl) hfi) ?_;intro w44 hb44;replace hb0 := btr hb0 hb44;replace hB4 := hB4.below hb44;replace hB5 := hB5.below hb44;replace hB6 := hB6.below hb44;replace hD29 := hD29.kp (Keep.of_below hb44 hD29.le);refine SG_q (Rq_move rfl) rfl (SG_q (Rq_extract rfl rfl) rfl (SG_q (Rq_extract rfl rfl) rfl (SG_alloc Tryz.zeroValue106 rfl rfl ?_)));intro w9 b9 e9 hb9 hz9 hB9
     have hle9 : w.heap.size ≤ b9 := by have := hb0.size; omega
     have ne_b4_9 : ¬ b4 = b9 := by have := hB4.lt; omega
     have ne_b5_9 : ¬ b5 = b9 := by have := hB5.lt; omega
     have ne_b6_9 : ¬ b6 = b9 := by have := hB6.lt; omega
     have lb_hD29_9 : w29.heap.size ≤ b9 := by have := hD29.le; omega
     replace hb0 := btr hb0 hb9;replace hB4 := hB4.below hb9;replace hB5 := hB5.below hb9;replace hB6 := hB6.below hb9;replace hD29 := hD29.kp (Keep.of_below hb9 hD29.le);refine SG_storeW (hB9) rfl rfl rfl rfl Tryz.sizeOf106 rfl rfl ?_;intro ws9x8 hchs9x8 hBs9x8;replace hb0 := bchg hb0 hchs9x8 hle9;replace hB4 := hB4.chg hchs9x8 ne_b4_9;replace hB5 := hB5.chg hchs9x8 ne_b5_9;replace hB6 := hB6.chg hchs9x8 ne_b6_9;replace hD29 := hD29.kp (Keep.of_chg hchs9x8 (by omega) hD29.le);clear hO43;clear hB9;refine SG_q (Rq_assign rfl) rfl ?_;refine SG_nil ?_;refine D_then ?_;refine W_seq ?_;refine W_region ?_;refine SG_q (Rq_move rfl) rfl ?_;refine SG_nil ?_;refine D_then ?_;refine W_condF rfl ?_;refine W_skip ?_;refine D_then ?_;refine W_seq ?_;refine W_region ?_;refine SG_q (Rq_move rfl) rfl ?_;refine SG_q (Rq_fieldAddr fa106_1 rfl) rfl ?_;refine SG_q (Rq_loadB (hB4) Tryz.isAgg3 rfl rfl) rfl ?_;refine SG_q (Rq_fieldAddr fa106_1 rfl) rfl ?_;refine SG_q (Rq_loadB (hB5) Tryz.isAgg3 rfl rfl) rfl ?_;refine SG_pureE rfl rfl rfl (hD29.call g38.1 (cell_bd (are2 g38.2).1 hf).1 (cell_bd (are2 g38.2).1 hf).2 (cell_bd (are2 g38.2).2 hf2).1 (cell_bd (are2 g38.2).2 hf2).2) ?_;intro w54 hb54;replace hb0 := btr hb0 hb54;replace hB6 := hB6.below hb54;replace hD29 := hD29.kp (Keep.of_below hb54 hD29.le);refine SG_storeW (hB6) rfl rfl rfl rfl Tryz.sizeOf106 rfl rfl ?_;intro ws12x6 hchs12x6 hBs12x6;replace hb0 := bchg hb0 hchs12x6 hle6;replace hD29 := hD29.kp (Keep.of_chg hchs12x6 (by omega) hD29.le);clear hB6;refine SG_q (Rq_assign rfl) rfl ?_;refine SG_nil ?_;refine D_then ?_;refine W_ret ?_;refine D_bodyR2 rfl rfl (.cellW rfl (hBs12x6) Tryz.isAgg106 Tryz.sizeOf106 rfl) (.tmp rfl) ?_;exact ⟨by rw [op2R, if_neg g12, if_neg g20, if_neg (by have h1 := g38q.1; simp at h1; simp [h1, g38q.2]), if_neg (by simpa using hf), if_neg (by simpa using hf2)]; rfl, hb0⟩
    ·skip
     refine W_region ?_
     first | refine SG_q (Rq_loadBW (hB4) Tryz.isAgg106 Tryz.sizeOf106 rfl rfl) rfl ?_ | refine SG_q (Rq_loadBA (hB4) Tryz.isAgg106 Tryz.sizeOf106 rfl rfl rfl) rfl ?_
     first | refine SG_q (Rq_loadBW (hB5) Tryz.isAgg106 Tryz.sizeOf106 rfl rfl) rfl ?_ | refine SG_q (Rq_loadBA (hB5) Tryz.isAgg106 Tryz.sizeOf106 rfl rfl rfl) rfl ?_
     refine SG_bslice (enc := encV) (val := valV) (os := [.tmp 41, .tmp 42]) rfl rfl (MV.cons (MV.cons (MV.nil))) (fun _ => rfl) (fun _ => rfl) Tryz.runUnderlying69 Tryz.sizeOf106 Tryz.zeroValue106 rfl (by decide) (by decide) rfl ?_;intro w43 v43 b43 e43 hb43 hz43 hob43 hO43
     have hle43 : w.heap.size ≤ b43 := by have := hb0.size; omega
     have lt_b4_43 : b4 < b43 := by have := hB4.lt; omega
     have lt_b5_43 : b5 < b43 := by have := hB5.lt; omega
     have lt_b6_43 : b6 < b43 := by have := hB6.lt; omega
     replace hb0 := btr hb0 hb43;replace hB4 := hB4.below hb43;replace hB5 := hB5.below hb43;replace hB6 := hB6.below hb43;replace hD29 := hD29.kp (Keep.of_below hb43 hD29.le);refine SG_pure rfl Tryz.call122 rfl (f122_some (by simp) (hO43.sl) hfi) ?_;intro w44 hb44;replace hb0 := btr hb0 hb44;replace hB4 := hB4.below hb44;replace hB5 := hB5.below hb44;replace hB6 := hB6.below hb44;replace hD29 := hD29.kp (Keep.of_below hb44 hD29.le);refine SG_q (Rq_move rfl) rfl (SG_q (Rq_extract rfl rfl) rfl (SG_q (Rq_extract rfl rfl) rfl (SG_alloc Tryz.zeroValue106 rfl rfl ?_)));intro w9 b9 e9 hb9 hz9 hB9
     have hle9 : w.heap.size ≤ b9 := by have := hb0.size; omega
     have ne_b4_9 : ¬ b4 = b9 := by have := hB4.lt; omega
     have ne_b5_9 : ¬ b5 = b9 := by have := hB5.lt; omega
     have ne_b6_9 : ¬ b6 = b9 := by have := hB6.lt; omega
     have lb_hD29_9 : w29.heap.size ≤ b9 := by have := hD29.le; omega
     replace hb0 := btr hb0 hb9;replace hB6 := hB6.below hb9;replace hD29 := hD29.kp (Keep.of_below hb9 hD29.le);refine SG_storeW (hB9) rfl rfl rfl rfl Tryz.sizeOf106 rfl rfl ?_;intro ws9x8 hchs9x8 hBs9x8;replace hb0 := bchg hb0 hchs9x8 hle9;replace hB6 := hB6.chg hchs9x8 ne_b6_9;replace hD29 := hD29.kp (Keep.of_chg hchs9x8 (by omega) hD29.le);clear hO43;clear hB9;refine SG_q (Rq_assign rfl) rfl (SG_nil (D_then (W_seq (W_region (SG_q (Rq_move rfl) rfl (SG_nil (D_then (W_condT rfl ?_))))))));refine W_seq (W_region ?_)
     first | refine SG_q (Rq_loadBW (hBs9x8) Tryz.isAgg106 Tryz.sizeOf106 rfl rfl) rfl ?_ | refine SG_q (Rq_loadBA (hBs9x8) Tryz.isAgg106 Tryz.sizeOf106 rfl rfl rfl) rfl ?_
     refine SG_storeW (hB6) rfl rfl rfl rfl Tryz.sizeOf106 rfl rfl ?_;intro ws11x1 hchs11x1 hBs11x1;replace hb0 := bchg hb0 hchs11x1 hle6;replace hD29 := hD29.kp (Keep.of_chg hchs11x1 (by omega) hD29.le);clear hB6;refine SG_q (Rq_assign rfl) rfl ?_;refine SG_nil ?_;refine D_then ?_;refine W_ret ?_;refine D_then_ret ?_;refine D_bodyR2 rfl rfl (.cellW rfl (hBs11x1) Tryz.isAgg106 Tryz.sizeOf106 rfl) (.tmp rfl) ?_;exact ⟨by rw [op2R, if_neg g12, if_neg g20, if_neg (by have h1 := g38q.1; simp at h1; simp [h1, g38q.2]), if_pos hf]; rfl, hb0⟩
    ·skip
     refine W_region ?_
     first | refine SG_q (Rq_loadBW (hB4) Tryz.isAgg106 Tryz.sizeOf106 rfl rfl) rfl ?_ | refine SG_q (Rq_loadBA (hB4) Tryz.isAgg106 Tryz.sizeOf106 rfl rfl rfl) rfl ?_
     first | refine SG_q (Rq_loadBW (hB5) Tryz.isAgg106 Tryz.sizeOf106 rfl rfl) rfl ?_ | refine SG_q (Rq_loadBA (hB5) Tryz.isAgg106 Tryz.sizeOf106 rfl rfl rfl) rfl ?_
     refine SG_bslice (enc := encV) (val := valV) (os := [.tmp 41, .tmp 42]) rfl rfl (MV.cons (MV.cons (MV.nil))) (fun _ => rfl) (fun _ => rfl) Tryz.runUnderlying69 Tryz.sizeOf106 Tryz.zeroValue106 rfl (by decide) (by decide) rfl ?_;intro w43 v43 b43 e43 hb43 hz43 hob43 hO43
     have hle43 : w.heap.size ≤ b43 := by have := hb0.size; omega
     have lt_b4_43 : b4 < b43 := by have := hB4.lt; omega
     have lt_b5_43 : b5 < b43 := by have := hB5.lt; omega
     have lt_b6_43 : b6 < b43 := by have := hB6.lt; omega
     replace hb0 := btr hb0 hb43;replace hB4 := hB4.below hb43;replace hB5 := hB5.below hb43;replace hB6 := hB6.below hb43;replace hD29 := hD29.kp (Keep.of_below hb43 hD29.le);refine SG_pure rfl Tryz.call122 rfl (f122_some (by simp) (hO43.sl) hfi) ?_;intro w44 hb44;replace hb0 := btr hb0 hb44;replace hB4 := hB4.below hb44;replace hB5 := hB5.below hb44;replace hB6 := hB6.below hb44;replace hD29 := hD29.kp (Keep.of_below hb44 hD29.le);refine SG_q (Rq_move rfl) rfl (SG_q (Rq_extract rfl rfl) rfl (SG_q (Rq_extract rfl rfl) rfl (SG_alloc Tryz.zeroValue106 rfl rfl ?_)));intro w9 b9 e9 hb9 hz9 hB9
     have hle9 : w.heap.size ≤ b9 := by have := hb0.size; omega
     have ne_b4_9 : ¬ b4 = b9 := by have := hB4.lt; omega
     have ne_b5_9 : ¬ b5 = b9 := by have := hB5.lt; omega
     have ne_b6_9 : ¬ b6 = b9 := by have := hB6.lt; omega
     have lb_hD29_9 : w29.heap.size ≤ b9 := by have := hD29.le; omega
     replace hb0 := btr hb0 hb9;replace hB6 := hB6.below hb9;replace hD29 := hD29.kp (Keep.of_below hb9 hD29.le);refine SG_storeW (hB9) rfl rfl rfl rfl Tryz.sizeOf106 rfl rfl ?_;intro ws9x8 hchs9x8 hBs9x8;replace hb0 := bchg hb0 hchs9x8 hle9;replace hB6 := hB6.chg hchs9x8 ne_b6_9;replace hD29 := hD29.kp (Keep.of_chg hchs9x8 (by omega) hD29.le);clear hO43;clear hB9;refine SG_q (Rq_assign rfl) rfl (SG_nil (D_then (W_seq (W_region (SG_q (Rq_move rfl) rfl (SG_nil (D_then (W_condT rfl ?_))))))));refine W_seq (W_region ?_)
     first | refine SG_q (Rq_loadBW (hBs9x8) Tryz.isAgg106 Tryz.sizeOf106 rfl rfl) rfl ?_ | refine SG_q (Rq_loadBA (hBs9x8) Tryz.isAgg106 Tryz.sizeOf106 rfl rfl rfl) rfl ?_
     refine SG_storeW (hB6) rfl rfl rfl rfl Tryz.sizeOf106 rfl rfl ?_;intro ws11x1 hchs11x1 hBs11x1;replace hb0 := bchg hb0 hchs11x1 hle6;replace hD29 := hD29.kp (Keep.of_chg hchs11x1 (by omega) hD29.le);clear hB6;refine SG_q (Rq_assign rfl) rfl ?_;refine SG_nil ?_;refine D_then ?_;refine W_ret ?_;refine D_then_ret ?_;refine D_bodyR2 rfl rfl (.cellW rfl (hBs11x1) Tryz.isAgg106 Tryz.sizeOf106 rfl) (.tmp rfl) ?_;exact ⟨by rw [op2R, if_neg g12, if_neg g20, if_neg (by have h1 := g38q.1; simp at h1; simp [h1, g38q.2]), if_neg (by simpa using hf), if_pos hf2]; rfl, hb0⟩
end Go.Proofs.YtphmoebiobjfhaaGreat
