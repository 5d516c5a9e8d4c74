/- Walks of functions, printed by a program of the author. -/
import Derived.Test.YtphmoebiobjfhaaGreatT17
set_option linter.all false
namespace Go.Proofs.YtphmoebiobjfhaaGreat
open Go Go.Mi Go.RowKit
theorem build76_0_1_2 (v u t : Value) (w : World) (hv : one1 v = true) (hu : one1 u = true) (ht : one1 t = true) : (Instr.build 76 #[(0, v), (1, u), (2, t)]).run Tryz.prog w = .ok (.agg [v, u, t, (.int .i64 0), (.int .i64 0)].toArray) w := by
 unfold Instr.build
 simp [Sem.run_bind, Tryz.zeroValue76, Tryz.runUnderlying76, Tryz.sizeOf3, Tryz.sizeOf5, Instr.fill, cells_one hv, cells_one hu, cells_one ht, Result.andThen, cells_agg]
theorem build84_0_1_2 (v u t : Value) (w : World) (hv : one1 v = true) (hu : one1 u = true) (ht : one1 t = true) : (Instr.build 84 #[(0, v), (1, u), (2, t)]).run Tryz.prog w = .ok (.agg [v, u, t].toArray) w := by
 unfold Instr.build
 simp [Sem.run_bind, Tryz.zeroValue84, Tryz.runUnderlying84, Tryz.sizeOf3, Tryz.sizeOf9, Instr.fill, cells_one hv, cells_one hu, cells_one ht, Result.andThen, cells_agg]
theorem eqI9 (a b : ByteArray) (d : Nat) (w : World) : (Op.equalIn (d + 1) 9 (.string a) (.string b)).run Tryz.prog w = .ok (decide (a = b)) w := by
 simp [Op.equalIn, Tryz.runUnderlying9, Sem.run_bind, Result.andThen]
 rcases a with ⟨x⟩; rcases b with ⟨y⟩
 show (x == y) = _
 rw [Bool.eq_iff_iff]; simp
theorem st84 : Tryz.prog.stoodInHeld 84 = false := by kernel_rfl
theorem eg84 : Tryz.prog.eqGuardType Tryz.prog.depth 84 = false := by kernel_rfl
theorem eq84 (x y : Ch) (w : World) : (Op.equal 84 (valC x) (valC y)).run Tryz.prog w = .ok (decide (x = y)) w := by
 unfold Op.equal
 rw [show Op.maxDepth = 9998 + 1 + 1 from rfl]
 unfold Op.equalIn
 obtain ⟨c, a, b⟩ := x;obtain ⟨c', a', b'⟩ := y
 by_cases h1 : c = c'
 ·by_cases h2 : a = a'
  ·by_cases h3 : b = b'
   ·simp [Tryz.runUnderlying84, valC, encC, Sem.run_bind, st84, Result.andThen, part, Tryz.isAgg3, Tryz.isAgg9, eqI3, eqI9, Ch.mk.injEq, h1, h2, h3]
   ·simp [Tryz.runUnderlying84, valC, encC, Sem.run_bind, st84, Result.andThen, part, Tryz.isAgg3, Tryz.isAgg9, eqI3, eqI9, Ch.mk.injEq, h1, h2, h3]
  ·simp [Tryz.runUnderlying84, valC, encC, Sem.run_bind, st84, Result.andThen, part, Tryz.isAgg3, Tryz.isAgg9, eqI3, eqI9, Ch.mk.injEq, h1, h2]
 ·simp [Tryz.runUnderlying84, valC, encC, Sem.run_bind, st84, Result.andThen, part, Tryz.isAgg3, Tryz.isAgg9, eqI3, eqI9, Ch.mk.injEq, h1]
theorem st45 : Tryz.prog.stoodInHeld 45 = false := by kernel_rfl
theorem eg45 : Tryz.prog.eqGuardType Tryz.prog.depth 45 = false := by kernel_rfl
theorem eq45 (x y : Rw) (w : World) : (Op.equal 45 (valR x) (valR y)).run Tryz.prog w = .ok (decide (x = y)) w := by
 unfold Op.equal
 rw [show Op.maxDepth = 9998 + 1 + 1 from rfl]
 unfold Op.equalIn
 obtain ⟨r, o⟩ := x;obtain ⟨r', o'⟩ := y
 by_cases h1 : r = r'
 ·by_cases h2 : o = o'
  ·simp [Tryz.runUnderlying45, valR, encR, Sem.run_bind, st45, Result.andThen, part, Tryz.isAgg3, Tryz.isAgg5, eqI3, eqI5, Rw.mk.injEq, h1, h2]
  ·simp [Tryz.runUnderlying45, valR, encR, Sem.run_bind, st45, Result.andThen, part, Tryz.isAgg3, Tryz.isAgg5, eqI3, eqI5, Rw.mk.injEq, h1, h2]
 ·simp [Tryz.runUnderlying45, valR, encR, Sem.run_bind, st45, Result.andThen, part, Tryz.isAgg3, Tryz.isAgg5, eqI3, eqI5, Rw.mk.injEq, h1]
theorem f31_c {u v : Value} {xs ys : List Int} {w : World} (hx : SL w u 1 encI xs) (hy : SL w v 1 encI ys) (hxl : xs.length ≤ 100000) (hyl : ys.length ≤ 100000) : Pure Tryz.prog 31 #[u, v] w (.bool (decide (xs = ys))) := by
 have hb0 := Below.refl w.heap.size w;refine calls_of_W Tryz.func31 rfl Tryz.ntmps31 rfl ?_;refine W_seq (W_region (SG_q (Rq_assign rfl) rfl (SG_nil (D_then (W_seq (W_seq (W_region (SG_q (Rq_move rfl) rfl ?_))))))))
 first | refine SG_q (Rq_len ((hx).below hb0) Tryz.runUnderlying24 rfl) rfl ?_ | refine SG_q (Rq_len ((hy).below hb0) Tryz.runUnderlying24 rfl) rfl ?_
 refine SG_q (Rq_move rfl) rfl ?_
 first | refine SG_q (Rq_len ((hx).below hb0) Tryz.runUnderlying24 rfl) rfl ?_ | refine SG_q (Rq_len ((hy).below hb0) Tryz.runUnderlying24 rfl) rfl ?_
 refine SG_q (Rq_neq rfl rfl) rfl (SG_nil (D_then ?_));refine W_cond rfl ?_ ?_
 ·intro g10
  try simp only [dd] at g10
  refine W_seq (W_region (SG_q (Rq_assign rfl) rfl (SG_nil (D_then (W_ret (D_then_ret (D_body1 rfl rfl rfl ?_)))))));exact ⟨by rw [decide_eq_false (fun e => g10 (by rw [e]))], hb0⟩
 ·intro g10
  try simp only [dd] at g10
  have hll : xs.length = ys.length := by omega
  refine W_skip (D_then (W_seq (W_seq (W_region (SG_q (Rq_assign rfl) rfl (SG_nil (D_then (W_block ?_))))))));refine W_loop (α := Nat) (fun x => [(5, .int .i64 (x : Nat)), (0, u), (1, v)]) (fun x w' => Below w.heap.size w w' ∧ x ≤ xs.length ∧ (∀ j : Nat, j < x → xs[j]? = ys[j]?)) (fun x => xs.length - x) (0) (by repeat (first | exact Sub.nil | refine Sub.cons rfl ?_)) ⟨hb0, Nat.zero_le _, fun j h => by omega⟩ ?_;clear hb0;rintro x wl0 ⟨hb0, hxi, hno⟩;refine W_seq (W_seq (W_region (SG_q (Rq_move rfl) rfl (SG_q (Rq_move rfl) rfl ?_))))
  first | refine SG_q (Rq_len ((hx).below hb0) Tryz.runUnderlying24 rfl) rfl ?_ | refine SG_q (Rq_len ((hy).below hb0) Tryz.runUnderlying24 rfl) rfl ?_
  refine SG_q (Rq_lss rfl rfl) rfl (SG_nil (D_then ?_));refine W_cond rfl ?_ ?_
  ·intro g14
   try simp only [dd] at g14
   refine W_skip (D_then (W_seq (W_block (W_seq (W_quiet (Tryz.mixed) (by kernel_rfl) ?_)))));refine QS_q (Rq_move rfl) rfl (QS_q (Rq_move rfl) rfl ?_)
   first | refine QS_index ((hx).below hb0) Tryz.runUnderlying24 Tryz.sizeOf3 rfl rfl ?_ ?_ rfl ?_ | refine QS_index ((hy).below hb0) Tryz.runUnderlying24 Tryz.sizeOf3 rfl rfl ?_ ?_ rfl ?_
   ·omega
   ·omega
   intro x19 hx19 hc19;refine QS_q (Rq_load Tryz.isAgg3 rfl ((hc19).cell 0 rfl)) rfl (QS_q (Rq_move rfl) rfl (QS_q (Rq_move rfl) rfl ?_))
   first | refine QS_index ((hx).below hb0) Tryz.runUnderlying24 Tryz.sizeOf3 rfl rfl ?_ ?_ rfl ?_ | refine QS_index ((hy).below hb0) Tryz.runUnderlying24 Tryz.sizeOf3 rfl rfl ?_ ?_ rfl ?_
   ·omega
   ·omega
   intro x23 hx23 hc23;refine QS_q (Rq_load Tryz.isAgg3 rfl ((hc23).cell 0 rfl)) rfl (QS_q (Rq_neq rfl rfl) rfl (QS_nil ?_));intro wr6 hbr6;replace hb0 := btr hb0 hbr6;refine D_then ?_;refine W_cond rfl ?_ ?_
   ·intro g25
    try simp only [dd] at g25
    refine W_seq (W_region (SG_q (Rq_assign rfl) rfl (SG_nil (D_then (W_ret (D_block_ret (D_then_ret (D_loop_ret ?_))))))));refine D_block_ret (D_then_ret (D_body1 rfl rfl rfl ?_));exact ⟨by rw [decide_eq_false (same_not hx19 hx23 (by simpa using g25))], hb0⟩
   ·intro g25
    try simp only [dd] at g25
    refine W_skip ?_;refine D_block ?_;refine D_then ?_;refine W_region ?_;refine SG_q (Rq_move rfl) rfl ?_;refine SG_q (Rq_add rfl rfl (wrap_i64 (by omega) (by omega))) rfl ?_;refine SG_q (Rq_assign rfl) rfl ?_;refine SG_nil ?_;refine D_loop (x + 1) (by repeat (first | exact Sub.nil | refine Sub.cons rfl ?_)) ⟨hb0, by omega, fun j hj => by rcases Nat.lt_succ_iff_lt_or_eq.1 hj with h | rfl; exact hno j h; (rw [show xs[j]? = _ from hx19, show ys[j]? = _ from hx23]; simpa using g25)⟩ (by omega)
  ·intro g14
   try simp only [dd] at g14
   refine W_exit (D_then_exit (D_loop_exit ?_));refine D_block_exit (D_then (W_seq (W_region (SG_q (Rq_assign rfl) rfl (SG_nil (D_then (W_ret (D_body1 rfl rfl rfl ?_))))))));exact ⟨by rw [decide_eq_true (same_list hll (fun j hj => hno j (by omega)))], hb0⟩
theorem f14_c {u v : Value} {P Q : Co} {w : World} (hP : CoS w u P) (hQ : CoS w v Q) (p1 : P.ch.length ≤ 100000) (p2 : P.ops.length ≤ 100000) (p3 : P.roots.length ≤ 100000) (q1 : Q.ch.length ≤ 100000) (q2 : Q.ops.length ≤ 100000) (q3 : Q.roots.length ≤ 100000) : Pure Tryz.prog 14 #[u, v] w (.bool (decide (P = Q))) := by
 obtain ⟨uC, uO, uR, rfl, hu1, hu2, hu3⟩ := hP.ex;obtain ⟨vC, vO, vR, rfl, hv1, hv2, hv3⟩ := hQ.ex;have hb0 := Below.refl w.heap.size w;refine calls_of_W Tryz.func14 rfl Tryz.ntmps14 rfl ?_;refine W_seq (W_region (SG_box rfl rfl rfl ?_));intro w2 b2 e2 hb2 hz2 hB2
 have hle2 : w.heap.size ≤ b2 := by have := hb0.size; omega
 replace hb0 := btr hb0 hb2;refine SG_box rfl rfl rfl ?_;intro w3 b3 e3 hb3 hz3 hB3
 have hle3 : w.heap.size ≤ b3 := by have := hb0.size; omega
 have ne_b2_3 : ¬ b2 = b3 := by have := hB2.lt; omega
 replace hb0 := btr hb0 hb3;replace hB2 := hB2.below hb3;refine SG_q (Rq_assign rfl) rfl (SG_nil (D_then (W_seq (W_seq (W_region (SG_q (Rq_fieldAddr fa26_0 rfl) rfl (SG_q (Rq_loadB (hB2) Tryz.isAgg22 rfl rfl) rfl ?_)))))))
 first | refine SG_q (Rq_len ((hu1).below hb0) Tryz.runUnderlying22 rfl) rfl ?_ | refine SG_q (Rq_len ((hu2).below hb0) Tryz.runUnderlying22 rfl) rfl ?_ | refine SG_q (Rq_len ((hu3).below hb0) Tryz.runUnderlying22 rfl) rfl ?_ | refine SG_q (Rq_len ((hv1).below hb0) Tryz.runUnderlying22 rfl) rfl ?_ | refine SG_q (Rq_len ((hv2).below hb0) Tryz.runUnderlying22 rfl) rfl ?_ | refine SG_q (Rq_len ((hv3).below hb0) Tryz.runUnderlying22 rfl) rfl ?_
 refine SG_q (Rq_fieldAddr fa26_0 rfl) rfl (SG_q (Rq_loadB (hB3) Tryz.isAgg22 rfl rfl) rfl ?_)
 first | refine SG_q (Rq_len ((hu1).below hb0) Tryz.runUnderlying22 rfl) rfl ?_ | refine SG_q (Rq_len ((hu2).below hb0) Tryz.runUnderlying22 rfl) rfl ?_ | refine SG_q (Rq_len ((hu3).below hb0) Tryz.runUnderlying22 rfl) rfl ?_ | refine SG_q (Rq_len ((hv1).below hb0) Tryz.runUnderlying22 rfl) rfl ?_ | refine SG_q (Rq_len ((hv2).below hb0) Tryz.runUnderlying22 rfl) rfl ?_ | refine SG_q (Rq_len ((hv3).below hb0) Tryz.runUnderlying22 rfl) rfl ?_
 refine SG_q (Rq_neq rfl rfl) rfl ?_;refine SG_q (Rq_move rfl) rfl ?_;refine SG_or (r := ?r14n1) 8 22 14 rfl ?_ ?_ ?_; rotate_left
 ·intro g14 K14
  have g14' := g14; try simp only [dd] at g14'
  have hm14 := Below.refl (w3).heap.size w3;refine SG_yes 14 rfl rfl g14 (SG_q (Rq_fieldAddr fa26_1 rfl) rfl (SG_yes 14 rfl rfl g14 (SG_q (Rq_loadB (hB2) Tryz.isAgg23 rfl rfl) rfl (SG_yes 14 rfl rfl g14 ?_))))
  first | refine SG_q (Rq_len ((hu1).below hb0) Tryz.runUnderlying23 rfl) rfl ?_ | refine SG_q (Rq_len ((hu2).below hb0) Tryz.runUnderlying23 rfl) rfl ?_ | refine SG_q (Rq_len ((hu3).below hb0) Tryz.runUnderlying23 rfl) rfl ?_ | refine SG_q (Rq_len ((hv1).below hb0) Tryz.runUnderlying23 rfl) rfl ?_ | refine SG_q (Rq_len ((hv2).below hb0) Tryz.runUnderlying23 rfl) rfl ?_ | refine SG_q (Rq_len ((hv3).below hb0) Tryz.runUnderlying23 rfl) rfl ?_
  refine SG_yes 14 rfl rfl g14 (SG_q (Rq_fieldAddr fa26_1 rfl) rfl (SG_yes 14 rfl rfl g14 (SG_q (Rq_loadB (hB3) Tryz.isAgg23 rfl rfl) rfl (SG_yes 14 rfl rfl g14 ?_))))
  first | refine SG_q (Rq_len ((hu1).below hb0) Tryz.runUnderlying23 rfl) rfl ?_ | refine SG_q (Rq_len ((hu2).below hb0) Tryz.runUnderlying23 rfl) rfl ?_ | refine SG_q (Rq_len ((hu3).below hb0) Tryz.runUnderlying23 rfl) rfl ?_ | refine SG_q (Rq_len ((hv1).below hb0) Tryz.runUnderlying23 rfl) rfl ?_ | refine SG_q (Rq_len ((hv2).below hb0) Tryz.runUnderlying23 rfl) rfl ?_ | refine SG_q (Rq_len ((hv3).below hb0) Tryz.runUnderlying23 rfl) rfl ?_
  refine SG_yes 14 rfl rfl g14 (SG_q (Rq_neq rfl rfl) rfl (SG_q (Rq_pick rfl (fun h => absurd (g14.symm.trans h) (by decide)) (fun _ => rfl)) rfl ?_));exact K14 _ _ hm14 (by repeat (first | exact Sub.refl | refine Sub.shadow ?_ | refine Sub.same ?_ | refine Sub.push rfl ?_))
 ·intro g14 K14
  have g14' := g14; try simp only [dd] at g14'
  have hm14 := Below.refl (w3).heap.size w3;refine SG_no 14 rfl rfl g14 rfl (SG_no 14 rfl rfl g14 rfl (SG_no 14 rfl rfl g14 rfl (SG_no 14 rfl rfl g14 rfl (SG_no 14 rfl rfl g14 rfl (SG_no 14 rfl rfl g14 rfl (SG_no 14 rfl rfl g14 rfl (SG_q (Rq_pick rfl (fun _ => rfl) (fun h => absurd (g14.symm.trans h) (by decide))) rfl ?_)))))));exact K14 _ _ hm14 (by repeat (first | exact Sub.refl | refine Sub.shadow ?_ | refine Sub.same ?_ | refine Sub.push rfl ?_))
 intro wm14 hbm14;replace hb0 := btr hb0 hbm14;replace hB2 := hB2.below hbm14;replace hB3 := hB3.below hbm14
 simp only [List.drop_succ_cons, List.drop_zero]
 refine SG_q (Rq_move rfl) rfl ?_;refine SG_or (r := ?r23n2) 7 30 23 rfl ?_ ?_ ?_; rotate_left
 ·intro g23 K23
  have g23' := g23; try simp only [dd] at g23'
  have hm23 := Below.refl (wm14).heap.size wm14;refine SG_yes 23 rfl rfl g23 (SG_q (Rq_fieldAddr fa26_2 rfl) rfl (SG_yes 23 rfl rfl g23 (SG_q (Rq_loadB (hB2) Tryz.isAgg24 rfl rfl) rfl (SG_yes 23 rfl rfl g23 (SG_q (Rq_fieldAddr fa26_2 rfl) rfl (SG_yes 23 rfl rfl g23 (SG_q (Rq_loadB (hB3) Tryz.isAgg24 rfl rfl) rfl (SG_yes 23 rfl rfl g23 (SG_pure rfl Tryz.call31 rfl (f31_c ((hu3).below hb0) ((hv3).below hb0) p3 q3) ?_)))))))));intro w28 hb28;replace hb0 := btr hb0 hb28;replace hm23 := btr hm23 hb28;refine SG_yes 23 rfl rfl g23 (SG_q (Rq_not rfl) rfl (SG_q (Rq_pick rfl (fun h => absurd (g23.symm.trans h) (by decide)) (fun _ => rfl)) rfl ?_));exact K23 _ _ hm23 (by repeat (first | exact Sub.refl | refine Sub.shadow ?_ | refine Sub.same ?_ | refine Sub.push rfl ?_))
 ·intro g23 K23
  have g23' := g23; try simp only [dd] at g23'
  have hm23 := Below.refl (wm14).heap.size wm14;refine SG_no 23 rfl rfl g23 rfl (SG_no 23 rfl rfl g23 rfl (SG_no 23 rfl rfl g23 rfl (SG_no 23 rfl rfl g23 rfl (SG_no 23 rfl rfl g23 rfl (SG_no 23 rfl rfl g23 rfl (SG_q (Rq_pick rfl (fun _ => rfl) (fun h => absurd (g23.symm.trans h) (by decide))) rfl ?_))))));exact K23 _ _ hm23 (by repeat (first | exact Sub.refl | refine Sub.shadow ?_ | refine Sub.same ?_ | refine Sub.push rfl ?_))
 intro wm23 hbm23;replace hb0 := btr hb0 hbm23;replace hB2 := hB2.below hbm23;replace hB3 := hB3.below hbm23
 simp only [List.drop_succ_cons, List.drop_zero]
 refine SG_nil (D_then ?_);refine W_cond rfl ?_ ?_
 ·intro g30
  try simp only [dd] at g30
  refine W_seq ?_;refine W_region ?_;refine SG_q (Rq_assign rfl) rfl ?_;refine SG_nil ?_;refine D_then ?_;refine W_ret ?_;refine D_then_ret ?_;refine D_body1 rfl rfl rfl ?_;exact ⟨by rw [decide_eq_false (fun e => by subst e; simp at g30)], hb0⟩
 ·intro g30
  try simp only [dd] at g30
  have hl1 : P.ch.length = Q.ch.length := by omega
  have hl2 : P.ops.length = Q.ops.length := by omega
  have hl3 : P.roots = Q.roots := g30.2;refine W_skip (D_then (W_seq (W_seq (W_region (SG_q (Rq_assign rfl) rfl (SG_nil (D_then (W_block ?_))))))));refine W_loop (α := Nat) (fun x => [(5, .int .i64 (x : Nat)), (2, .pointer (some ⟨b2, 0, none⟩)), (3, .pointer (some ⟨b3, 0, none⟩))]) (fun x w' => Below w.heap.size w w' ∧ x ≤ P.ch.length ∧ (∀ j : Nat, j < x → P.ch[j]? = Q.ch[j]?) ∧ Blk w' b2 [uC, uO, uR] 26 ∧ Blk w' b3 [vC, vO, vR] 26) (fun x => P.ch.length - x) (0) (by repeat (first | exact Sub.nil | refine Sub.cons rfl ?_)) ⟨hb0, Nat.zero_le _, (fun j h => by omega), hB2, hB3⟩ ?_;clear hb0;clear hB2;clear hB3;rintro x wl0 ⟨hb0, hxi, hno, hB2, hB3⟩;refine W_seq (W_seq (W_region (SG_q (Rq_move rfl) rfl (SG_q (Rq_fieldAddr fa26_0 rfl) rfl (SG_q (Rq_loadB (hB2) Tryz.isAgg22 rfl rfl) rfl ?_)))))
  first | refine SG_q (Rq_len ((hu1).below hb0) Tryz.runUnderlying22 rfl) rfl ?_ | refine SG_q (Rq_len ((hu2).below hb0) Tryz.runUnderlying22 rfl) rfl ?_ | refine SG_q (Rq_len ((hu3).below hb0) Tryz.runUnderlying22 rfl) rfl ?_ | refine SG_q (Rq_len ((hv1).below hb0) Tryz.runUnderlying22 rfl) rfl ?_ | refine SG_q (Rq_len ((hv2).below hb0) Tryz.runUnderlying22 rfl) rfl ?_ | refine SG_q (Rq_len ((hv3).below hb0) Tryz.runUnderlying22 rfl) rfl ?_
  refine SG_q (Rq_lss rfl rfl) rfl (SG_nil (D_then ?_));refine W_cond rfl ?_ ?_
  ·intro g35
   try simp only [dd] at g35
   refine W_skip (D_then (W_seq (W_block (W_seq (W_quiet (Tryz.mixed) (by kernel_rfl) ?_)))));refine QS_q (Rq_fieldAddr fa26_0 rfl) rfl (QS_q (Rq_loadB (hB2) Tryz.isAgg22 rfl rfl) rfl (QS_q (Rq_move rfl) rfl ?_))
   first | refine QS_index ((hu1).below hb0) Tryz.runUnderlying22 Tryz.sizeOf84 rfl rfl ?_ ?_ rfl ?_ | refine QS_index ((hu2).below hb0) Tryz.runUnderlying22 Tryz.sizeOf84 rfl rfl ?_ ?_ rfl ?_ | refine QS_index ((hu3).below hb0) Tryz.runUnderlying22 Tryz.sizeOf84 rfl rfl ?_ ?_ rfl ?_ | refine QS_index ((hv1).below hb0) Tryz.runUnderlying22 Tryz.sizeOf84 rfl rfl ?_ ?_ rfl ?_ | refine QS_index ((hv2).below hb0) Tryz.runUnderlying22 Tryz.sizeOf84 rfl rfl ?_ ?_ rfl ?_ | refine QS_index ((hv3).below hb0) Tryz.runUnderlying22 Tryz.sizeOf84 rfl rfl ?_ ?_ rfl ?_
   ·omega
   ·omega
   intro x41 hx41 hc41;refine QS_q (Rq_loadA Tryz.isAgg84 Tryz.sizeOf84 rfl ((hc41)) rfl) rfl (QS_q (Rq_fieldAddr fa26_0 rfl) rfl (QS_q (Rq_loadB (hB3) Tryz.isAgg22 rfl rfl) rfl (QS_q (Rq_move rfl) rfl ?_)))
   first | refine QS_index ((hu1).below hb0) Tryz.runUnderlying22 Tryz.sizeOf84 rfl rfl ?_ ?_ rfl ?_ | refine QS_index ((hu2).below hb0) Tryz.runUnderlying22 Tryz.sizeOf84 rfl rfl ?_ ?_ rfl ?_ | refine QS_index ((hu3).below hb0) Tryz.runUnderlying22 Tryz.sizeOf84 rfl rfl ?_ ?_ rfl ?_ | refine QS_index ((hv1).below hb0) Tryz.runUnderlying22 Tryz.sizeOf84 rfl rfl ?_ ?_ rfl ?_ | refine QS_index ((hv2).below hb0) Tryz.runUnderlying22 Tryz.sizeOf84 rfl rfl ?_ ?_ rfl ?_ | refine QS_index ((hv3).below hb0) Tryz.runUnderlying22 Tryz.sizeOf84 rfl rfl ?_ ?_ rfl ?_
   ·omega
   ·omega
   intro x46 hx46 hc46;refine QS_q (Rq_loadA Tryz.isAgg84 Tryz.sizeOf84 rfl ((hc46)) rfl) rfl (QS_q (Rq_neqS (fun w => eq84 _ _ w) eg84 rfl rfl) rfl (QS_nil ?_));intro wr6 hbr6;replace hb0 := btr hb0 hbr6;replace hB2 := hB2.below hbr6;replace hB3 := hB3.below hbr6;refine D_then ?_;refine W_cond rfl ?_ ?_
   ·intro g48
    try simp only [dd] at g48
    refine W_seq (W_region (SG_q (Rq_assign rfl) rfl (SG_nil (D_then (W_ret (D_block_ret (D_then_ret (D_loop_ret ?_))))))));refine D_block_ret (D_then_ret (D_body1 rfl rfl rfl ?_));exact ⟨by rw [decide_eq_false (fun e => same_not hx41 hx46 (by simpa using g48) (by rw [e]))], hb0⟩
   ·intro g48
    try simp only [dd] at g48
    refine W_skip ?_;refine D_block ?_;refine D_then ?_;refine W_region ?_;refine SG_q (Rq_move rfl) rfl ?_;refine SG_q (Rq_add rfl rfl (wrap_i64 (by omega) (by omega))) rfl ?_;refine SG_q (Rq_assign rfl) rfl ?_;refine SG_nil ?_;refine D_loop (x + 1) (by repeat (first | exact Sub.nil | refine Sub.cons rfl ?_)) ⟨hb0, by omega, (fun j hj => by rcases Nat.lt_succ_iff_lt_or_eq.1 hj with h | rfl; exact hno j h; (rw [show P.ch[j]? = _ from hx41, show Q.ch[j]? = _ from hx46]; simpa using g48)), hB2, hB3⟩ (by omega)
  ·intro g35
   try simp only [dd] at g35
   refine W_exit (D_then_exit (D_loop_exit ?_));refine D_block_exit (D_then (W_seq (W_seq (W_region (SG_q (Rq_assign rfl) rfl (SG_nil (D_then (W_block ?_))))))));refine W_loop (α := Nat) (fun x => [(6, .int .i64 (x : Nat)), (2, .pointer (some ⟨b2, 0, none⟩)), (3, .pointer (some ⟨b3, 0, none⟩))]) (fun x w' => Below w.heap.size w w' ∧ x ≤ P.ops.length ∧ (∀ j : Nat, j < x → P.ops[j]? = Q.ops[j]?) ∧ Blk w' b2 [uC, uO, uR] 26 ∧ Blk w' b3 [vC, vO, vR] 26) (fun x => P.ops.length - x) (0) (by repeat (first | exact Sub.nil | refine Sub.cons rfl ?_)) ⟨hb0, Nat.zero_le _, (fun j h => by omega), hB2, hB3⟩ ?_;clear hb0;clear hB2;clear hB3;rintro x wl1 ⟨hb0, hxi, hno2, hB2, hB3⟩;refine W_seq (W_seq (W_region (SG_q (Rq_move rfl) rfl (SG_q (Rq_fieldAddr fa26_1 rfl) rfl (SG_q (Rq_loadB (hB2) Tryz.isAgg23 rfl rfl) rfl ?_)))))
   first | refine SG_q (Rq_len ((hu1).below hb0) Tryz.runUnderlying23 rfl) rfl ?_ | refine SG_q (Rq_len ((hu2).below hb0) Tryz.runUnderlying23 rfl) rfl ?_ | refine SG_q (Rq_len ((hu3).below hb0) Tryz.runUnderlying23 rfl) rfl ?_ | refine SG_q (Rq_len ((hv1).below hb0) Tryz.runUnderlying23 rfl) rfl ?_ | refine SG_q (Rq_len ((hv2).below hb0) Tryz.runUnderlying23 rfl) rfl ?_ | refine SG_q (Rq_len ((hv3).below hb0) Tryz.runUnderlying23 rfl) rfl ?_
   refine SG_q (Rq_lss rfl rfl) rfl (SG_nil (D_then ?_));refine W_cond rfl ?_ ?_
   ·intro g53
    try simp only [dd] at g53
    refine W_skip (D_then (W_seq (W_block (W_seq (W_quiet (Tryz.mixed) (by kernel_rfl) ?_)))));refine QS_q (Rq_fieldAddr fa26_1 rfl) rfl (QS_q (Rq_loadB (hB2) Tryz.isAgg23 rfl rfl) rfl (QS_q (Rq_move rfl) rfl ?_))
    first | refine QS_index ((hu1).below hb0) Tryz.runUnderlying23 Tryz.sizeOf76 rfl rfl ?_ ?_ rfl ?_ | refine QS_index ((hu2).below hb0) Tryz.runUnderlying23 Tryz.sizeOf76 rfl rfl ?_ ?_ rfl ?_ | refine QS_index ((hu3).below hb0) Tryz.runUnderlying23 Tryz.sizeOf76 rfl rfl ?_ ?_ rfl ?_ | refine QS_index ((hv1).below hb0) Tryz.runUnderlying23 Tryz.sizeOf76 rfl rfl ?_ ?_ rfl ?_ | refine QS_index ((hv2).below hb0) Tryz.runUnderlying23 Tryz.sizeOf76 rfl rfl ?_ ?_ rfl ?_ | refine QS_index ((hv3).below hb0) Tryz.runUnderlying23 Tryz.sizeOf76 rfl rfl ?_ ?_ rfl ?_
    ·omega
    ·omega
    intro x59 hx59 hc59;refine QS_q (Rq_loadA Tryz.isAgg76 Tryz.sizeOf76 rfl ((hc59)) rfl) rfl (QS_q (Rq_fieldAddr fa26_1 rfl) rfl (QS_q (Rq_loadB (hB3) Tryz.isAgg23 rfl rfl) rfl (QS_q (Rq_move rfl) rfl ?_)))
    first | refine QS_index ((hu1).below hb0) Tryz.runUnderlying23 Tryz.sizeOf76 rfl rfl ?_ ?_ rfl ?_ | refine QS_index ((hu2).below hb0) Tryz.runUnderlying23 Tryz.sizeOf76 rfl rfl ?_ ?_ rfl ?_ | refine QS_index ((hu3).below hb0) Tryz.runUnderlying23 Tryz.sizeOf76 rfl rfl ?_ ?_ rfl ?_ | refine QS_index ((hv1).below hb0) Tryz.runUnderlying23 Tryz.sizeOf76 rfl rfl ?_ ?_ rfl ?_ | refine QS_index ((hv2).below hb0) Tryz.runUnderlying23 Tryz.sizeOf76 rfl rfl ?_ ?_ rfl ?_ | refine QS_index ((hv3).below hb0) Tryz.runUnderlying23 Tryz.sizeOf76 rfl rfl ?_ ?_ rfl ?_
    ·omega
    ·omega
    intro x64 hx64 hc64;refine QS_q (Rq_loadA Tryz.isAgg76 Tryz.sizeOf76 rfl ((hc64)) rfl) rfl (QS_q (Rq_neqS (fun w => eq76 _ _ w) eg76 rfl rfl) rfl (QS_nil ?_));intro wr11 hbr11;replace hb0 := btr hb0 hbr11;replace hB2 := hB2.below hbr11;replace hB3 := hB3.below hbr11;refine D_then ?_;refine W_cond rfl ?_ ?_
    ·intro g66
     try simp only [dd] at g66
     refine W_seq (W_region (SG_q (Rq_assign rfl) rfl (SG_nil (D_then (W_ret (D_block_ret (D_then_ret (D_loop_ret ?_))))))));refine D_block_ret (D_then_ret (D_body1 rfl rfl rfl ?_));exact ⟨by rw [decide_eq_false (fun e => same_not hx59 hx64 (by simpa using g66) (by rw [e]))], hb0⟩
    ·intro g66
     try simp only [dd] at g66
     refine W_skip ?_;refine D_block ?_;refine D_then ?_;refine W_region ?_;refine SG_q (Rq_move rfl) rfl ?_;refine SG_q (Rq_add rfl rfl (wrap_i64 (by omega) (by omega))) rfl ?_;refine SG_q (Rq_assign rfl) rfl ?_;refine SG_nil ?_;refine D_loop (x + 1) (by repeat (first | exact Sub.nil | refine Sub.cons rfl ?_)) ⟨hb0, by omega, (fun j hj => by rcases Nat.lt_succ_iff_lt_or_eq.1 hj with h | rfl; exact hno2 j h; (rw [show P.ops[j]? = _ from hx59, show Q.ops[j]? = _ from hx64]; simpa using g66)), hB2, hB3⟩ (by omega)
   ·intro g53
    try simp only [dd] at g53
    refine W_exit (D_then_exit (D_loop_exit ?_));refine D_block_exit (D_then (W_seq (W_region (SG_q (Rq_assign rfl) rfl (SG_nil (D_then (W_ret (D_body1 rfl rfl rfl ?_))))))));have e1 := same_list hl1 (fun j hj => hno j (by omega));have e2 := same_list hl2 (fun j hj => hno2 j (by omega))
    have e3 : P = Q := by cases P; cases Q; simp_all
    exact ⟨by rw [decide_eq_true e3], hb0⟩
theorem f9_c {v : Value} {C : Co} {w : World} (hC : CoS w v C) : Pure Tryz.prog 9 #[v] w (.bool (decide (10 < C.ch.length ∨ 120 < C.ops.length ∨ 120 < C.roots.length))) := by
 obtain ⟨uC, uO, uR, rfl, hu1, hu2, hu3⟩ := hC.ex;have hb0 := Below.refl w.heap.size w;refine calls_of_W Tryz.func9 rfl Tryz.ntmps9 rfl ?_;refine W_seq (W_region (SG_box rfl rfl rfl ?_));intro w1 b1 e1 hb1 hz1 hB1
 have hle1 : w.heap.size ≤ b1 := by have := hb0.size; omega
 replace hb0 := btr hb0 hb1;refine SG_q (Rq_assign rfl) rfl (SG_nil (D_then (W_seq (W_region (SG_q (Rq_fieldAddr fa26_0 rfl) rfl (SG_q (Rq_loadB (hB1) Tryz.isAgg22 rfl rfl) rfl ?_))))))
 first | refine SG_q (Rq_len ((hu1).below hb0) Tryz.runUnderlying22 rfl) rfl ?_ | refine SG_q (Rq_len ((hu2).below hb0) Tryz.runUnderlying22 rfl) rfl ?_ | refine SG_q (Rq_len ((hu3).below hb0) Tryz.runUnderlying22 rfl) rfl ?_
 refine SG_q (Rq_gtr rfl rfl) rfl ?_;refine SG_q (Rq_move rfl) rfl ?_;refine SG_or (r := ?r7n1) 5 12 7 rfl ?_ ?_ ?_; rotate_left
 ·intro g7 K7
  have g7' := g7; try simp only [dd] at g7'
  have hm7 := Below.refl (w1).heap.size w1;refine SG_yes 7 rfl rfl g7 (SG_q (Rq_fieldAddr fa26_1 rfl) rfl (SG_yes 7 rfl rfl g7 (SG_q (Rq_loadB (hB1) Tryz.isAgg23 rfl rfl) rfl (SG_yes 7 rfl rfl g7 ?_))))
  first | refine SG_q (Rq_len ((hu1).below hb0) Tryz.runUnderlying23 rfl) rfl ?_ | refine SG_q (Rq_len ((hu2).below hb0) Tryz.runUnderlying23 rfl) rfl ?_ | refine SG_q (Rq_len ((hu3).below hb0) Tryz.runUnderlying23 rfl) rfl ?_
  refine SG_yes 7 rfl rfl g7 (SG_q (Rq_gtr rfl rfl) rfl (SG_q (Rq_pick rfl (fun h => absurd (g7.symm.trans h) (by decide)) (fun _ => rfl)) rfl ?_));exact K7 _ _ hm7 (by repeat (first | exact Sub.refl | refine Sub.shadow ?_ | refine Sub.same ?_ | refine Sub.push rfl ?_))
 ·intro g7 K7
  have g7' := g7; try simp only [dd] at g7'
  have hm7 := Below.refl (w1).heap.size w1;refine SG_no 7 rfl rfl g7 rfl (SG_no 7 rfl rfl g7 rfl (SG_no 7 rfl rfl g7 rfl (SG_no 7 rfl rfl g7 rfl (SG_q (Rq_pick rfl (fun _ => rfl) (fun h => absurd (g7.symm.trans h) (by decide))) rfl ?_))));exact K7 _ _ hm7 (by repeat (first | exact Sub.refl | refine Sub.shadow ?_ | refine Sub.same ?_ | refine Sub.push rfl ?_))
 intro wm7 hbm7;replace hb0 := btr hb0 hbm7;replace hB1 := hB1.below hbm7
 simp only [List.drop_succ_cons, List.drop_zero]
 refine SG_q (Rq_move rfl) rfl ?_;refine SG_or (r := ?r13n2) 5 18 13 rfl ?_ ?_ ?_; rotate_left
 ·intro g13 K13
  have g13' := g13; try simp only [dd] at g13'
  have hm13 := Below.refl (wm7).heap.size wm7;refine SG_yes 13 rfl rfl g13 (SG_q (Rq_fieldAddr fa26_2 rfl) rfl (SG_yes 13 rfl rfl g13 (SG_q (Rq_loadB (hB1) Tryz.isAgg24 rfl rfl) rfl (SG_yes 13 rfl rfl g13 ?_))))
  first | refine SG_q (Rq_len ((hu1).below hb0) Tryz.runUnderlying24 rfl) rfl ?_ | refine SG_q (Rq_len ((hu2).below hb0) Tryz.runUnderlying24 rfl) rfl ?_ | refine SG_q (Rq_len ((hu3).below hb0) Tryz.runUnderlying24 rfl) rfl ?_
  refine SG_yes 13 rfl rfl g13 (SG_q (Rq_gtr rfl rfl) rfl (SG_q (Rq_pick rfl (fun h => absurd (g13.symm.trans h) (by decide)) (fun _ => rfl)) rfl ?_));exact K13 _ _ hm13 (by repeat (first | exact Sub.refl | refine Sub.shadow ?_ | refine Sub.same ?_ | refine Sub.push rfl ?_))
 ·intro g13 K13
  have g13' := g13; try simp only [dd] at g13'
  have hm13 := Below.refl (wm7).heap.size wm7;refine SG_no 13 rfl rfl g13 rfl (SG_no 13 rfl rfl g13 rfl (SG_no 13 rfl rfl g13 rfl (SG_no 13 rfl rfl g13 rfl (SG_q (Rq_pick rfl (fun _ => rfl) (fun h => absurd (g13.symm.trans h) (by decide))) rfl ?_))));exact K13 _ _ hm13 (by repeat (first | exact Sub.refl | refine Sub.shadow ?_ | refine Sub.same ?_ | refine Sub.push rfl ?_))
 intro wm13 hbm13;replace hb0 := btr hb0 hbm13
 simp only [List.drop_succ_cons, List.drop_zero]
 refine SG_q (Rq_assign rfl) rfl ?_;refine SG_nil ?_;refine D_then ?_;refine W_ret ?_;refine D_body1 rfl rfl rfl ?_;exact ⟨by congr 2; rw [Bool.eq_iff_iff]; simp; omega, hb0⟩
theorem f37_c (n : Int) (w : World) : Pure Tryz.prog 37 #[.int .i64 n] w (valO ⟨1, 0, 0, 0, n⟩) := by
 have hb0 := Below.refl w.heap.size w;refine calls_of_W Tryz.func37 rfl Tryz.ntmps37 rfl ?_;refine W_seq (W_region (SG_alloc Tryz.zeroValue76 rfl rfl ?_));intro w2 b2 e2 hb2 hz2 hB2
 have hle2 : w.heap.size ≤ b2 := by have := hb0.size; omega
 replace hb0 := btr hb0 hb2;refine SG_nil (D_then (W_seq (W_region (SG_q (Rq_move rfl) rfl (SG_q (Rq_build2 build76_0_4 rfl rfl rfl rfl ) rfl (SG_storeW (hB2) rfl rfl rfl rfl Tryz.sizeOf76 rfl rfl ?_))))));intro ws1x2 hchs1x2 hBs1x2;replace hb0 := bchg hb0 hchs1x2 hle2;clear hB2;refine SG_nil (D_then (W_ret (D_bodyR1 rfl rfl (.cellW rfl (hBs1x2) Tryz.isAgg76 Tryz.sizeOf76 rfl) ?_)));exact ⟨rfl, hb0⟩
theorem f39_c (n : Int) (w : World) : Pure Tryz.prog 39 #[.int .i64 n] w (valO ⟨3, 0, 0, 0, n⟩) := by
 have hb0 := Below.refl w.heap.size w;refine calls_of_W Tryz.func39 rfl Tryz.ntmps39 rfl ?_;refine W_seq (W_region (SG_alloc Tryz.zeroValue76 rfl rfl ?_));intro w2 b2 e2 hb2 hz2 hB2
 have hle2 : w.heap.size ≤ b2 := by have := hb0.size; omega
 replace hb0 := btr hb0 hb2;refine SG_nil (D_then (W_seq (W_region (SG_q (Rq_move rfl) rfl (SG_q (Rq_build2 build76_0_4 rfl rfl rfl rfl ) rfl (SG_storeW (hB2) rfl rfl rfl rfl Tryz.sizeOf76 rfl rfl ?_))))));intro ws1x2 hchs1x2 hBs1x2;replace hb0 := bchg hb0 hchs1x2 hle2;clear hB2;refine SG_nil (D_then (W_ret (D_bodyR1 rfl rfl (.cellW rfl (hBs1x2) Tryz.isAgg76 Tryz.sizeOf76 rfl) ?_)));exact ⟨rfl, hb0⟩
theorem f38_c (c a b : Int) (w : World) : Pure Tryz.prog 38 #[.int .u8 c, .int .i64 a, .int .i64 b] w (valO ⟨c, a, b, 0, 0⟩) := by
 have hb0 := Below.refl w.heap.size w;refine calls_of_W Tryz.func38 rfl Tryz.ntmps38 rfl ?_;refine W_seq (W_region (SG_alloc Tryz.zeroValue76 rfl rfl ?_));intro w6 b6 e6 hb6 hz6 hB6
 have hle6 : w.heap.size ≤ b6 := by have := hb0.size; omega
 replace hb0 := btr hb0 hb6;refine SG_nil (D_then (W_seq (W_region (SG_q (Rq_move rfl) rfl (SG_q (Rq_move rfl) rfl (SG_q (Rq_move rfl) rfl (SG_q (Rq_build3 build76_0_1_2 rfl rfl rfl rfl rfl rfl ) rfl (SG_storeW (hB6) rfl rfl rfl rfl Tryz.sizeOf76 rfl rfl ?_))))))));intro ws1x4 hchs1x4 hBs1x4;replace hb0 := bchg hb0 hchs1x4 hle6;clear hB6;refine SG_nil (D_then (W_ret (D_bodyR1 rfl rfl (.cellW rfl (hBs1x4) Tryz.isAgg76 Tryz.sizeOf76 rfl) ?_)));exact ⟨rfl, hb0⟩
theorem f36_c {v : Value} {xs : List Ot} {w : World} (hO : SL w v 5 encO xs) (hl : xs.length ≤ 100000) : Mi.Fn Tryz.prog 36 #[v] w fun u w' => CoS w' u (ofR xs) := by
 obtain ⟨av, cv, hv⟩ := hO.len;subst hv;have hb0 := Below.refl w.heap.size w;refine calls_of_W Tryz.func36 rfl Tryz.ntmps36 rfl ?_;refine W_seq (W_region (SG_alloc Tryz.zeroValue26 rfl rfl ?_));intro w2 b2 e2 hb2 hz2 hB2
 have hle2 : w.heap.size ≤ b2 := by have := hb0.size; omega
 replace hb0 := btr hb0 hb2;refine SG_nil (D_then (W_seq (W_region (SG_q (Rq_build3 build84_0_1_2 rfl rfl rfl rfl rfl rfl ) rfl (SG_bslice (enc := encC) (val := valC) (os := [.tmp 3]) rfl rfl (MV.cons (x := dCh) MV.nil) (fun _ => rfl) (fun _ => rfl) Tryz.runUnderlying22 Tryz.sizeOf84 Tryz.zeroValue84 rfl (by decide) (by decide) rfl ?_)))));intro w4 v4 b4 e4 hb4 hz4 hob4 hO4
 have hle4 : w.heap.size ≤ b4 := by have := hb0.size; omega
 have lt_b2_4 : b2 < b4 := by have := hB2.lt; omega
 replace hb0 := btr hb0 hb4;replace hB2 := hB2.below hb4;refine SG_q (Rq_move rfl) rfl (SG_q (Rq_move rfl) rfl ?_)
 first | refine SG_q (Rq_len ((hO).below hb0) Tryz.runUnderlying23 rfl) rfl ?_ | refine SG_q (Rq_len (hO4.sl) Tryz.runUnderlying23 rfl) rfl ?_
 refine SG_q (Rq_sub rfl rfl (wrap_i64 (by omega) (by omega))) rfl (SG_bslice (enc := encI) (val := valI) (os := [.tmp 8]) rfl rfl (MV.cons (x := (xs.length : Int) - 1) MV.nil) (fun _ => rfl) (fun _ => rfl) Tryz.runUnderlying24 Tryz.sizeOf3 Tryz.zeroValue3 rfl (by decide) (by decide) rfl ?_);intro w9 v9 b9 e9 hb9 hz9 hob9 hO9
 have hle9 : w.heap.size ≤ b9 := by have := hb0.size; omega
 have lt_b2_9 : b2 < b9 := by have := hB2.lt; omega
 replace hb0 := btr hb0 hb9;replace hB2 := hB2.below hb9;replace hO4 := hO4.below hb9;have ne_hO4_b2 := hz2;have ne_hO9_b2 := hz2;have hq4 := hb4.size
 obtain ⟨a_v4, n_v4, c_v4, h_v4⟩ : ∃ a n c, v4 = Value.slice a n c := by obtain ⟨a, c, h⟩ := (hO4.sl).len; exact ⟨_, _, _, h⟩
 subst h_v4
 obtain ⟨a_v9, n_v9, c_v9, h_v9⟩ : ∃ a n c, v9 = Value.slice a n c := by obtain ⟨a, c, h⟩ := (hO9.sl).len; exact ⟨_, _, _, h⟩
 subst h_v9;refine SG_q (Rq_build3 build26_0_1_2 rfl rfl rfl rfl rfl rfl) rfl ?_;refine SG_storeW (hB2) rfl rfl rfl rfl Tryz.sizeOf26 rfl rfl ?_;intro ws1x8 hchs1x8 hBs1x8;replace hb0 := bchg hb0 hchs1x8 hle2;replace hO4 := hO4.chg hchs1x8 (fun k e e2 => by first | exact ne_hO4_b2 k e e2 | (have := hO4.lt e; have := ne_hO4_b2; omega));replace hO9 := hO9.chg hchs1x8 (fun k e e2 => by first | exact ne_hO9_b2 k e e2 | (have := hO9.lt e; have := ne_hO9_b2; omega));clear hB2;refine SG_nil ?_;refine D_then ?_;refine W_ret ?_;refine D_bodyR1 rfl rfl (.cellW rfl (hBs1x8) Tryz.isAgg26 Tryz.sizeOf26 rfl) ?_;exact ⟨_, rfl, hb0, _, _, _, rfl, hO4.sl, hO.below hb0, hO9.sl⟩
end Go.Proofs.YtphmoebiobjfhaaGreat
