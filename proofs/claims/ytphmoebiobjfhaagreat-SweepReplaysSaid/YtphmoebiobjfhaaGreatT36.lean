/- Walks of functions, printed by a program of the author. -/
import Derived.Test.YtphmoebiobjfhaaGreatT35
set_option linter.all false
namespace Go.Proofs.YtphmoebiobjfhaaGreat
open Go Go.Mi Go.RowKit
theorem f17_c {u v : Value} {xs ys : List Rw} {w : World} (hu : SL w u 2 encR xs) (hv : SL w v 2 encR ys) (hl : xs.length ≤ 100000000) : Pure Tryz.prog 17 #[u, v] w (.bool (decide (xs = ys))) := by
 have hb0 := Below.refl w.heap.size w;refine calls_of_W Tryz.func17 rfl Tryz.ntmps17 rfl ?_;refine W_seq (W_region (SG_q (Rq_assign rfl) rfl (SG_nil (D_then (W_seq (W_seq (W_region (SG_q (Rq_move rfl) rfl ?_))))))))
 first | refine SG_q (Rq_len (hu) Tryz.runUnderlying30 rfl) rfl ?_ | refine SG_q (Rq_len (hv) Tryz.runUnderlying30 rfl) rfl ?_
 refine SG_q (Rq_move rfl) rfl ?_
 first | refine SG_q (Rq_len (hu) Tryz.runUnderlying30 rfl) rfl ?_ | refine SG_q (Rq_len (hv) Tryz.runUnderlying30 rfl) rfl ?_
 refine SG_q (Rq_neq rfl rfl) rfl (SG_nil (D_then ?_));refine W_cond rfl ?_ ?_
 ·intro g10
  try simp only [dd] at g10
  refine W_seq ?_;refine W_region ?_;refine SG_q (Rq_assign rfl) rfl ?_;refine SG_nil ?_;refine D_then ?_;refine W_ret ?_;refine D_then_ret ?_;refine D_body1 rfl rfl rfl ?_;exact ⟨by rw [decide_eq_false (fun e => by subst e; simp at g10)], hb0⟩
 ·intro g10
  try simp only [dd] at g10
  have hle : xs.length = ys.length := by omega
  refine W_skip (D_then (W_seq (W_seq (W_region (SG_q (Rq_assign rfl) rfl (SG_nil (D_then (W_block ?_))))))));refine W_loop (α := Nat) (fun x => [(5, .int .i64 (x : Nat)), (0, u), (1, v)]) (fun x w' => Below w.heap.size w w' ∧ x ≤ xs.length ∧ (∀ j : Nat, j < x → xs[j]? = ys[j]?) ∧ SL w' u 2 encR xs ∧ SL w' v 2 encR ys) (fun x => xs.length - x) (0) (by repeat (first | exact Sub.nil | refine Sub.cons rfl ?_)) ⟨hb0, Nat.zero_le _, (fun j h => by omega), hu, hv⟩ ?_;clear hb0;clear hu;clear hv;rintro x wl0 ⟨hb0, hxi, hno, hu, hv⟩;refine W_seq (W_seq (W_region (SG_q (Rq_move rfl) rfl (SG_q (Rq_move rfl) rfl ?_))))
  first | refine SG_q (Rq_len (hu) Tryz.runUnderlying30 rfl) rfl ?_ | refine SG_q (Rq_len (hv) Tryz.runUnderlying30 rfl) rfl ?_
  refine SG_q (Rq_lss rfl rfl) rfl (SG_nil (D_then ?_));refine W_cond rfl ?_ ?_
  ·intro g14
   try simp only [dd] at g14
   refine W_skip (D_then (W_seq (W_block (W_seq (W_quiet (Tryz.mixed) (by kernel_rfl) ?_)))));refine QS_q (Rq_move rfl) rfl (QS_q (Rq_move rfl) rfl ?_)
   first | refine QS_index (hu) Tryz.runUnderlying30 Tryz.sizeOf45 rfl rfl ?_ ?_ rfl ?_ | refine QS_index (hv) Tryz.runUnderlying30 Tryz.sizeOf45 rfl rfl ?_ ?_ rfl ?_
   ·omega
   ·omega
   intro x19 hx19 hc19;refine QS_q (Rq_loadA Tryz.isAgg45 Tryz.sizeOf45 rfl ((hc19)) rfl) rfl (QS_q (Rq_move rfl) rfl (QS_q (Rq_move rfl) rfl ?_))
   first | refine QS_index (hu) Tryz.runUnderlying30 Tryz.sizeOf45 rfl rfl ?_ ?_ rfl ?_ | refine QS_index (hv) Tryz.runUnderlying30 Tryz.sizeOf45 rfl rfl ?_ ?_ rfl ?_
   ·omega
   ·omega
   intro x23 hx23 hc23;refine QS_q (Rq_loadA Tryz.isAgg45 Tryz.sizeOf45 rfl ((hc23)) rfl) rfl (QS_q (Rq_neqS (fun w => eq45 _ _ w) eg45 rfl rfl) rfl (QS_nil ?_));intro wr6 hbr6;replace hb0 := btr hb0 hbr6;replace hu := hu.below hbr6;replace hv := hv.below hbr6;refine D_then ?_;refine W_cond rfl ?_ ?_
   ·intro g25
    try simp only [dd] at g25
    refine W_seq (W_region (SG_q (Rq_assign rfl) rfl (SG_nil (D_then (W_ret (D_block_ret (D_then_ret (D_loop_ret ?_))))))));refine D_block_ret (D_then_ret (D_body1 rfl rfl rfl ?_));exact ⟨by rw [decide_eq_false (fun e => same_not hx19 hx23 (by simpa using g25) (by rw [e]))], hb0⟩
   ·intro g25
    try simp only [dd] at g25
    refine W_skip ?_;refine D_block ?_;refine D_then ?_;refine W_region ?_;refine SG_q (Rq_move rfl) rfl ?_;refine SG_q (Rq_add rfl rfl (wrap_i64 (by omega) (by omega))) rfl ?_;refine SG_q (Rq_assign rfl) rfl ?_;refine SG_nil ?_;refine D_loop (x + 1) (by repeat (first | exact Sub.nil | refine Sub.cons rfl ?_)) ⟨hb0, by omega, (fun j hj => by rcases Nat.lt_succ_iff_lt_or_eq.1 hj with h | rfl; exact hno j h; (rw [show xs[j]? = _ from hx19, show ys[j]? = _ from hx23]; simpa using g25)), hu, hv⟩ (by omega)
  ·intro g14
   try simp only [dd] at g14
   refine W_exit (D_then_exit (D_loop_exit ?_));refine D_block_exit (D_then (W_seq (W_region (SG_q (Rq_assign rfl) rfl (SG_nil (D_then (W_ret (D_body1 rfl rfl rfl ?_))))))));exact ⟨by rw [decide_eq_true (same_list hle (fun j hj => hno j (by omega)))], hb0⟩
end Go.Proofs.YtphmoebiobjfhaaGreat
