/- Walks of functions, printed by a program of the author. -/
import Derived.Test.YtphmoebiobjfhaaGreatT32
set_option linter.all false
namespace Go.Proofs.YtphmoebiobjfhaaGreat
open Go Go.Mi Go.RowKit
theorem f23_c {v : Value} {C : Co} {w : World} (hC : CoS w v C) (hck : checkR C = 0) {fi : Int} {f : Nat} (hf : fi = (f : Int)) (hf2 : f ≤ 100000) : Mi.Pure Tryz.prog 23 #[v, .int .i64 fi] w (.tuple #[valR ((nextF C f).getD rw0), .bool (nextF C f).isSome]) := by
 obtain ⟨uC, uO, uR, rfl, hu1, hu2, hu3⟩ := hC.ex;have hlo1 := hu1.lt; have hlo2 := hu2.lt; have hlo3 := hu3.lt;have hlen := (check_ok hck).1;subst hf;have hb0 := Below.refl w.heap.size w;refine calls_of_W Tryz.func23 rfl Tryz.ntmps23 rfl ?_;refine W_seq (W_region (SG_box rfl rfl rfl ?_));intro w2 b2 e2 hb2 hz2 hB2
 have hle2 : w.heap.size ≤ b2 := by have := hb0.size; omega
 replace hb0 := btr hb0 hb2;replace hu1 := hu1.below hb2;replace hu2 := hu2.below hb2;replace hu3 := hu3.below hb2;refine SG_alloc Tryz.zeroValue45 rfl rfl ?_;intro w4 b4 e4 hb4 hz4 hB4
 have hle4 : w.heap.size ≤ b4 := by have := hb0.size; omega
 have ne_b2_4 : ¬ b2 = b4 := by have := hB2.lt; omega
 replace hb0 := btr hb0 hb4;replace hu1 := hu1.below hb4;replace hu2 := hu2.below hb4;replace hu3 := hu3.below hb4;replace hB2 := hB2.below hb4;refine SG_q (Rq_assign rfl) rfl (SG_nil (D_then (W_seq (W_seq (W_region (SG_q (Rq_move rfl) rfl (SG_q (Rq_assign rfl) rfl (SG_nil (D_then (W_block ?_))))))))));refine W_loop (α := Nat) (fun x => [(6, .int .i64 (x : Nat)), (2, .pointer (some ⟨b2, 0, none⟩)), (4, .pointer (some ⟨b4, 0, none⟩))]) (fun x w' => Below w.heap.size w w' ∧ f ≤ x ∧ x ≤ 100000 ∧ (∀ j : Nat, f ≤ j → j < x → rulesC C j = []) ∧ Blk w' b2 [uC, uO, uR] 26 ∧ Blk w' b4 [.int .u8 0, .int .i64 0] 45 ∧ SL w' uC 3 encC C.ch ∧ SL w' uO 5 encO C.ops ∧ SL w' uR 1 encI C.roots) (fun x => C.ops.length - x) (f) (by repeat (first | exact Sub.nil | refine Sub.cons rfl ?_)) ⟨hb0, Nat.le_refl _, hf2, (fun j h h2 => by omega), hB2, hB4, hu1, hu2, hu3⟩ ?_;clear hb0;clear hu1;clear hu2;clear hu3;clear hB2;clear hB4;rintro x wl0 ⟨hb0, hfx, hx9, hno, hB2, hB4, hu1, hu2, hu3⟩;refine W_seq (W_seq (W_region (SG_q (Rq_move rfl) rfl (SG_q (Rq_fieldAddr fa26_1 rfl) rfl (SG_q (Rq_loadB (hB2) Tryz.isAgg23 rfl rfl) rfl ?_)))))
 first | refine SG_q (Rq_len (hu1) Tryz.runUnderlying23 rfl) rfl ?_ | refine SG_q (Rq_len (hu2) Tryz.runUnderlying23 rfl) rfl ?_ | refine SG_q (Rq_len (hu3) Tryz.runUnderlying23 rfl) rfl ?_
 refine SG_q (Rq_lss rfl rfl) rfl (SG_nil (D_then ?_));refine W_cond rfl ?_ ?_
 ·intro g13
  try simp only [dd] at g13
  have hz4 := hB4.lt
  have hxl : x < C.ops.length := by omega
  refine W_skip (D_then (W_seq (W_block (W_seq (W_region ?_)))))
  first | refine SG_q (Rq_loadBW (hB2) Tryz.isAgg26 Tryz.sizeOf26 rfl rfl) rfl ?_ | refine SG_q (Rq_loadBA (hB2) Tryz.isAgg26 Tryz.sizeOf26 rfl rfl rfl) rfl ?_
  refine SG_q (Rq_move rfl) rfl (SG_call rfl Tryz.call28 rfl (f28_c (⟨⟨_, _, _, rfl, (hu1), (hu2), (hu3)⟩⟩ : CoS _ _ C) hck hxl) ?_);rintro v18 w18 hb18 ⟨hW, _⟩;replace hb0 := btr hb0 hb18;replace hB2 := hB2.below hb18;replace hB4 := hB4.below hb18;replace hu1 := hu1.below hb18;replace hu2 := hu2.below hb18;replace hu3 := hu3.below hb18
  have ne_hW_b4 : 0 < (rulesC C (x : Int)).length → ¬ sb v18 = b4 := fun hp e => by have := (hW.lt (sb_own hW.sl hp)).1; omega
  replace hW := hW.sl;refine SG_q (Rq_assign rfl) rfl (SG_nil (D_then (W_seq (W_region (SG_q (Rq_move rfl) rfl ?_)))))
  first | refine SG_q (Rq_len (hu1) Tryz.runUnderlying57 rfl) rfl ?_ | refine SG_q (Rq_len (hu2) Tryz.runUnderlying57 rfl) rfl ?_ | refine SG_q (Rq_len (hu3) Tryz.runUnderlying57 rfl) rfl ?_ | refine SG_q (Rq_len (hW) Tryz.runUnderlying57 rfl) rfl ?_
  refine SG_q (Rq_gtr rfl rfl) rfl (SG_nil (D_then ?_));refine W_cond rfl ?_ ?_
  ·intro g21
   try simp only [dd] at g21
   obtain ⟨r, post, hr⟩ : ∃ r post, rulesC C (x : Int) = r :: post := by cases h9 : rulesC C (x : Int) with | nil => (rw [h9] at g21; simp at g21) | cons r post => exact ⟨r, post, rfl⟩
   have hhd : (rulesC C (x : Int))[0]? = some r := by rw [hr]; rfl
   refine W_seq (W_region (SG_q (Rq_move rfl) rfl ?_))
   first | refine SG_index (hu1) Tryz.runUnderlying57 Tryz.sizeOf5 rfl rfl ?_ ?_ rfl ?_ | refine SG_index (hu2) Tryz.runUnderlying57 Tryz.sizeOf5 rfl rfl ?_ ?_ rfl ?_ | refine SG_index (hu3) Tryz.runUnderlying57 Tryz.sizeOf5 rfl rfl ?_ ?_ rfl ?_ | refine SG_index (hW) Tryz.runUnderlying57 Tryz.sizeOf5 rfl rfl ?_ ?_ rfl ?_
   ·omega
   ·omega
   intro x23 hx23 hc23;have ex23 := Option.some.inj ((hhd).symm.trans hx23); subst ex23;refine SG_q (Rq_load Tryz.isAgg5 rfl ((hc23).cell 0 rfl)) rfl ?_;refine SG_q (Rq_move rfl) rfl ?_;refine SG_q (Rq_build2 build45_0_1 rfl rfl rfl rfl ) rfl ?_;refine SG_storeW (hB4) rfl rfl rfl rfl Tryz.sizeOf45 rfl rfl ?_;intro ws6x5 hchs6x5 hBs6x5;replace hb0 := bchg hb0 hchs6x5 hle4;clear hc23;clear hB4;refine SG_q (Rq_assign rfl) rfl ?_;refine SG_nil ?_;refine D_then ?_;refine W_ret ?_;refine D_block_ret ?_;refine D_then_ret ?_;refine D_loop_ret ?_;refine D_block_ret ?_;refine D_then_ret ?_;refine D_bodyR2 rfl rfl (.cellW rfl (hBs6x5) Tryz.isAgg45 Tryz.sizeOf45 rfl) (.tmp rfl) ?_;exact ⟨by rw [nextF_at hfx hxl hno hr]; rfl, hb0⟩
  ·intro g21
   try simp only [dd] at g21
   have hnil : rulesC C (x : Int) = [] := List.length_eq_zero_iff.1 (by omega);refine W_skip ?_;refine D_block ?_;refine D_then ?_;refine W_region ?_;refine SG_q (Rq_move rfl) rfl ?_;refine SG_q (Rq_add rfl rfl (wrap_i64 (by omega) (by omega))) rfl ?_;refine SG_q (Rq_assign rfl) rfl ?_;refine SG_nil ?_;refine D_loop (x + 1) (by repeat (first | exact Sub.nil | refine Sub.cons rfl ?_)) ⟨hb0, by omega, by omega, (fun j h hj => by rcases Nat.lt_succ_iff_lt_or_eq.1 hj with h2 | rfl; exact hno j h h2; exact hnil), hB2, hB4, hu1, hu2, hu3⟩ (by omega)
 ·intro g13
  try simp only [dd] at g13
  refine W_exit ?_;refine D_then_exit ?_;refine D_loop_exit ?_;refine D_block_exit ?_;refine D_then ?_;refine W_seq ?_;refine W_region ?_;refine SG_q (Rq_build0 build45_) rfl ?_;refine SG_storeW (hB4) rfl rfl rfl rfl Tryz.sizeOf45 rfl rfl ?_;intro ws7x1 hchs7x1 hBs7x1;replace hb0 := bchg hb0 hchs7x1 hle4;clear hB4;refine SG_q (Rq_assign rfl) rfl ?_;refine SG_nil ?_;refine D_then ?_;refine W_ret ?_;refine D_bodyR2 rfl rfl (.cellW rfl (hBs7x1) Tryz.isAgg45 Tryz.sizeOf45 rfl) (.tmp rfl) ?_;exact ⟨by rw [nextF_no (fun j h1 h2 => hno j h1 (by omega))]; rfl, hb0⟩
end Go.Proofs.YtphmoebiobjfhaaGreat
