/- Walks of functions, printed by a program of the author. -/
import Derived.Test.YtphmoebiobjfhaaGreatT30
set_option linter.all false
namespace Go.Proofs.YtphmoebiobjfhaaGreat
open Go Go.Mi Go.RowKit
theorem fa95_0 (w : World) (a : Addr) : (Instr.fieldAt 95 (.pointer (some a)) 0).run Tryz.prog w = .ok (.pointer (some (a.add 0))) w := by kernel_rfl
theorem fa95_1 (w : World) (a : Addr) : (Instr.fieldAt 95 (.pointer (some a)) 1).run Tryz.prog w = .ok (.pointer (some (a.add 1))) w := by kernel_rfl
theorem f51_c (n i t : Int) (w : World) : Pure Tryz.prog 51 #[.int .i64 n, .int .i64 i, .int .i64 t] w (.int .i64 (turnI i t n)) := by
 have hb0 := Below.refl w.heap.size w;refine calls_of_W Tryz.func51 rfl Tryz.ntmps51 rfl ?_;refine W_seq (W_region (SG_q (Rq_assign rfl) rfl (SG_nil (D_then (W_seq (W_seq (W_region (SG_q (Rq_move rfl) rfl (SG_q (Rq_move rfl) rfl (SG_q (Rq_eql rfl rfl) rfl (SG_nil (D_then ?_))))))))))));refine W_cond rfl ?_ ?_
 ·intro g9
  try simp only [dd] at g9
  refine W_seq (W_region (SG_q (Rq_move rfl) rfl (SG_q (Rq_assign rfl) rfl (SG_nil (D_then (W_ret (D_then_ret (D_body1 rfl rfl rfl ?_))))))));exact ⟨by rw [turnI, if_pos (by omega)], hb0⟩
 ·intro g9
  try simp only [dd] at g9
  refine W_skip (D_then (W_seq (W_region (SG_q (Rq_move rfl) rfl (SG_q (Rq_assign rfl) rfl (SG_nil (D_then (W_ret (D_body1 rfl rfl rfl ?_)))))))));exact ⟨by rw [turnI, if_neg (by omega)], hb0⟩
set_option maxHeartbeats 2000000 in
theorem f24_c {v : Value} {C : Co} {w : World} (hC : CoS w v C) (hck : checkR C = 0) (rr : Int) {o : Nat} (ho : o < C.ops.length) : Mi.Fn Tryz.prog 24 #[v, valR ⟨rr, (o : Int)⟩] w fun u w' => ApR 84 76 3 w.heap.size C ⟨rr, (o : Int)⟩ u w' := by
 obtain ⟨uC, uO, uR, rfl, hu1, hu2, hu3⟩ := hC.ex;have hlo1 := hu1.lt; have hlo2 := hu2.lt; have hlo3 := hu3.lt;have hlen := (check_ok hck).1
 have h0 : (0 : Int) ≤ (o : Int) := by omega
 have h1 : (o : Int) < C.ops.length := by omega
 have hxo := getO_some h0 h1;have hb0 := Below.refl w.heap.size w;refine calls_of_W Tryz.func24 rfl Tryz.ntmps24 rfl ?_;refine W_seq (W_region (SG_box rfl rfl rfl ?_));intro w2 b2 e2 hb2 hz2 hB2
 have hle2 : w.heap.size ≤ b2 := by have := hb0.size; omega
 replace hb0 := btr hb0 hb2;replace hu1 := hu1.below hb2;replace hu2 := hu2.below hb2;replace hu3 := hu3.below hb2;refine SG_box rfl rfl rfl ?_;intro w3 b3 e3 hb3 hz3 hB3
 have hle3 : w.heap.size ≤ b3 := by have := hb0.size; omega
 have ne_b2_3 : ¬ b2 = b3 := by have := hB2.lt; omega
 replace hb0 := btr hb0 hb3;replace hu1 := hu1.below hb3;replace hu2 := hu2.below hb3;replace hu3 := hu3.below hb3;replace hB2 := hB2.below hb3;refine SG_alloc Tryz.zeroValue26 rfl rfl ?_;intro w4 b4 e4 hb4 hz4 hB4
 have hle4 : w.heap.size ≤ b4 := by have := hb0.size; omega
 have ne_b2_4 : ¬ b2 = b4 := by have := hB2.lt; omega
 have ne_b3_4 : ¬ b3 = b4 := by have := hB3.lt; omega
 replace hb0 := btr hb0 hb4;replace hu1 := hu1.below hb4;replace hu2 := hu2.below hb4;replace hu3 := hu3.below hb4;replace hB2 := hB2.below hb4;replace hB3 := hB3.below hb4;refine SG_q (Rq_assign rfl) rfl (SG_nil (D_then (W_seq (W_seq (W_region ?_)))))
 first | refine SG_q (Rq_loadBW (hB2) Tryz.isAgg26 Tryz.sizeOf26 rfl rfl) rfl ?_ | refine SG_q (Rq_loadBA (hB2) Tryz.isAgg26 Tryz.sizeOf26 rfl rfl rfl) rfl ?_
 refine SG_q (Rq_fieldAddr fa45_1 rfl) rfl (SG_q (Rq_loadB (hB3) Tryz.isAgg3 rfl rfl) rfl (SG_pure rfl Tryz.call49 rfl (f49_c (⟨⟨_, _, _, rfl, (hu1), (hu2), (hu3)⟩⟩ : CoS _ _ C) hck ho) ?_));intro w16 hb16;replace hb0 := btr hb0 hb16;replace hu1 := hu1.below hb16;replace hu2 := hu2.below hb16;replace hu3 := hu3.below hb16;replace hB2 := hB2.below hb16;replace hB3 := hB3.below hb16;replace hB4 := hB4.below hb16;refine SG_q (Rq_not rfl) rfl (SG_nil (D_then ?_));refine W_cond rfl ?_ ?_
 ·intro g17
  try simp only [dd] at g17
  have hus : usedB C (o : Int) = false := by simpa using g17
  have hap : (atC C rr (o : Int)).ap = false := at_unused hck h0 h1 hus;refine W_seq ?_;refine W_region ?_;refine SG_q (Rq_build0 build26_) rfl ?_;refine SG_storeW (hB4) rfl rfl rfl rfl Tryz.sizeOf26 rfl rfl ?_;intro ws2x1 hchs2x1 hBs2x1;replace hb0 := bchg hb0 hchs2x1 hle4;clear hB4;refine SG_q (Rq_assign rfl) rfl ?_;refine SG_nil ?_;refine D_then ?_;refine W_ret ?_;refine D_then_ret ?_;refine D_bodyR2 rfl rfl (.cellW rfl (hBs2x1) Tryz.isAgg26 Tryz.sizeOf26 rfl) (.tmp rfl) ?_;exact ⟨_, rfl, hb0, _, by rw [hap], by unfold apC; dsimp only; rw [if_neg (by rw [hap]; decide)]; exact CoW.no⟩
 ·intro g17
  try simp only [dd] at g17
  have hus : usedB C (o : Int) = true := by simpa using g17
  refine W_skip ?_;refine D_then ?_;refine W_seq ?_;have hz4 := hB4.lt; have hz3 := hB3.lt; have hz2 := hB2.lt;refine W_anyG 13 [[], [], [1], [], [3], [], [5], [0, 2, 4, 6], [7], [8], [8], [], [11, 9]] (List.replicate 1 (FrE w16.heap.size 95 6)) (fun w9 => Below w16.heap.size w16 w9) [gdet [] ?a3_0n1, gdet [] ?a3_1n1, gfrs [1] (fun v w _ _ => OS w v 4 1 encB (truthsR C.ops) 0), gdet [] ?a3_3n1, gdet [3] ?a3_4n1, gdet [] ?a3_5n1, gdet [5] ?a3_6n1, gdet [0, 2, 4, 6] ?a3_7n1, gdet [7] ?a3_8n1, gdet [8] ?a3_9n1, gdet [8] ?a3_10n1, gfrs [] (AllocL w16.heap.size 95 6), gsv 0 [11, 9] (StRf 95 (fun _ => encD (tryR C.ops (truthsR C.ops) rr (o : Int)))) StV] Tryz.mixed (by kernel_rfl) (by kernel_rfl) rfl rfl (fr_ok rfl) (fs_stab (tg := [11]) rfl (by decide) ⟨.det, .det, .val (fun _ _ _ _ _ hc h => OS.frR (by decide) h hc), .det, .det, .det, .det, .det, .det, .det, .det, .frs, .sv rfl rfl, trivial⟩) (Below.refl _ _) (fun h => h.drew) ?_ ?_; rotate_left 10
  ·refine GObls_cons ?_ ?_
   ·intro wq hq hzq
    refine GObl_nil ?_
    first | (refine GEx_q2 (Rq_loadBW ((hB2).below hq) Tryz.isAgg26 Tryz.sizeOf26 rfl rfl) ?_; first | exact rfl | rfl) | (refine GEx_q2 (Rq_loadBA ((hB2).below hq) Tryz.isAgg26 Tryz.sizeOf26 rfl rfl rfl) ?_; first | exact rfl | rfl)
   refine GObls_cons ?_ ?_
   ·intro wq hq hzq
    refine GObl_nil ?_
    first | (refine GEx_q2 (Rq_loadBW ((hB2).below hq) Tryz.isAgg26 Tryz.sizeOf26 rfl rfl) ?_; first | exact rfl | rfl) | (refine GEx_q2 (Rq_loadBA ((hB2).below hq) Tryz.isAgg26 Tryz.sizeOf26 rfl rfl rfl) ?_; first | exact rfl | rfl)
   refine GObls_cons ?_ ?_
   ·intro wq hq hzq
    refine GObl_det rfl rfl rfl (GObl_nil ?_);exact GEx.of (Ex_call rfl Tryz.call27 (Fn.mono (f27_c (⟨⟨_, _, _, rfl, hu1.below hq, hu2.below hq, hu3.below hq⟩⟩ : CoS _ _ C) hck) fun v w' hb h => h.le (Nat.zero_le _)))
   refine GObls_cons ?_ ?_
   ·intro wq hq hzq
    refine GObl_nil ?_
    refine GEx_q2 (Rq_fieldAddr fa45_0 rfl) ?_; first | exact rfl | rfl
   refine GObls_cons ?_ ?_
   ·intro wq hq hzq
    refine GObl_det rfl rfl rfl (GObl_nil ?_)
    refine GEx_q2 (Rq_loadB ((hB3).below hq) Tryz.isAgg5 rfl rfl) ?_; first | exact rfl | rfl
   refine GObls_cons ?_ ?_
   ·intro wq hq hzq
    refine GObl_nil ?_
    refine GEx_q2 (Rq_fieldAddr fa45_1 rfl) ?_; first | exact rfl | rfl
   refine GObls_cons ?_ ?_
   ·intro wq hq hzq
    refine GObl_det rfl rfl rfl (GObl_nil ?_)
    refine GEx_q2 (Rq_loadB ((hB3).below hq) Tryz.isAgg3 rfl rfl) ?_; first | exact rfl | rfl
   refine GObls_cons ?_ ?_
   ·intro wq hq hzq
    refine GObl_det rfl rfl rfl (GObl_frs rfl rfl rfl ?_); intro v22 lo22 hi22 hle22 hR22;refine GObl_det rfl rfl rfl (GObl_det rfl rfl rfl (GObl_nil ?_))
    refine GEx_call rfl Tryz.call50 (f50_c (⟨⟨_, _, _, rfl, hu1.below hq, hu2.below hq, hu3.below hq⟩⟩ : CoS _ _ C) hck hR22.sl h0 h1 rr) ?_; first | exact rfl | rfl
   refine GObls_cons ?_ ?_
   ·intro wq hq hzq
    refine GObl_det rfl rfl rfl (GObl_nil ?_)
    refine GEx_q2 (Rq_move rfl) ?_; first | exact rfl | rfl
   refine GObls_cons ?_ ?_
   ·intro wq hq hzq
    refine GObl_det rfl rfl rfl (GObl_nil ?_)
    refine GEx_q2 (Rq_extract rfl rfl) ?_; first | exact rfl | rfl
   refine GObls_cons ?_ ?_
   ·intro wq hq hzq
    refine GObl_det rfl rfl rfl (GObl_nil ?_)
    refine GEx_q2 (Rq_extract rfl rfl) ?_; first | exact rfl | rfl
   refine GObls_cons ?_ ?_
   ·intro wq hq hzq
    refine GObl_nil ?_;exact GEx_allocL (ds := []) (v := undef) (cs := [.int .i64 0, .int .u8 0, .int .i64 0, .int .i64 0, .int .i64 0, .int .i64 0]) hzq (Ex_alloc Tryz.zeroValue95 rfl)
   refine GObls_cons ?_ ?_
   ·intro wq hq hzq
    refine GObl_frs rfl rfl rfl ?_; intro v6 lo6 hi6 hle6 hR6;refine GObl_det rfl rfl rfl (GObl_nil ?_);exact GEx_stFf hR6 rfl rfl rfl rfl Tryz.sizeOf95 rfl rfl rfl rfl (by decide)
   exact GObls_nil
  ·intro wa3 hba3 hzz3
   refine GFin_det rfl ?_;refine GFin_det rfl ?_;refine GFin_frs rfl ?_; intro v22 lo22 hi22 hR22 hlB22 hlh22 hhw22 hdj22;refine GFin_det rfl ?_;refine GFin_det rfl ?_;refine GFin_det rfl ?_;refine GFin_det rfl ?_;refine GFin_det rfl ?_;refine GFin_det rfl ?_;refine GFin_det rfl ?_;refine GFin_det rfl ?_;refine GFin_frs rfl ?_; intro v6 lo6 hi6 hR6 hlB6 hlh6 hhw6 hdj6;refine GFin_sv rfl ?_; intro hs3x12 _; simp only [List.nil_append, List.cons_append, List.map_cons, List.map_nil, List.getD_cons_succ, List.getD_cons_zero, List.getElem?_cons_succ, List.getElem?_cons_zero] at hs3x12;refine GFin_nil ?_
   simp only [List.drop_succ_cons, List.drop_zero]
   replace hb0 := btr hb0 hba3;replace hu1 := hu1.below hba3;replace hu2 := hu2.below hba3;replace hu3 := hu3.below hba3;replace hB2 := hB2.below hba3;replace hB3 := hB3.below hba3;replace hB4 := hB4.below hba3;obtain ⟨b6, rfl, hlo6, _, _, _⟩ := hR6;obtain ⟨c6, hv6, hB6⟩ := hs3x12;replace hv6 : Value.pointer (some ⟨b6, 0, none⟩) = .pointer (some ⟨c6, 0, none⟩) := hv6;cases hv6;replace hB6 : Blk wa3 b6 (encD (tryR C.ops (truthsR C.ops) rr (o : Int))) 95 := hB6;refine SG_q (Rq_assign rfl) rfl (SG_nil (D_then (W_seq (W_seq (W_region (SG_q (Rq_move rfl) rfl (SG_q (Rq_not rfl) rfl (SG_nil (D_then ?_)))))))));refine W_cond rfl ?_ ?_
   ·intro g31
    try simp only [dd] at g31
    have hap : (atC C rr (o : Int)).ap = false := by rw [← try_ap2 hck h0 h1 hus]; simpa using g31
    refine W_seq ?_;refine W_region ?_;refine SG_q (Rq_build0 build26_) rfl ?_;refine SG_storeW (hB4) rfl rfl rfl rfl Tryz.sizeOf26 rfl rfl ?_;intro ws5x1 hchs5x1 hBs5x1;replace hb0 := bchg hb0 hchs5x1 hle4;clear hB4;refine SG_q (Rq_assign rfl) rfl ?_;refine SG_nil ?_;refine D_then ?_;refine W_ret ?_;refine D_then_ret ?_;refine D_bodyR2 rfl rfl (.cellW rfl (hBs5x1) Tryz.isAgg26 Tryz.sizeOf26 rfl) (.tmp rfl) ?_;exact ⟨_, rfl, hb0, _, by rw [hap], by unfold apC; dsimp only; rw [if_neg (by rw [hap]; decide)]; exact CoW.no⟩
   ·intro g31
    try simp only [dd] at g31
    have hap0 : (tryR C.ops (truthsR C.ops) rr (o : Int)).ap = true := by simpa using g31
    have hat := try_eq2 hck h0 h1 hus hap0;rw [hat] at hB6
    have hap : (atC C rr (o : Int)).ap = true := by rw [← hat]; exact hap0
    have hok := (at_ok hck h0 h1 hap).2;have hz3 := hB3.lt; have hz4 := hB4.lt; have hz6 := hB6.lt;refine W_skip (D_then (W_seq (W_region ?_)))
    first | refine SG_q (Rq_loadBW (hB2) Tryz.isAgg26 Tryz.sizeOf26 rfl rfl) rfl ?_ | refine SG_q (Rq_loadBA (hB2) Tryz.isAgg26 Tryz.sizeOf26 rfl rfl rfl) rfl ?_
    refine SG_call rfl Tryz.call11 rfl (f11_w (⟨⟨_, _, _, rfl, (hu1), (hu2), (hu3)⟩⟩ : CoS _ _ C) (by omega) (by omega) (by omega)) ?_;rintro v34 w34 hb34 ⟨a1, n1, c1, a2, n2, c2, a3, n3, c3, rfl, hs1, hs2, hs3⟩;replace hb0 := btr hb0 hb34;replace hB3 := hB3.below hb34;replace hB4 := hB4.below hb34;replace hB6 := hB6.below hb34
    have ne_hs1_b4 : ∀ q, Value.ownBlock (.slice a1 n1 c1) = some q → ¬ q = b4 := fun q e => by have := (hs1.lt e).1; omega
    have ne_hs2_b4 : ∀ q, Value.ownBlock (.slice a2 n2 c2) = some q → ¬ q = b4 := fun q e => by have := (hs2.lt e).1; omega
    have ne_hs3_b4 : ∀ q, Value.ownBlock (.slice a3 n3 c3) = some q → ¬ q = b4 := fun q e => by have := (hs3.lt e).1; omega
    clear hu1;clear hu2;clear hu3;clear hB2;refine SG_alloc Tryz.zeroValue26 rfl rfl ?_;intro w8 b8 e8 hb8 hz8 hB8
    have hle8 : w.heap.size ≤ b8 := by have := hb0.size; omega
    have ne_b3_8 : ¬ b3 = b8 := by have := hB3.lt; omega
    have ne_b4_8 : ¬ b4 = b8 := by have := hB4.lt; omega
    have ne_b6_8 : ¬ b6 = b8 := by have := hB6.lt; omega
    have ne_hs1_b8 : ∀ k, Value.ownBlock (.slice a1 n1 c1) = some k → ¬ k = b8 := fun k e => by have := hs1.lt e; omega
    have ne_hs2_b8 : ∀ k, Value.ownBlock (.slice a2 n2 c2) = some k → ¬ k = b8 := fun k e => by have := hs2.lt e; omega
    have ne_hs3_b8 : ∀ k, Value.ownBlock (.slice a3 n3 c3) = some k → ¬ k = b8 := fun k e => by have := hs3.lt e; omega
    replace hb0 := btr hb0 hb8;replace hB3 := hB3.below hb8;replace hB4 := hB4.below hb8;replace hB6 := hB6.below hb8;replace hs1 := hs1.below hb8;replace hs2 := hs2.below hb8;replace hs3 := hs3.below hb8
    have hsl2 : ∀ q, Value.ownBlock (.slice a2 n2 c2) = some q → wa3.heap.size ≤ q ∧ q < b8 := fun q e => by have := hs2.lt e; have := ne_hs2_b8 q e; omega
    have hsl3 : ∀ q, Value.ownBlock (.slice a3 n3 c3) = some q → wa3.heap.size ≤ q ∧ q < b8 := fun q e => by have := hs3.lt e; have := ne_hs3_b8 q e; omega
    refine SG_storeW (hB8) rfl rfl rfl rfl Tryz.sizeOf26 rfl rfl ?_;intro ws6x3 hchs6x3 hBs6x3;replace hb0 := bchg hb0 hchs6x3 hle8;replace hB3 := hB3.chg hchs6x3 ne_b3_8;replace hB4 := hB4.chg hchs6x3 ne_b4_8;replace hB6 := hB6.chg hchs6x3 ne_b6_8;replace hs1 := hs1.chg hchs6x3 (fun k e e2 => by first | exact ne_hs1_b8 k e e2 | (have := hs1.lt e; have := ne_hs1_b8; omega));replace hs2 := hs2.chg hchs6x3 (fun k e e2 => by first | exact ne_hs2_b8 k e e2 | (have := hs2.lt e; have := ne_hs2_b8; omega));replace hs3 := hs3.chg hchs6x3 (fun k e e2 => by first | exact ne_hs3_b8 k e e2 | (have := hs3.lt e; have := ne_hs3_b8; omega));clear hB8;refine SG_nil ?_;refine D_then ?_;refine W_seq ?_;refine W_seq ?_;refine W_region ?_;refine SG_q (Rq_fieldAddr fa95_0 rfl) rfl ?_;refine SG_q (Rq_loadB (hB6) Tryz.isAgg3 rfl rfl) rfl ?_;refine SG_q (Rq_lss rfl rfl) rfl ?_;refine SG_nil ?_;refine D_then ?_;refine W_cond rfl ?_ ?_
    ·intro g37
     try simp only [dd] at g37
     have hst1 : (atC C rr (o : Int)).st = -1 := by rcases hok with h | h; exact h.1; omega
     refine W_seq (W_region (SG_q (Rq_fieldAddr fa26_1 rfl) rfl (SG_q (Rq_loadB (hBs6x3) Tryz.isAgg23 rfl rfl) rfl (SG_q (Rq_fieldAddr fa45_1 rfl) rfl (SG_q (Rq_loadB (hB3) Tryz.isAgg3 rfl rfl) rfl (SG_q (Rq_fieldAddr fa95_1 rfl) rfl (SG_q (Rq_loadBA (hB6) Tryz.isAgg76 Tryz.sizeOf76 rfl rfl rfl) rfl ?_)))))))
     first | refine SG_index (hs1.sl) Tryz.runUnderlying23 Tryz.sizeOf76 rfl rfl ?_ ?_ rfl ?_ | refine SG_index (hs2.sl) Tryz.runUnderlying23 Tryz.sizeOf76 rfl rfl ?_ ?_ rfl ?_ | refine SG_index (hs3.sl) Tryz.runUnderlying23 Tryz.sizeOf76 rfl rfl ?_ ?_ rfl ?_
     ·first | omega | (rw [prt_len]; omega)
     ·first | omega | (rw [prt_len]; omega)
     intro x44 hx44 hc44;refine SG_storeE (n := 5) (o := 0) (elt := getO C.ops (o : Int)) (elt' := (atC C rr (o : Int)).be) hs2 rfl rfl rfl rfl Tryz.sizeOf76 rfl hxo (Nat.le_refl 5) rfl ?_;intro ws8 hcws8 hOws8;replace hb0 := hb0.trans (hcws8.below hb0.size (fun q hq e => by have := hsl2 q e; omega));replace hB3 := hB3.chg hcws8 (fun e => by have := hsl2 _ e; omega);replace hB4 := hB4.chg hcws8 (fun e => by have := hsl2 _ e; omega);replace hB6 := hB6.chg hcws8 (fun e => by have := hsl2 _ e; omega);replace hs1 := hs1.chg hcws8 (fun q e e2 => hs1.ne_type hs2 (by decide) q e e2);replace hs3 := hs3.chg hcws8 (fun q e e2 => hs3.ne_type hs2 (by decide) q e e2);replace hBs6x3 := hBs6x3.chg hcws8 (fun e => by have := hsl2 _ e; omega);clear hc44;clear hs2;have hs2 := hOws8;refine SG_nil ?_;refine D_then ?_;refine W_seq ?_;refine W_region ?_
     first | refine SG_q (Rq_loadBW (hBs6x3) Tryz.isAgg26 Tryz.sizeOf26 rfl rfl) rfl ?_ | refine SG_q (Rq_loadBA (hBs6x3) Tryz.isAgg26 Tryz.sizeOf26 rfl rfl rfl) rfl ?_
     refine SG_storeW (hB4) rfl rfl rfl rfl Tryz.sizeOf26 rfl rfl ?_;intro ws9x1 hchs9x1 hBs9x1;replace hb0 := bchg hb0 hchs9x1 hle4;replace hs1 := hs1.chg hchs9x1 (fun k e e2 => by first | exact ne_hs1_b4 k e e2 | (have := hs1.lt e; have := ne_hs1_b4; omega));replace hs2 := hs2.chg hchs9x1 (fun k e e2 => by first | exact ne_hs2_b4 k e e2 | (have := hs2.lt e; have := ne_hs2_b4; omega));replace hs3 := hs3.chg hchs9x1 (fun k e e2 => by first | exact ne_hs3_b4 k e e2 | (have := hs3.lt e; have := ne_hs3_b4; omega));clear hB4;refine SG_q (Rq_assign rfl) rfl ?_;refine SG_nil ?_;refine D_then ?_;refine W_ret ?_;refine D_then_ret ?_;refine D_bodyR2 rfl rfl (.cellW rfl (hBs9x1) Tryz.isAgg26 Tryz.sizeOf26 rfl) (.tmp rfl) ?_
     have hapc : apC C ⟨rr, (o : Int)⟩ = ⟨C.ch, C.ops.set o (atC C rr (o : Int)).be, C.roots⟩ := by unfold apC; dsimp only; rw [if_pos hap]; unfold appR outC; dsimp only; rw [if_pos hst1]; rfl
     exact ⟨_, rfl, hb0, _, by rw [hap], a1, n1, c1, a2, n2, c2, a3, n3, c3, rfl, by rw [hapc]; exact hs1.le (by omega), by rw [hapc]; exact hs2.le (by omega), by rw [hapc]; exact hs3.le (by omega)⟩
    ·intro g37
     try simp only [dd] at g37
     have hstn : ¬ (atC C rr (o : Int)).st = -1 := by omega
     refine W_skip ?_;refine D_then ?_;refine W_seq ?_;refine W_seq ?_;refine W_region ?_;refine SG_q (Rq_assign rfl) rfl ?_;refine SG_nil ?_;refine D_then ?_;refine W_block ?_;refine W_loop (α := Nat) (fun x => [(9, .int .i64 (x : Nat)), (3, .pointer (some ⟨b3, 0, none⟩)), (4, .pointer (some ⟨b4, 0, none⟩)), (6, .pointer (some ⟨b6, 0, none⟩)), (8, .pointer (some ⟨b8, 0, none⟩))]) (fun x w' => Below w.heap.size w w' ∧ x ≤ C.ops.length ∧ (Blk w' b3 [.int .u8 rr, .int .i64 (o : Int)] 45 ∧ Blk w' b4 [.slice none 0 0, .slice none 0 0, .slice none 0 0] 26 ∧ Blk w' b6 (encD (atC C rr (o : Int))) 95 ∧ Blk w' b8 [.slice a1 n1 c1, .slice a2 n2 c2, .slice a3 n3 c3] 26) ∧ OS w' (.slice a1 n1 c1) 84 3 encC C.ch wa3.heap.size ∧ OS w' (.slice a2 n2 c2) 76 5 encO (prt (turnO (o : Int) (atC C rr (o : Int)).st) C.ops x) wa3.heap.size ∧ OS w' (.slice a3 n3 c3) 3 1 encI (C.roots) wa3.heap.size) (fun x => C.ops.length - x) (0) (by repeat (first | exact Sub.nil | refine Sub.cons rfl ?_)) ⟨hb0, Nat.zero_le _, ⟨hB3, hB4, hB6, hBs6x3⟩, hs1, by rw [prt_zero]; exact hs2, hs3⟩ ?_;clear hb0;clear hB3;clear hB4;clear hB6;clear hs1;clear hs2;clear hs3;clear hBs6x3;rintro x wl0 ⟨hb0, hxi, ⟨hB3, hB4, hB6, hB8⟩, hs1, hs2, hs3⟩;have hz8l := hB8.lt;refine W_seq ?_;refine W_seq ?_;refine W_region ?_;refine SG_q (Rq_move rfl) rfl ?_;refine SG_q (Rq_fieldAddr fa26_1 rfl) rfl ?_;refine SG_q (Rq_loadB (hB8) Tryz.isAgg23 rfl rfl) rfl ?_
     first | refine SG_q (Rq_len (hs1.sl) Tryz.runUnderlying23 rfl) rfl ?_ | refine SG_q (Rq_len (hs2.sl) Tryz.runUnderlying23 rfl) rfl ?_ | refine SG_q (Rq_len (hs3.sl) Tryz.runUnderlying23 rfl) rfl ?_
     refine SG_q (Rq_lss rfl rfl) rfl (SG_nil (D_then ?_));refine W_cond rfl ?_ ?_
     ·intro g50
      try simp only [dd] at g50
      rw [prt_len] at g50
      have hxl : x < C.ops.length := by omega
      obtain ⟨y, hel0⟩ : ∃ y, C.ops[x]? = some y := ⟨_, List.getElem?_eq_getElem hxl⟩
      have hel : (prt (turnO (o : Int) (atC C rr (o : Int)).st) C.ops x)[x]? = some y := by rw [prt_get hxi]; exact hel0
      have hyc := (isOpB_spec ((check_ok hck).2.2 x y hel0)).1;have hol := opsOf_len y;have har3 := arN_le y.code;refine W_skip (D_then (W_seq (W_block (W_seq (W_region (SG_q (Rq_fieldAddr fa26_1 rfl) rfl (SG_q (Rq_loadB (hB8) Tryz.isAgg23 rfl rfl) rfl (SG_q (Rq_move rfl) rfl ?_))))))))
      first | refine SG_index (hs1.sl) Tryz.runUnderlying23 Tryz.sizeOf76 rfl rfl ?_ ?_ rfl ?_ | refine SG_index (hs2.sl) Tryz.runUnderlying23 Tryz.sizeOf76 rfl rfl ?_ ?_ rfl ?_ | refine SG_index (hs3.sl) Tryz.runUnderlying23 Tryz.sizeOf76 rfl rfl ?_ ?_ rfl ?_
      ·first | omega | (rw [prt_len]; omega)
      ·first | omega | (rw [prt_len]; omega)
      intro x56 hx56 hc56;have ex56 := Option.some.inj ((hel).symm.trans hx56); subst ex56;refine SG_q (Rq_loadA Tryz.isAgg76 Tryz.sizeOf76 rfl ((hc56)) rfl) rfl (SG_alloc Tryz.zeroValue76 rfl rfl ?_);intro w10 b10 e10 hb10 hz10 hB10
      have hle10 : w.heap.size ≤ b10 := by have := hb0.size; omega
      have ne_b3_10 : ¬ b3 = b10 := by have := hB3.lt; omega
      have ne_b4_10 : ¬ b4 = b10 := by have := hB4.lt; omega
      have ne_b6_10 : ¬ b6 = b10 := by have := hB6.lt; omega
      have ne_b8_10 : ¬ b8 = b10 := by have := hB8.lt; omega
      have ne_hs1_b10 : ∀ k, Value.ownBlock (.slice a1 n1 c1) = some k → ¬ k = b10 := fun k e => by have := hs1.lt e; omega
      have ne_hs2_b10 : ∀ k, Value.ownBlock (.slice a2 n2 c2) = some k → ¬ k = b10 := fun k e => by have := hs2.lt e; omega
      have ne_hs3_b10 : ∀ k, Value.ownBlock (.slice a3 n3 c3) = some k → ¬ k = b10 := fun k e => by have := hs3.lt e; omega
      replace hb0 := btr hb0 hb10;replace hB3 := hB3.below hb10;replace hB4 := hB4.below hb10;replace hB6 := hB6.below hb10;replace hB8 := hB8.below hb10;replace hs1 := hs1.below hb10;replace hs2 := hs2.below hb10;replace hs3 := hs3.below hb10;refine SG_storeW (hB10) rfl rfl rfl rfl Tryz.sizeOf76 rfl rfl ?_;intro ws13x6 hchs13x6 hBs13x6;replace hb0 := bchg hb0 hchs13x6 hle10;replace hB3 := hB3.chg hchs13x6 ne_b3_10;replace hB4 := hB4.chg hchs13x6 ne_b4_10;replace hB6 := hB6.chg hchs13x6 ne_b6_10;replace hB8 := hB8.chg hchs13x6 ne_b8_10;replace hs1 := hs1.chg hchs13x6 (fun k e e2 => by first | exact ne_hs1_b10 k e e2 | (have := hs1.lt e; have := ne_hs1_b10; omega));replace hs2 := hs2.chg hchs13x6 (fun k e e2 => by first | exact ne_hs2_b10 k e e2 | (have := hs2.lt e; have := ne_hs2_b10; omega));replace hs3 := hs3.chg hchs13x6 (fun k e e2 => by first | exact ne_hs3_b10 k e e2 | (have := hs3.lt e; have := ne_hs3_b10; omega));clear hc56;clear hB10;refine SG_nil ?_;refine D_then ?_;refine W_seq ?_;refine W_region ?_
      first | refine SG_q (Rq_loadBW (hBs13x6) Tryz.isAgg76 Tryz.sizeOf76 rfl rfl) rfl ?_ | refine SG_q (Rq_loadBA (hBs13x6) Tryz.isAgg76 Tryz.sizeOf76 rfl rfl rfl) rfl ?_
      refine SG_call rfl Tryz.call46 rfl (f46_c y _ hyc.1 hyc.2.1) ?_;rintro v59 w59 hb59 ⟨hL, _⟩;replace hb0 := btr hb0 hb59;replace hB3 := hB3.below hb59;replace hB4 := hB4.below hb59;replace hB6 := hB6.below hb59;replace hB8 := hB8.below hb59;replace hs1 := hs1.below hb59;replace hs2 := hs2.below hb59;replace hs3 := hs3.below hb59;replace hBs13x6 := hBs13x6.below hb59
      first | refine SG_q (Rq_len (hL) Tryz.runUnderlying24 rfl) rfl ?_ | refine SG_q (Rq_len (hs1.sl) Tryz.runUnderlying24 rfl) rfl ?_ | refine SG_q (Rq_len (hs2.sl) Tryz.runUnderlying24 rfl) rfl ?_ | refine SG_q (Rq_len (hs3.sl) Tryz.runUnderlying24 rfl) rfl ?_
      clear hL;refine SG_q (Rq_assign rfl) rfl (SG_nil (D_then (W_seq (W_seq (W_region (SG_q (Rq_move rfl) rfl (SG_q (Rq_gtr rfl rfl) rfl (SG_nil (D_then ?_)))))))));refine W_cond rfl ?_ ?_
      ·intro g62
       try simp only [dd] at g62
       refine W_region (SG_q (Rq_fieldAddr fa76_1 rfl) rfl (SG_q (Rq_loadB (hBs13x6) Tryz.isAgg3 rfl rfl) rfl (SG_q (Rq_fieldAddr fa45_1 rfl) rfl (SG_q (Rq_loadB (hB3) Tryz.isAgg3 rfl rfl) rfl (SG_q (Rq_fieldAddr fa95_0 rfl) rfl (SG_q (Rq_loadB (hB6) Tryz.isAgg3 rfl rfl) rfl (SG_pure rfl Tryz.call51 rfl (f51_c _ _ _ _) ?_)))))));intro w69 hb69;replace hb0 := btr hb0 hb69;replace hB3 := hB3.below hb69;replace hB4 := hB4.below hb69;replace hB6 := hB6.below hb69;replace hB8 := hB8.below hb69;replace hs1 := hs1.below hb69;replace hs2 := hs2.below hb69;replace hs3 := hs3.below hb69;replace hBs13x6 := hBs13x6.below hb69;refine SG_q (Rq_fieldAddr fa76_1 rfl) rfl (SG_store (hBs13x6) rfl rfl rfl rfl Tryz.sizeOf3 rfl rfl ?_);intro ws16x8 hchs16x8 hBs16x8
       dsimp only [setAll, List.set] at hBs16x8
       replace hb0 := bchg hb0 hchs16x8 hle10;replace hB3 := hB3.chg hchs16x8 ne_b3_10;replace hB4 := hB4.chg hchs16x8 ne_b4_10;replace hB6 := hB6.chg hchs16x8 ne_b6_10;replace hB8 := hB8.chg hchs16x8 ne_b8_10;replace hs1 := hs1.chg hchs16x8 (fun k e e2 => by first | exact ne_hs1_b10 k e e2 | (have := hs1.lt e; have := ne_hs1_b10; omega));replace hs2 := hs2.chg hchs16x8 (fun k e e2 => by first | exact ne_hs2_b10 k e e2 | (have := hs2.lt e; have := ne_hs2_b10; omega));replace hs3 := hs3.chg hchs16x8 (fun k e e2 => by first | exact ne_hs3_b10 k e e2 | (have := hs3.lt e; have := ne_hs3_b10; omega));clear hBs13x6;refine SG_nil ?_;refine D_then ?_;refine W_seq ?_;refine W_seq ?_;refine W_region ?_;refine SG_q (Rq_move rfl) rfl ?_;refine SG_q (Rq_gtr rfl rfl) rfl ?_;refine SG_nil ?_;refine D_then ?_;refine W_cond rfl ?_ ?_
       ·intro g72
        try simp only [dd] at g72
        refine W_region (SG_q (Rq_fieldAddr fa76_2 rfl) rfl (SG_q (Rq_loadB (hBs16x8) Tryz.isAgg3 rfl rfl) rfl (SG_q (Rq_fieldAddr fa45_1 rfl) rfl (SG_q (Rq_loadB (hB3) Tryz.isAgg3 rfl rfl) rfl (SG_q (Rq_fieldAddr fa95_0 rfl) rfl (SG_q (Rq_loadB (hB6) Tryz.isAgg3 rfl rfl) rfl (SG_pure rfl Tryz.call51 rfl (f51_c _ _ _ _) ?_)))))));intro w79 hb79;replace hb0 := btr hb0 hb79;replace hB3 := hB3.below hb79;replace hB4 := hB4.below hb79;replace hB6 := hB6.below hb79;replace hB8 := hB8.below hb79;replace hs1 := hs1.below hb79;replace hs2 := hs2.below hb79;replace hs3 := hs3.below hb79;replace hBs16x8 := hBs16x8.below hb79;refine SG_q (Rq_fieldAddr fa76_2 rfl) rfl (SG_store (hBs16x8) rfl rfl rfl rfl Tryz.sizeOf3 rfl rfl ?_);intro ws18x8 hchs18x8 hBs18x8
        dsimp only [setAll, List.set] at hBs18x8
        replace hb0 := bchg hb0 hchs18x8 hle10;replace hB3 := hB3.chg hchs18x8 ne_b3_10;replace hB4 := hB4.chg hchs18x8 ne_b4_10;replace hB6 := hB6.chg hchs18x8 ne_b6_10;replace hB8 := hB8.chg hchs18x8 ne_b8_10;replace hs1 := hs1.chg hchs18x8 (fun k e e2 => by first | exact ne_hs1_b10 k e e2 | (have := hs1.lt e; have := ne_hs1_b10; omega));replace hs2 := hs2.chg hchs18x8 (fun k e e2 => by first | exact ne_hs2_b10 k e e2 | (have := hs2.lt e; have := ne_hs2_b10; omega));replace hs3 := hs3.chg hchs18x8 (fun k e e2 => by first | exact ne_hs3_b10 k e e2 | (have := hs3.lt e; have := ne_hs3_b10; omega));clear hBs16x8;refine SG_nil ?_;refine D_then ?_;refine W_seq ?_;refine W_seq ?_;refine W_region ?_;refine SG_q (Rq_move rfl) rfl ?_;refine SG_q (Rq_gtr rfl rfl) rfl ?_;refine SG_nil ?_;refine D_then ?_;refine W_cond rfl ?_ ?_
        ·intro g82
         try simp only [dd] at g82
         refine W_region (SG_q (Rq_fieldAddr fa76_3 rfl) rfl (SG_q (Rq_loadB (hBs18x8) Tryz.isAgg3 rfl rfl) rfl (SG_q (Rq_fieldAddr fa45_1 rfl) rfl (SG_q (Rq_loadB (hB3) Tryz.isAgg3 rfl rfl) rfl (SG_q (Rq_fieldAddr fa95_0 rfl) rfl (SG_q (Rq_loadB (hB6) Tryz.isAgg3 rfl rfl) rfl (SG_pure rfl Tryz.call51 rfl (f51_c _ _ _ _) ?_)))))));intro w89 hb89;replace hb0 := btr hb0 hb89;replace hB3 := hB3.below hb89;replace hB4 := hB4.below hb89;replace hB6 := hB6.below hb89;replace hB8 := hB8.below hb89;replace hs1 := hs1.below hb89;replace hs2 := hs2.below hb89;replace hs3 := hs3.below hb89;replace hBs18x8 := hBs18x8.below hb89;refine SG_q (Rq_fieldAddr fa76_3 rfl) rfl (SG_store (hBs18x8) rfl rfl rfl rfl Tryz.sizeOf3 rfl rfl ?_);intro ws20x8 hchs20x8 hBs20x8
         dsimp only [setAll, List.set] at hBs20x8
         replace hb0 := bchg hb0 hchs20x8 hle10;replace hB3 := hB3.chg hchs20x8 ne_b3_10;replace hB4 := hB4.chg hchs20x8 ne_b4_10;replace hB6 := hB6.chg hchs20x8 ne_b6_10;replace hB8 := hB8.chg hchs20x8 ne_b8_10;replace hs1 := hs1.chg hchs20x8 (fun k e e2 => by first | exact ne_hs1_b10 k e e2 | (have := hs1.lt e; have := ne_hs1_b10; omega));replace hs2 := hs2.chg hchs20x8 (fun k e e2 => by first | exact ne_hs2_b10 k e e2 | (have := hs2.lt e; have := ne_hs2_b10; omega));replace hs3 := hs3.chg hchs20x8 (fun k e e2 => by first | exact ne_hs3_b10 k e e2 | (have := hs3.lt e; have := ne_hs3_b10; omega));clear hBs18x8;refine SG_nil ?_;refine D_then ?_;refine W_region ?_;refine SG_q (Rq_fieldAddr fa26_1 rfl) rfl ?_;refine SG_q (Rq_loadB (hB8) Tryz.isAgg23 rfl rfl) rfl ?_;refine SG_q (Rq_move rfl) rfl ?_
         first | refine SG_q (Rq_loadBW (hBs20x8) Tryz.isAgg76 Tryz.sizeOf76 rfl rfl) rfl ?_ | refine SG_q (Rq_loadBA (hBs20x8) Tryz.isAgg76 Tryz.sizeOf76 rfl rfl rfl) rfl ?_
         first | refine SG_index (hs1.sl) Tryz.runUnderlying23 Tryz.sizeOf76 rfl rfl ?_ ?_ rfl ?_ | refine SG_index (hs2.sl) Tryz.runUnderlying23 Tryz.sizeOf76 rfl rfl ?_ ?_ rfl ?_ | refine SG_index (hs3.sl) Tryz.runUnderlying23 Tryz.sizeOf76 rfl rfl ?_ ?_ rfl ?_
         ·first | omega | (rw [prt_len]; omega)
         ·first | omega | (rw [prt_len]; omega)
         intro x95 hx95 hc95
         have helt : (⟨y.code, turnI (o : Int) (atC C rr (o : Int)).st y.a, turnI (o : Int) (atC C rr (o : Int)).st y.b, turnI (o : Int) (atC C rr (o : Int)).st y.c, y.n⟩ : Ot) = turnO (o : Int) (atC C rr (o : Int)).st y := by unfold turnO; rw [if_pos (show 1 ≤ arN y.code by omega), if_pos (show 2 ≤ arN y.code by omega), if_pos (show 3 ≤ arN y.code by omega)]
         refine SG_storeE (n := 5) (o := 0) (elt := y) (elt' := turnO (o : Int) (atC C rr (o : Int)).st y) hs2 rfl rfl rfl rfl Tryz.sizeOf76 rfl hel (Nat.le_refl 5) (by rw [← helt]; rfl) ?_;intro ws21 hcws21 hOws21;rw [Int.toNat_natCast, prt_set hel0] at hOws21;replace hb0 := hb0.trans (hcws21.below hb0.size (fun q hq e => by have := hsl2 q e; omega));replace hB3 := hB3.chg hcws21 (fun e => by have := hsl2 _ e; omega);replace hB4 := hB4.chg hcws21 (fun e => by have := hsl2 _ e; omega);replace hB6 := hB6.chg hcws21 (fun e => by have := hsl2 _ e; omega);replace hB8 := hB8.chg hcws21 (fun e => by have := hsl2 _ e; omega);replace hs1 := hs1.chg hcws21 (fun q e e2 => hs1.ne_type hs2 (by decide) q e e2);replace hs3 := hs3.chg hcws21 (fun q e e2 => hs3.ne_type hs2 (by decide) q e e2);replace hBs20x8 := hBs20x8.chg hcws21 (fun e => by have := hsl2 _ e; omega);clear hc95;clear hs2;have hs2 := hOws21;refine SG_nil ?_;refine D_block ?_;refine D_then ?_;refine W_region ?_;refine SG_q (Rq_move rfl) rfl ?_;refine SG_q (Rq_add rfl rfl (wrap_i64 (by omega) (by omega))) rfl ?_;refine SG_q (Rq_assign rfl) rfl ?_;refine SG_nil ?_;refine D_loop (x + 1) (by repeat (first | exact Sub.nil | refine Sub.cons rfl ?_)) ⟨hb0, by omega, ⟨hB3, hB4, hB6, hB8⟩, hs1, hs2, hs3⟩ (by omega)
        ·intro g82
         try simp only [dd] at g82
         refine W_skip (D_then (W_region (SG_q (Rq_fieldAddr fa26_1 rfl) rfl (SG_q (Rq_loadB (hB8) Tryz.isAgg23 rfl rfl) rfl (SG_q (Rq_move rfl) rfl ?_)))))
         first | refine SG_q (Rq_loadBW (hBs18x8) Tryz.isAgg76 Tryz.sizeOf76 rfl rfl) rfl ?_ | refine SG_q (Rq_loadBA (hBs18x8) Tryz.isAgg76 Tryz.sizeOf76 rfl rfl rfl) rfl ?_
         first | refine SG_index (hs1.sl) Tryz.runUnderlying23 Tryz.sizeOf76 rfl rfl ?_ ?_ rfl ?_ | refine SG_index (hs2.sl) Tryz.runUnderlying23 Tryz.sizeOf76 rfl rfl ?_ ?_ rfl ?_ | refine SG_index (hs3.sl) Tryz.runUnderlying23 Tryz.sizeOf76 rfl rfl ?_ ?_ rfl ?_
         ·first | omega | (rw [prt_len]; omega)
         ·first | omega | (rw [prt_len]; omega)
         intro x95 hx95 hc95
         have helt : (⟨y.code, turnI (o : Int) (atC C rr (o : Int)).st y.a, turnI (o : Int) (atC C rr (o : Int)).st y.b, y.c, y.n⟩ : Ot) = turnO (o : Int) (atC C rr (o : Int)).st y := by unfold turnO; rw [if_pos (show 1 ≤ arN y.code by omega), if_pos (show 2 ≤ arN y.code by omega), if_neg (show ¬ 3 ≤ arN y.code by omega)]
         refine SG_storeE (n := 5) (o := 0) (elt := y) (elt' := turnO (o : Int) (atC C rr (o : Int)).st y) hs2 rfl rfl rfl rfl Tryz.sizeOf76 rfl hel (Nat.le_refl 5) (by rw [← helt]; rfl) ?_;intro ws21 hcws21 hOws21;rw [Int.toNat_natCast, prt_set hel0] at hOws21;replace hb0 := hb0.trans (hcws21.below hb0.size (fun q hq e => by have := hsl2 q e; omega));replace hB3 := hB3.chg hcws21 (fun e => by have := hsl2 _ e; omega);replace hB4 := hB4.chg hcws21 (fun e => by have := hsl2 _ e; omega);replace hB6 := hB6.chg hcws21 (fun e => by have := hsl2 _ e; omega);replace hB8 := hB8.chg hcws21 (fun e => by have := hsl2 _ e; omega);replace hs1 := hs1.chg hcws21 (fun q e e2 => hs1.ne_type hs2 (by decide) q e e2);replace hs3 := hs3.chg hcws21 (fun q e e2 => hs3.ne_type hs2 (by decide) q e e2);replace hBs18x8 := hBs18x8.chg hcws21 (fun e => by have := hsl2 _ e; omega);clear hc95;clear hs2;have hs2 := hOws21;refine SG_nil ?_;refine D_block ?_;refine D_then ?_;refine W_region ?_;refine SG_q (Rq_move rfl) rfl ?_;refine SG_q (Rq_add rfl rfl (wrap_i64 (by omega) (by omega))) rfl ?_;refine SG_q (Rq_assign rfl) rfl ?_;refine SG_nil ?_;refine D_loop (x + 1) (by repeat (first | exact Sub.nil | refine Sub.cons rfl ?_)) ⟨hb0, by omega, ⟨hB3, hB4, hB6, hB8⟩, hs1, hs2, hs3⟩ (by omega)
       ·intro g72
        try simp only [dd] at g72
        refine W_skip (D_then (W_seq (W_seq (W_region (SG_q (Rq_move rfl) rfl (SG_q (Rq_gtr rfl rfl) rfl (SG_nil (D_then ?_))))))));refine W_cond rfl ?_ ?_
        ·intro g82; exfalso; (try simp only [dd] at g82); omega
        ·intro g82
         try simp only [dd] at g82
         refine W_skip (D_then (W_region (SG_q (Rq_fieldAddr fa26_1 rfl) rfl (SG_q (Rq_loadB (hB8) Tryz.isAgg23 rfl rfl) rfl (SG_q (Rq_move rfl) rfl ?_)))))
         first | refine SG_q (Rq_loadBW (hBs16x8) Tryz.isAgg76 Tryz.sizeOf76 rfl rfl) rfl ?_ | refine SG_q (Rq_loadBA (hBs16x8) Tryz.isAgg76 Tryz.sizeOf76 rfl rfl rfl) rfl ?_
         first | refine SG_index (hs1.sl) Tryz.runUnderlying23 Tryz.sizeOf76 rfl rfl ?_ ?_ rfl ?_ | refine SG_index (hs2.sl) Tryz.runUnderlying23 Tryz.sizeOf76 rfl rfl ?_ ?_ rfl ?_ | refine SG_index (hs3.sl) Tryz.runUnderlying23 Tryz.sizeOf76 rfl rfl ?_ ?_ rfl ?_
         ·first | omega | (rw [prt_len]; omega)
         ·first | omega | (rw [prt_len]; omega)
         intro x95 hx95 hc95
         have helt : (⟨y.code, turnI (o : Int) (atC C rr (o : Int)).st y.a, y.b, y.c, y.n⟩ : Ot) = turnO (o : Int) (atC C rr (o : Int)).st y := by unfold turnO; rw [if_pos (show 1 ≤ arN y.code by omega), if_neg (show ¬ 2 ≤ arN y.code by omega), if_neg (show ¬ 3 ≤ arN y.code by omega)]
         refine SG_storeE (n := 5) (o := 0) (elt := y) (elt' := turnO (o : Int) (atC C rr (o : Int)).st y) hs2 rfl rfl rfl rfl Tryz.sizeOf76 rfl hel (Nat.le_refl 5) (by rw [← helt]; rfl) ?_;intro ws21 hcws21 hOws21;rw [Int.toNat_natCast, prt_set hel0] at hOws21;replace hb0 := hb0.trans (hcws21.below hb0.size (fun q hq e => by have := hsl2 q e; omega));replace hB3 := hB3.chg hcws21 (fun e => by have := hsl2 _ e; omega);replace hB4 := hB4.chg hcws21 (fun e => by have := hsl2 _ e; omega);replace hB6 := hB6.chg hcws21 (fun e => by have := hsl2 _ e; omega);replace hB8 := hB8.chg hcws21 (fun e => by have := hsl2 _ e; omega);replace hs1 := hs1.chg hcws21 (fun q e e2 => hs1.ne_type hs2 (by decide) q e e2);replace hs3 := hs3.chg hcws21 (fun q e e2 => hs3.ne_type hs2 (by decide) q e e2);replace hBs16x8 := hBs16x8.chg hcws21 (fun e => by have := hsl2 _ e; omega);clear hc95;clear hs2;have hs2 := hOws21;refine SG_nil ?_;refine D_block ?_;refine D_then ?_;refine W_region ?_;refine SG_q (Rq_move rfl) rfl ?_;refine SG_q (Rq_add rfl rfl (wrap_i64 (by omega) (by omega))) rfl ?_;refine SG_q (Rq_assign rfl) rfl ?_;refine SG_nil ?_;refine D_loop (x + 1) (by repeat (first | exact Sub.nil | refine Sub.cons rfl ?_)) ⟨hb0, by omega, ⟨hB3, hB4, hB6, hB8⟩, hs1, hs2, hs3⟩ (by omega)
      ·intro g62
       try simp only [dd] at g62
       refine W_skip (D_then (W_seq (W_seq (W_region (SG_q (Rq_move rfl) rfl (SG_q (Rq_gtr rfl rfl) rfl (SG_nil (D_then ?_))))))));refine W_cond rfl ?_ ?_
       ·intro g72; exfalso; (try simp only [dd] at g72); omega
       ·intro g72
        try simp only [dd] at g72
        refine W_skip (D_then (W_seq (W_seq (W_region (SG_q (Rq_move rfl) rfl (SG_q (Rq_gtr rfl rfl) rfl (SG_nil (D_then ?_))))))));refine W_cond rfl ?_ ?_
        ·intro g82; exfalso; (try simp only [dd] at g82); omega
        ·intro g82
         try simp only [dd] at g82
         refine W_skip (D_then (W_region (SG_q (Rq_fieldAddr fa26_1 rfl) rfl (SG_q (Rq_loadB (hB8) Tryz.isAgg23 rfl rfl) rfl (SG_q (Rq_move rfl) rfl ?_)))))
         first | refine SG_q (Rq_loadBW (hBs13x6) Tryz.isAgg76 Tryz.sizeOf76 rfl rfl) rfl ?_ | refine SG_q (Rq_loadBA (hBs13x6) Tryz.isAgg76 Tryz.sizeOf76 rfl rfl rfl) rfl ?_
         first | refine SG_index (hs1.sl) Tryz.runUnderlying23 Tryz.sizeOf76 rfl rfl ?_ ?_ rfl ?_ | refine SG_index (hs2.sl) Tryz.runUnderlying23 Tryz.sizeOf76 rfl rfl ?_ ?_ rfl ?_ | refine SG_index (hs3.sl) Tryz.runUnderlying23 Tryz.sizeOf76 rfl rfl ?_ ?_ rfl ?_
         ·first | omega | (rw [prt_len]; omega)
         ·first | omega | (rw [prt_len]; omega)
         intro x95 hx95 hc95
         have helt : (⟨y.code, y.a, y.b, y.c, y.n⟩ : Ot) = turnO (o : Int) (atC C rr (o : Int)).st y := by unfold turnO; rw [if_neg (show ¬ 1 ≤ arN y.code by omega), if_neg (show ¬ 2 ≤ arN y.code by omega), if_neg (show ¬ 3 ≤ arN y.code by omega)]
         refine SG_storeE (n := 5) (o := 0) (elt := y) (elt' := turnO (o : Int) (atC C rr (o : Int)).st y) hs2 rfl rfl rfl rfl Tryz.sizeOf76 rfl hel (Nat.le_refl 5) (by rw [← helt]; rfl) ?_;intro ws21 hcws21 hOws21;rw [Int.toNat_natCast, prt_set hel0] at hOws21;replace hb0 := hb0.trans (hcws21.below hb0.size (fun q hq e => by have := hsl2 q e; omega));replace hB3 := hB3.chg hcws21 (fun e => by have := hsl2 _ e; omega);replace hB4 := hB4.chg hcws21 (fun e => by have := hsl2 _ e; omega);replace hB6 := hB6.chg hcws21 (fun e => by have := hsl2 _ e; omega);replace hB8 := hB8.chg hcws21 (fun e => by have := hsl2 _ e; omega);replace hs1 := hs1.chg hcws21 (fun q e e2 => hs1.ne_type hs2 (by decide) q e e2);replace hs3 := hs3.chg hcws21 (fun q e e2 => hs3.ne_type hs2 (by decide) q e e2);replace hBs13x6 := hBs13x6.chg hcws21 (fun e => by have := hsl2 _ e; omega);clear hc95;clear hs2;have hs2 := hOws21;refine SG_nil ?_;refine D_block ?_;refine D_then ?_;refine W_region ?_;refine SG_q (Rq_move rfl) rfl ?_;refine SG_q (Rq_add rfl rfl (wrap_i64 (by omega) (by omega))) rfl ?_;refine SG_q (Rq_assign rfl) rfl ?_;refine SG_nil ?_;refine D_loop (x + 1) (by repeat (first | exact Sub.nil | refine Sub.cons rfl ?_)) ⟨hb0, by omega, ⟨hB3, hB4, hB6, hB8⟩, hs1, hs2, hs3⟩ (by omega)
     ·intro g50
      try simp only [dd] at g50
      rw [prt_len] at g50
      have hxe : x = C.ops.length := by omega
      refine W_exit ?_;refine D_then_exit ?_;refine D_loop_exit ?_;refine D_block_exit ?_;refine D_then ?_;refine W_seq ?_;refine W_seq ?_;refine W_region ?_;refine SG_q (Rq_assign rfl) rfl ?_;refine SG_nil ?_;refine D_then ?_;refine W_block ?_;refine W_loop (α := Nat) (fun x => [(12, .int .i64 (x : Nat)), (3, .pointer (some ⟨b3, 0, none⟩)), (4, .pointer (some ⟨b4, 0, none⟩)), (6, .pointer (some ⟨b6, 0, none⟩)), (8, .pointer (some ⟨b8, 0, none⟩))]) (fun x w' => Below w.heap.size w w' ∧ x ≤ C.roots.length ∧ (Blk w' b3 [.int .u8 rr, .int .i64 (o : Int)] 45 ∧ Blk w' b4 [.slice none 0 0, .slice none 0 0, .slice none 0 0] 26 ∧ Blk w' b6 (encD (atC C rr (o : Int))) 95 ∧ Blk w' b8 [.slice a1 n1 c1, .slice a2 n2 c2, .slice a3 n3 c3] 26) ∧ OS w' (.slice a1 n1 c1) 84 3 encC C.ch wa3.heap.size ∧ OS w' (.slice a2 n2 c2) 76 5 encO (prt (turnO (o : Int) (atC C rr (o : Int)).st) C.ops C.ops.length) wa3.heap.size ∧ OS w' (.slice a3 n3 c3) 3 1 encI (prt (turnI (o : Int) (atC C rr (o : Int)).st) C.roots x) wa3.heap.size) (fun x => C.roots.length - x) (0) (by repeat (first | exact Sub.nil | refine Sub.cons rfl ?_)) ⟨hb0, Nat.zero_le _, ⟨hB3, hB4, hB6, hB8⟩, hs1, by rw [← hxe]; exact hs2, by rw [prt_zero]; exact hs3⟩ ?_;clear hb0;clear hB3;clear hB4;clear hB6;clear hB8;clear hs1;clear hs2;clear hs3;rintro x wl1 ⟨hb0, hri, ⟨hB3, hB4, hB6, hB8⟩, hs1, hs2, hs3⟩;refine W_seq ?_;refine W_seq ?_;refine W_region ?_;refine SG_q (Rq_move rfl) rfl ?_;refine SG_q (Rq_fieldAddr fa26_2 rfl) rfl ?_;refine SG_q (Rq_loadB (hB8) Tryz.isAgg24 rfl rfl) rfl ?_
      first | refine SG_q (Rq_len (hs1.sl) Tryz.runUnderlying24 rfl) rfl ?_ | refine SG_q (Rq_len (hs2.sl) Tryz.runUnderlying24 rfl) rfl ?_ | refine SG_q (Rq_len (hs3.sl) Tryz.runUnderlying24 rfl) rfl ?_
      refine SG_q (Rq_lss rfl rfl) rfl (SG_nil (D_then ?_));refine W_cond rfl ?_ ?_
      ·intro g100
       try simp only [dd] at g100
       rw [prt_len] at g100
       have hrl : x < C.roots.length := by omega
       obtain ⟨m, hm⟩ : ∃ m, C.roots[x]? = some m := ⟨_, List.getElem?_eq_getElem hrl⟩
       have hmp : (prt (turnI (o : Int) (atC C rr (o : Int)).st) C.roots x)[x]? = some m := by rw [prt_get hri]; exact hm
       refine W_skip ?_;refine D_then ?_;refine W_seq ?_;refine W_block ?_;refine W_any 14 [[], [0], [], [], [3], [], [4, 5], [6], [], [8], [], [10], [7, 9, 11], [1, 2]] [det [] ?a25_0n2, det [0] ?a25_1n2, det [] ?a25_2n2, det [] ?a25_3n2, det [3] ?a25_4n2, det [] ?a25_5n2, det [4, 5] ?a25_6n2, det [6] ?a25_7n2, det [] ?a25_8n2, det [8] ?a25_9n2, det [] ?a25_10n2, det [10] ?a25_11n2, det [7, 9, 11] ?a25_12n2, det [1, 2] ?a25_13n2] Tryz.mixed (by kernel_rfl) rfl ⟨det_stab _ _, det_stab _ _, det_stab _ _, det_stab _ _, det_stab _ _, det_stab _ _, det_stab _ _, det_stab _ _, det_stab _ _, det_stab _ _, det_stab _ _, det_stab _ _, det_stab _ _, det_stab _ _, trivial⟩ ?_ ?_; rotate_left 14
       ·refine Obls_cons ?_ ?_
        ·intro wq hbq
         refine Obl_nil ?_
         refine Ex_q2 (Rq_fieldAddr fa26_2 rfl) ?_; first | exact rfl | rfl
        refine Obls_cons ?_ ?_
        ·intro wq hbq
         refine Obl_det rfl rfl (Obl_nil ?_)
         refine Ex_q2 (Rq_loadB ((hB8).below hbq) Tryz.isAgg24 rfl rfl) ?_; first | exact rfl | rfl
        refine Obls_cons ?_ ?_
        ·intro wq hbq
         refine Obl_nil ?_
         refine Ex_q2 (Rq_move rfl) ?_; first | exact rfl | rfl
        refine Obls_cons ?_ ?_
        ·intro wq hbq
         refine Obl_nil ?_
         refine Ex_q2 (Rq_fieldAddr fa26_2 rfl) ?_; first | exact rfl | rfl
        refine Obls_cons ?_ ?_
        ·intro wq hbq
         refine Obl_det rfl rfl (Obl_nil ?_)
         refine Ex_q2 (Rq_loadB ((hB8).below hbq) Tryz.isAgg24 rfl rfl) ?_; first | exact rfl | rfl
        refine Obls_cons ?_ ?_
        ·intro wq hbq
         refine Obl_nil ?_
         refine Ex_q2 (Rq_move rfl) ?_; first | exact rfl | rfl
        refine Obls_cons ?_ ?_
        ·intro wq hbq
         refine Obl_det rfl rfl (Obl_det rfl rfl (Obl_nil ?_))
         refine Ex_q2 (Rq_index (hs3.sl.below hbq) Tryz.runUnderlying24 Tryz.sizeOf3 rfl rfl (by omega) (by rw [prt_len]; omega)) ?_; first | exact rfl | rfl
        refine Obls_cons ?_ ?_
        ·intro wq hbq
         refine Obl_det rfl rfl (Obl_nil ?_)
         refine Ex_q2 (Rq_load Tryz.isAgg3 rfl (((hs3.sl.cells (((x : Nat) : Int)).toNat m hmp).below hbq).cell 0 rfl)) ?_; first | exact rfl | rfl
        refine Obls_cons ?_ ?_
        ·intro wq hbq
         refine Obl_nil ?_
         refine Ex_q2 (Rq_fieldAddr fa45_1 rfl) ?_; first | exact rfl | rfl
        refine Obls_cons ?_ ?_
        ·intro wq hbq
         refine Obl_det rfl rfl (Obl_nil ?_)
         refine Ex_q2 (Rq_loadB ((hB3).below hbq) Tryz.isAgg3 rfl rfl) ?_; first | exact rfl | rfl
        refine Obls_cons ?_ ?_
        ·intro wq hbq
         refine Obl_nil ?_
         refine Ex_q2 (Rq_fieldAddr fa95_0 rfl) ?_; first | exact rfl | rfl
        refine Obls_cons ?_ ?_
        ·intro wq hbq
         refine Obl_det rfl rfl (Obl_nil ?_)
         refine Ex_q2 (Rq_loadB ((hB6).below hbq) Tryz.isAgg3 rfl rfl) ?_; first | exact rfl | rfl
        refine Obls_cons ?_ ?_
        ·intro wq hbq
         refine Obl_det rfl rfl (Obl_det rfl rfl (Obl_det rfl rfl (Obl_nil ?_)))
         refine Ex_call rfl Tryz.call51 (fn_det2 (f51_c _ _ _ _) ?_); first | exact rfl | rfl
        refine Obls_cons ?_ ?_
        ·intro wq hbq
         refine Obl_det rfl rfl (Obl_det rfl rfl (Obl_nil ?_))
         refine Ex_q2 (Rq_index (hs3.sl.below hbq) Tryz.runUnderlying24 Tryz.sizeOf3 rfl rfl (by omega) (by rw [prt_len]; omega)) ?_; first | exact rfl | rfl
        exact Obls_nil
       ·intro wa25 hba25
        replace hb0 := btr hb0 hba25;replace hB3 := hB3.below hba25;replace hB4 := hB4.below hba25;replace hB6 := hB6.below hba25;replace hB8 := hB8.below hba25;replace hs1 := hs1.below hba25;replace hs2 := hs2.below hba25;replace hs3 := hs3.below hba25;refine Fin_det rfl (Fin_det rfl (Fin_det rfl (Fin_det rfl (Fin_det rfl (Fin_det rfl (Fin_det rfl (Fin_det rfl (Fin_det rfl (Fin_det rfl (Fin_det rfl (Fin_det rfl (Fin_det rfl (Fin_det rfl (Fin_nil ?_))))))))))))))
        simp only [List.drop_succ_cons, List.drop_zero]
        refine SG_storeE (n := 1) (o := 0) (elt := m) (elt' := turnI (o : Int) (atC C rr (o : Int)).st m) hs3 rfl rfl rfl rfl Tryz.sizeOf3 rfl hmp (Nat.le_refl 1) rfl ?_;intro ws25 hcws25 hOws25;rw [Int.toNat_natCast, prt_set hm] at hOws25;replace hb0 := hb0.trans (hcws25.below hb0.size (fun q hq e => by have := hsl3 q e; omega));replace hB3 := hB3.chg hcws25 (fun e => by have := hsl3 _ e; omega);replace hB4 := hB4.chg hcws25 (fun e => by have := hsl3 _ e; omega);replace hB6 := hB6.chg hcws25 (fun e => by have := hsl3 _ e; omega);replace hB8 := hB8.chg hcws25 (fun e => by have := hsl3 _ e; omega);replace hs1 := hs1.chg hcws25 (fun q e e2 => hs1.ne_type hs3 (by decide) q e e2);replace hs2 := hs2.chg hcws25 (fun q e e2 => hs2.ne_type hs3 (by decide) q e e2);clear hs3;have hs3 := hOws25;refine SG_nil ?_;refine D_block ?_;refine D_then ?_;refine W_region ?_;refine SG_q (Rq_move rfl) rfl ?_;refine SG_q (Rq_add rfl rfl (wrap_i64 (by omega) (by omega))) rfl ?_;refine SG_q (Rq_assign rfl) rfl ?_;refine SG_nil ?_;refine D_loop (x + 1) (by repeat (first | exact Sub.nil | refine Sub.cons rfl ?_)) ⟨hb0, by omega, ⟨hB3, hB4, hB6, hB8⟩, hs1, hs2, hs3⟩ (by omega)
      ·intro g100
       try simp only [dd] at g100
       rw [prt_len] at g100;refine W_exit (D_then_exit (D_loop_exit ?_));refine D_block_exit (D_then (W_seq (W_region ?_)))
       first | refine SG_q (Rq_loadBW (hB8) Tryz.isAgg26 Tryz.sizeOf26 rfl rfl) rfl ?_ | refine SG_q (Rq_loadBA (hB8) Tryz.isAgg26 Tryz.sizeOf26 rfl rfl rfl) rfl ?_
       refine SG_storeW (hB4) rfl rfl rfl rfl Tryz.sizeOf26 rfl rfl ?_;intro ws26x1 hchs26x1 hBs26x1;replace hb0 := bchg hb0 hchs26x1 hle4;replace hs1 := hs1.chg hchs26x1 (fun k e e2 => by first | exact ne_hs1_b4 k e e2 | (have := hs1.lt e; have := ne_hs1_b4; omega));replace hs2 := hs2.chg hchs26x1 (fun k e e2 => by first | exact ne_hs2_b4 k e e2 | (have := hs2.lt e; have := ne_hs2_b4; omega));replace hs3 := hs3.chg hchs26x1 (fun k e e2 => by first | exact ne_hs3_b4 k e e2 | (have := hs3.lt e; have := ne_hs3_b4; omega));clear hB4;refine SG_q (Rq_assign rfl) rfl ?_;refine SG_nil ?_;refine D_then ?_;refine W_ret ?_;refine D_bodyR2 rfl rfl (.cellW rfl (hBs26x1) Tryz.isAgg26 Tryz.sizeOf26 rfl) (.tmp rfl) ?_
       have hxr : C.roots.length ≤ x := by omega
       rw [prt_end (Nat.le_refl _)] at hs2;rw [prt_end hxr] at hs3
       have hapc : apC C ⟨rr, (o : Int)⟩ = ⟨C.ch, C.ops.map (turnO (o : Int) (atC C rr (o : Int)).st), C.roots.map (turnI (o : Int) (atC C rr (o : Int)).st)⟩ := by unfold apC; dsimp only; rw [if_pos hap]; unfold appR outC; dsimp only; rw [if_neg hstn]
       exact ⟨_, rfl, hb0, _, by rw [hap], a1, n1, c1, a2, n2, c2, a3, n3, c3, rfl, by rw [hapc]; exact hs1.le (by omega), by rw [hapc]; exact hs2.le (by omega), by rw [hapc]; exact hs3.le (by omega)⟩
end Go.Proofs.YtphmoebiobjfhaaGreat
