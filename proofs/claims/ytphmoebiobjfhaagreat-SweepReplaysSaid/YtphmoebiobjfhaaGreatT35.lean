/- Walks of functions, printed by a program of the author. -/
import Derived.Test.YtphmoebiobjfhaaGreatT33
set_option linter.all false
namespace Go.Proofs.YtphmoebiobjfhaaGreat
open Go Go.Mi Go.RowKit
set_option maxHeartbeats 2000000 in
theorem f20_c {v vl : Value} {C : Co} {l : List Rw} {w : World} (hC : CoS w v C) (hck : checkR C = 0) (hL : SL w vl 2 encR l) (hll : l.length ≤ 9000) : Mi.Fn Tryz.prog 20 #[v, vl] w fun u w' => ∃ vc, u = .tuple #[vc, .int .i64 (replayR C l).2.1, .int .i64 (replayR C l).2.2] ∧ CoL 0 (replayR C l).1 vc w' 0 0 := by
 obtain ⟨uC, uO, uR, rfl, hu1, hu2, hu3⟩ := hC.ex;have hlo1 := hu1.lt; have hlo2 := hu2.lt; have hlo3 := hu3.lt;have hlL := hL.lt
 have hr0 : replayR C l = replayF C (0 : Nat) (l.drop 0) := by unfold replayR; rw [if_neg (by simp [hck]), if_neg (by omega)]; rfl
 have hb0 := Below.refl w.heap.size w;refine calls_of_W Tryz.func20 rfl Tryz.ntmps20 rfl ?_;refine W_seq (W_region (SG_box rfl rfl rfl ?_));intro w2 b2 e2 hb2 hz2 hB2
 have hle2 : w.heap.size ≤ b2 := by have := hb0.size; omega
 have ne_hL_b2 := hL.fresh (b := b2) (by omega);replace hb0 := btr hb0 hb2;replace hu1 := hu1.below hb2;replace hu2 := hu2.below hb2;replace hu3 := hu3.below hb2;replace hL := hL.below hb2;refine SG_alloc Tryz.zeroValue26 rfl rfl ?_;intro w4 b4 e4 hb4 hz4 hB4
 have hle4 : w.heap.size ≤ b4 := by have := hb0.size; omega
 have ne_hu1_b4 := hu1.fresh (b := b4) (by omega);have ne_hu2_b4 := hu2.fresh (b := b4) (by omega);have ne_hu3_b4 := hu3.fresh (b := b4) (by omega);have ne_hL_b4 := hL.fresh (b := b4) (by omega)
 have ne_b2_4 : ¬ b2 = b4 := by have := hB2.lt; omega
 have ne_b4_2 : ¬ b4 = b2 := by omega
 replace hb0 := btr hb0 hb4;replace hu1 := hu1.below hb4;replace hu2 := hu2.below hb4;replace hu3 := hu3.below hb4;replace hL := hL.below hb4;replace hB2 := hB2.below hb4;refine SG_q (Rq_assign rfl) rfl (SG_q (Rq_assign rfl) rfl (SG_nil (D_then (W_seq (W_seq (W_region (SG_q (Rq_move rfl) rfl ?_)))))))
 first | refine SG_q (Rq_len (hu1) Tryz.runUnderlying30 rfl) rfl ?_ | refine SG_q (Rq_len (hu2) Tryz.runUnderlying30 rfl) rfl ?_ | refine SG_q (Rq_len (hu3) Tryz.runUnderlying30 rfl) rfl ?_ | refine SG_q (Rq_len (hL) Tryz.runUnderlying30 rfl) rfl ?_
 refine SG_q (Rq_gtr rfl rfl) rfl (SG_nil (D_then ?_));refine W_cond rfl ?_ ?_
 ·intro g12; exfalso; (try simp only [dd] at g12); omega
 ·intro g12
  try simp only [dd] at g12
  refine W_skip (D_then (W_seq (W_seq (W_region (SG_q (Rq_assign rfl) rfl (SG_nil (D_then (W_block ?_))))))))
  have ne_hL_b2 : 0 < l.length → ¬ sb vl = b2 := fun hp e => by have := hlL hp; omega
  have ne_hL_b4 : 0 < l.length → ¬ sb vl = b4 := fun hp e => by have := hlL hp; omega
  have ne_b4_2 := ne_b4_2;refine W_loop (α := Nat × Co × Value × Value × Value) (fun x => [(7, .int .i64 (x.1 : Nat)), (1, vl), (2, .pointer (some ⟨b2, 0, none⟩)), (4, .pointer (some ⟨b4, 0, none⟩))]) (fun x w' => Below w.heap.size w w' ∧ (x.1 ≤ l.length ∧ replayR C l = replayF x.2.1 (x.1 : Nat) (l.drop x.1) ∧ checkR x.2.1 = 0) ∧ Blk w' b2 [x.2.2.1, x.2.2.2.1, x.2.2.2.2] 26 ∧ Blk w' b4 [.slice none 0 0, .slice none 0 0, .slice none 0 0] 26 ∧ (SL w' x.2.2.1 3 encC x.2.1.ch ∧ SL w' x.2.2.2.1 5 encO x.2.1.ops ∧ SL w' x.2.2.2.2 1 encI x.2.1.roots) ∧ SL w' vl 2 encR l ∧ ((0 < x.2.1.ch.length → ¬ sb x.2.2.1 = b4) ∧ (0 < x.2.1.ops.length → ¬ sb x.2.2.2.1 = b4) ∧ (0 < x.2.1.roots.length → ¬ sb x.2.2.2.2 = b4))) (fun x => l.length - x.1) ((0, C, uC, uO, uR)) (by repeat (first | exact Sub.nil | refine Sub.cons rfl ?_)) ⟨hb0, ⟨Nat.zero_le _, hr0, hck⟩, hB2, hB4, ⟨hu1, hu2, hu3⟩, hL, (fun hp e => by have := hlo1 hp; dsimp only at e; omega), (fun hp e => by have := hlo2 hp; dsimp only at e; omega), (fun hp e => by have := hlo3 hp; dsimp only at e; omega)⟩ ?_;clear hb0;clear hu1;clear hu2;clear hu3;clear hL;clear hB2;clear hB4;rintro x wl0 ⟨hb0, ⟨hxi, hrl, hcx⟩, hB2, hB4, ⟨hu1, hu2, hu3⟩, hL, ne_hu1_b4, ne_hu2_b4, ne_hu3_b4⟩;refine W_seq ?_;refine W_seq ?_;refine W_region ?_;refine SG_q (Rq_move rfl) rfl ?_;refine SG_q (Rq_move rfl) rfl ?_
  first | refine SG_q (Rq_len (hu1) Tryz.runUnderlying30 rfl) rfl ?_ | refine SG_q (Rq_len (hu2) Tryz.runUnderlying30 rfl) rfl ?_ | refine SG_q (Rq_len (hu3) Tryz.runUnderlying30 rfl) rfl ?_ | refine SG_q (Rq_len (hL) Tryz.runUnderlying30 rfl) rfl ?_
  refine SG_q (Rq_lss rfl rfl) rfl (SG_nil (D_then ?_));refine W_cond rfl ?_ ?_
  ·intro g17
   try simp only [dd] at g17
   have hxl : x.1 < l.length := by omega
   obtain ⟨⟨rr, ro⟩, hel⟩ : ∃ r, l[x.1]? = some r := ⟨_, List.getElem?_eq_getElem hxl⟩
   have hst := replay_step hrl hel;have hlx := (check_ok hcx).1;refine W_skip (D_then (W_seq (W_block (W_seq (W_seq (W_quiet (Tryz.mixed) (by kernel_rfl) ?_))))));refine QS_q (Rq_move rfl) rfl (QS_q (Rq_move rfl) rfl ?_)
   first | refine QS_index (hu1) Tryz.runUnderlying30 Tryz.sizeOf45 rfl rfl ?_ ?_ rfl ?_ | refine QS_index (hu2) Tryz.runUnderlying30 Tryz.sizeOf45 rfl rfl ?_ ?_ rfl ?_ | refine QS_index (hu3) Tryz.runUnderlying30 Tryz.sizeOf45 rfl rfl ?_ ?_ rfl ?_ | refine QS_index (hL) Tryz.runUnderlying30 Tryz.sizeOf45 rfl rfl ?_ ?_ rfl ?_
   ·omega
   ·omega
   intro x22 hx22 hc22;have ex22 := Option.some.inj ((hel).symm.trans hx22); subst ex22;refine QS_q (Rq_fieldAddr fa45_1 rfl) rfl ?_;refine QS_q (Rq_load Tryz.isAgg3 rfl ((hc22).cell 1 rfl)) rfl ?_;refine QS_q (Rq_lss rfl rfl) rfl ?_;refine QS_q (Rq_move rfl) rfl ?_;refine QS_or (r := ?r26n1) 10 36 26 rfl ?_ ?_ ?_; rotate_left
   ·intro g26 K26
    have g26' := g26; try simp only [dd] at g26'
    refine QS_yes 26 rfl rfl g26 (QS_q (Rq_move rfl) rfl (QS_yes 26 rfl rfl g26 (QS_q (Rq_move rfl) rfl (QS_yes 26 rfl rfl g26 ?_))))
    first | refine QS_index (hu1) Tryz.runUnderlying30 Tryz.sizeOf45 rfl rfl ?_ ?_ rfl ?_ | refine QS_index (hu2) Tryz.runUnderlying30 Tryz.sizeOf45 rfl rfl ?_ ?_ rfl ?_ | refine QS_index (hu3) Tryz.runUnderlying30 Tryz.sizeOf45 rfl rfl ?_ ?_ rfl ?_ | refine QS_index (hL) Tryz.runUnderlying30 Tryz.sizeOf45 rfl rfl ?_ ?_ rfl ?_
    ·omega
    ·omega
    intro x29 hx29 hc29;have ex29 := Option.some.inj ((hel).symm.trans hx29); subst ex29;refine QS_yes 26 rfl rfl g26 (QS_q (Rq_fieldAddr fa45_1 rfl) rfl (QS_yes 26 rfl rfl g26 (QS_q (Rq_load Tryz.isAgg3 rfl ((hc29).cell 1 rfl)) rfl (QS_yes 26 rfl rfl g26 (QS_q (Rq_fieldAddr fa26_1 rfl) rfl (QS_yes 26 rfl rfl g26 (QS_q (Rq_loadB (hB2) Tryz.isAgg23 rfl rfl) rfl (QS_yes 26 rfl rfl g26 ?_))))))))
    first | refine QS_q (Rq_len (hu1) Tryz.runUnderlying23 rfl) rfl ?_ | refine QS_q (Rq_len (hu2) Tryz.runUnderlying23 rfl) rfl ?_ | refine QS_q (Rq_len (hu3) Tryz.runUnderlying23 rfl) rfl ?_ | refine QS_q (Rq_len (hL) Tryz.runUnderlying23 rfl) rfl ?_
    refine QS_yes 26 rfl rfl g26 (QS_q (Rq_geq rfl rfl) rfl (QS_q (Rq_pick rfl (fun h => absurd (g26.symm.trans h) (by decide)) (fun _ => rfl)) rfl ?_));exact K26 _ (by repeat (first | exact Sub.refl | refine Sub.shadow ?_ | refine Sub.same ?_ | refine Sub.push rfl ?_))
   ·intro g26 K26
    have g26' := g26; try simp only [dd] at g26'
    refine QS_no 26 rfl rfl g26 rfl (QS_no 26 rfl rfl g26 rfl (QS_no 26 rfl rfl g26 rfl (QS_no 26 rfl rfl g26 rfl (QS_no 26 rfl rfl g26 rfl (QS_no 26 rfl rfl g26 rfl (QS_no 26 rfl rfl g26 rfl (QS_no 26 rfl rfl g26 rfl (QS_no 26 rfl rfl g26 rfl (QS_q (Rq_pick rfl (fun _ => rfl) (fun h => absurd (g26.symm.trans h) (by decide))) rfl ?_)))))))));exact K26 _ (by repeat (first | exact Sub.refl | refine Sub.shadow ?_ | refine Sub.same ?_ | refine Sub.push rfl ?_))
   simp only [List.drop_succ_cons, List.drop_zero]
   refine QS_nil ?_;intro wr6 hbr6;replace hb0 := btr hb0 hbr6;replace hB2 := hB2.below hbr6;replace hB4 := hB4.below hbr6;replace hu1 := hu1.below hbr6;replace hu2 := hu2.below hbr6;replace hu3 := hu3.below hbr6;replace hL := hL.below hbr6;refine D_then ?_;refine W_cond rfl ?_ ?_
   ·intro g36
    try simp only [dd] at g36
    have hrp := hst.1 (by rw [apply_out (by dsimp only; omega)]; decide);rw [apply_out (by dsimp only; omega)] at hrp;refine W_seq ?_;refine W_region ?_;refine SG_q (Rq_build0 build26_) rfl ?_;refine SG_q (Rq_move rfl) rfl ?_;refine SG_storeW (hB4) rfl rfl rfl rfl Tryz.sizeOf26 rfl rfl ?_;intro ws7x2 hchs7x2 hBs7x2;replace hb0 := bchg hb0 hchs7x2 hle4;clear hc22;clear hB4;refine SG_q (Rq_assign rfl) rfl ?_;refine SG_q (Rq_assign rfl) rfl ?_;refine SG_nil ?_;refine D_then ?_;refine W_ret ?_;refine D_then_ret ?_;refine D_block_ret ?_;refine D_then_ret ?_;refine D_loop_ret ?_;refine D_block_ret ?_;refine D_then_ret ?_;refine D_bodyR3 rfl rfl (.cellW rfl (hBs7x2) Tryz.isAgg26 Tryz.sizeOf26 rfl) (.tmp rfl) (.tmp rfl) ?_;exact ⟨_, rfl, hb0, _, by rw [hrp], by rw [hrp]; exact (CoW.no (EC := 0) (EO := 0) (ER := 0)).co⟩
   ·intro g36
    try simp only [dd] at g36
    obtain ⟨o, rfl⟩ := Int.eq_ofNat_of_zero_le (show 0 ≤ ro by omega)
    have ho : o < x.2.1.ops.length := by omega
    refine W_skip ?_;refine D_then ?_;refine W_seq ?_;have hz4 := hB4.lt; have hz2 := hB2.lt;refine W_anyG 11 [[], [], [], [1, 2], [3], [0, 4], [5], [6], [6], [], [9, 7]] (List.replicate 1 (FrE wr6.heap.size 26 3)) (fun w9 => Below wr6.heap.size wr6 w9) [gdet [] ?a8_0n2, gdet [] ?a8_1n2, gdet [] ?a8_2n2, gdet [1, 2] ?a8_3n2, gdet [3] ?a8_4n2, gfrs [0, 4] ((fun v w _ _ => ApR 84 76 3 wr6.heap.size x.2.1 ⟨rr, (o : Int)⟩ v w)), gfrs [5] ((fun v w _ _ => ApR 84 76 3 wr6.heap.size x.2.1 ⟨rr, (o : Int)⟩ v w)), gfrs [6] ((fun v w _ _ => CoW 84 76 3 wr6.heap.size (apC x.2.1 ⟨rr, (o : Int)⟩) v w 0 0)), gdet [6] ?a8_8n2, gfrs [] (AllocL wr6.heap.size 26 3), gsv 0 [9, 7] (StRf 26 (fun vs => (vs.getD 1 undef).cells.toList)) StV] Tryz.mixed (by kernel_rfl) (by kernel_rfl) rfl rfl (fr_ok rfl) (fs_stab (tg := [9]) rfl (by decide) ⟨.det, .det, .det, .det, .det, .val (fun _ _ _ _ _ hc h => h.frR (by decide) (by decide) (by decide) hc), .val (fun _ _ _ _ _ hc h => h.frR (by decide) (by decide) (by decide) hc), .val (fun _ _ _ _ _ hc h => h.frR (by decide) (by decide) (by decide) hc), .det, .frs, .sv rfl rfl, trivial⟩) (Below.refl _ _) (fun h => h.drew) ?_ ?_; rotate_left 6
    ·refine GObls_cons ?_ ?_
     ·intro wq hq hzq
      refine GObl_nil ?_
      first | (refine GEx_q2 (Rq_loadBW ((hB2).below hq) Tryz.isAgg26 Tryz.sizeOf26 rfl rfl) ?_; first | exact rfl | rfl) | (refine GEx_q2 (Rq_loadBA ((hB2).below hq) Tryz.isAgg26 Tryz.sizeOf26 rfl rfl rfl) ?_; first | exact rfl | rfl)
     refine GObls_cons ?_ ?_
     ·intro wq hq hzq
      refine GObl_nil ?_
      refine GEx_q2 (Rq_move rfl) ?_; first | exact rfl | rfl
     refine GObls_cons ?_ ?_
     ·intro wq hq hzq
      refine GObl_nil ?_
      refine GEx_q2 (Rq_move rfl) ?_; first | exact rfl | rfl
     refine GObls_cons ?_ ?_
     ·intro wq hq hzq
      refine GObl_det rfl rfl rfl (GObl_det rfl rfl rfl (GObl_nil ?_))
      refine GEx_q2 (Rq_index (hL.below hq) Tryz.runUnderlying30 Tryz.sizeOf45 rfl rfl (by omega) (by omega)) ?_; first | exact rfl | rfl
     refine GObls_cons ?_ ?_
     ·intro wq hq hzq
      refine GObl_det rfl rfl rfl (GObl_nil ?_)
      refine GEx_q2 (Rq_loadA Tryz.isAgg45 Tryz.sizeOf45 rfl ((hL.cells _ _ hel).below hq) rfl) ?_; first | exact rfl | rfl
     refine GObls_cons ?_ ?_
     ·intro wq hq hzq
      refine GObl_det rfl rfl rfl (GObl_det rfl rfl rfl (GObl_nil ?_));exact GEx.of (Ex_call rfl Tryz.call24 (Fn.mono (f24_c (⟨⟨_, _, _, rfl, hu1.below hq, hu2.below hq, hu3.below hq⟩⟩ : CoS _ _ x.2.1) hcx rr ho) fun v w' hb h => h.le hzq))
     refine GObls_cons ?_ ?_
     ·intro wq hq hzq
      refine GObl_frs rfl rfl rfl ?_; intro v45 lo45 hi45 hle45 hR45;refine GObl_nil ?_;exact GEx_qv (Rq_move rfl) (fun _ _ => hR45)
     refine GObls_cons ?_ ?_
     ·intro wq hq hzq
      refine GObl_frs rfl rfl rfl ?_; intro v39 lo39 hi39 hle39 hR39;refine GObl_nil ?_;obtain ⟨vc, rfl, hcw⟩ := hR39;exact GEx_qv (Rq_extract rfl rfl) (fun _ _ => hcw)
     refine GObls_cons ?_ ?_
     ·intro wq hq hzq
      refine GObl_frs rfl rfl rfl ?_; intro v39 lo39 hi39 hle39 hR39;refine GObl_nil ?_;obtain ⟨vc, rfl, _⟩ := hR39
      refine GEx_q2 (Rq_extract rfl rfl) ?_; first | exact rfl | rfl
     refine GObls_cons ?_ ?_
     ·intro wq hq hzq
      refine GObl_nil ?_;exact GEx_allocL (ds := []) (v := undef) (cs := [.slice none 0 0, .slice none 0 0, .slice none 0 0]) hzq (Ex_alloc Tryz.zeroValue26 rfl)
     refine GObls_cons ?_ ?_
     ·intro wq hq hzq
      refine GObl_frs rfl rfl rfl ?_; intro v8 lo8 hi8 hle8 hR8;refine GObl_frs rfl rfl rfl ?_; intro v46 lo46 hi46 hle46 hR46;refine GObl_nil ?_;obtain ⟨a1, n1, c1, a2, n2, c2, a3, n3, c3, rfl, _⟩ := hR46;exact GEx_stFf hR8 rfl rfl rfl rfl Tryz.sizeOf26 rfl rfl rfl rfl (by decide)
     exact GObls_nil
    ·intro wa8 hba8 hzz8
     refine GFin_det rfl ?_;refine GFin_det rfl ?_;refine GFin_det rfl ?_;refine GFin_det rfl ?_;refine GFin_det rfl ?_;refine GFin_frs rfl ?_; intro v45 lo45 hi45 hR45 hlB45 hlh45 hhw45 hdj45;refine GFin_frs rfl ?_; intro v39 lo39 hi39 hR39 hlB39 hlh39 hhw39 hdj39;refine GFin_frs rfl ?_; intro v46 lo46 hi46 hR46 hlB46 hlh46 hhw46 hdj46;refine GFin_det rfl ?_;refine GFin_frs rfl ?_; intro v8 lo8 hi8 hR8 hlB8 hlh8 hhw8 hdj8;refine GFin_sv rfl ?_; intro hs8x10 _; simp only [List.nil_append, List.cons_append, List.map_cons, List.map_nil, List.getD_cons_succ, List.getD_cons_zero, List.getElem?_cons_succ, List.getElem?_cons_zero] at hs8x10;refine GFin_nil ?_
     simp only [List.drop_succ_cons, List.drop_zero]
     replace hb0 := btr hb0 hba8;replace hB2 := hB2.below hba8;replace hB4 := hB4.below hba8;replace hu1 := hu1.below hba8;replace hu2 := hu2.below hba8;replace hu3 := hu3.below hba8;replace hL := hL.below hba8;obtain ⟨b8, rfl, hlo8, _, _, _⟩ := hR8;obtain ⟨a1, n1, c1, a2, n2, c2, a3, n3, c3, rfl, hw1, hw2, hw3⟩ := hR46;obtain ⟨c8, hv8, hB8⟩ := hs8x10;replace hv8 : Value.pointer (some ⟨b8, 0, none⟩) = .pointer (some ⟨c8, 0, none⟩) := hv8;cases hv8;replace hB8 : Blk wa8 b8 [.slice a1 n1 c1, .slice a2 n2 c2, .slice a3 n3 c3] 26 := hB8;clear hu1 hu2 hu3 ne_hu1_b4 ne_hu2_b4 ne_hu3_b4
     have ne_hw1_b2 : ∀ q, Value.ownBlock (.slice a1 n1 c1) = some q → ¬ q = b2 := fun q e => by have := (hw1.lt e).1; omega
     have ne_hw1_b4 : ∀ q, Value.ownBlock (.slice a1 n1 c1) = some q → ¬ q = b4 := fun q e => by have := (hw1.lt e).1; omega
     have ne_hw2_b2 : ∀ q, Value.ownBlock (.slice a2 n2 c2) = some q → ¬ q = b2 := fun q e => by have := (hw2.lt e).1; omega
     have ne_hw2_b4 : ∀ q, Value.ownBlock (.slice a2 n2 c2) = some q → ¬ q = b4 := fun q e => by have := (hw2.lt e).1; omega
     have ne_hw3_b2 : ∀ q, Value.ownBlock (.slice a3 n3 c3) = some q → ¬ q = b2 := fun q e => by have := (hw3.lt e).1; omega
     have ne_hw3_b4 : ∀ q, Value.ownBlock (.slice a3 n3 c3) = some q → ¬ q = b4 := fun q e => by have := (hw3.lt e).1; omega
     refine SG_q (Rq_assign rfl) rfl (SG_nil (D_then (W_seq (W_seq (W_region (SG_q (Rq_move rfl) rfl (SG_q (Rq_not rfl) rfl (SG_nil (D_then ?_)))))))));refine W_cond rfl ?_ ?_
     ·intro g49
      try simp only [dd] at g49
      have hap : (atC x.2.1 rr (o : Int)).ap = false := by simpa using g49
      have hno := apply_no (C := x.2.1) (r := ⟨rr, (o : Int)⟩) (by dsimp only; omega) (by dsimp only; omega) hap;have hrp := hst.1 (by rw [hno]; decide);rw [hno] at hrp;refine W_seq ?_;refine W_region ?_;refine SG_q (Rq_build0 build26_) rfl ?_;refine SG_q (Rq_move rfl) rfl ?_;refine SG_storeW (hB4) rfl rfl rfl rfl Tryz.sizeOf26 rfl rfl ?_;intro ws10x2 hchs10x2 hBs10x2;replace hb0 := bchg hb0 hchs10x2 hle4;replace hw1 := hw1.chg hchs10x2 (fun k e e2 => by first | exact ne_hw1_b4 k e e2 | (have := hw1.lt e; have := ne_hw1_b4; omega));replace hw2 := hw2.chg hchs10x2 (fun k e e2 => by first | exact ne_hw2_b4 k e e2 | (have := hw2.lt e; have := ne_hw2_b4; omega));replace hw3 := hw3.chg hchs10x2 (fun k e e2 => by first | exact ne_hw3_b4 k e e2 | (have := hw3.lt e; have := ne_hw3_b4; omega));clear hB4;refine SG_q (Rq_assign rfl) rfl ?_;refine SG_q (Rq_assign rfl) rfl ?_;refine SG_nil ?_;refine D_then ?_;refine W_ret ?_;refine D_then_ret ?_;refine D_block_ret ?_;refine D_then_ret ?_;refine D_loop_ret ?_;refine D_block_ret ?_;refine D_then_ret ?_;refine D_bodyR3 rfl rfl (.cellW rfl (hBs10x2) Tryz.isAgg26 Tryz.sizeOf26 rfl) (.tmp rfl) (.tmp rfl) ?_;exact ⟨_, rfl, hb0, _, by rw [hrp], by rw [hrp]; exact (CoW.no (EC := 0) (EO := 0) (ER := 0)).co⟩
     ·intro g49
      try simp only [dd] at g49
      have hap : (atC x.2.1 rr (o : Int)).ap = true := by simpa using g49
      have hyes := apply_yes (C := x.2.1) (r := ⟨rr, (o : Int)⟩) (by dsimp only; omega) (by dsimp only; omega) hap;have hrl2 := hst.2 (by rw [hyes]);rw [hyes] at hrl2;rw [apC_yes (C := x.2.1) (r := ⟨rr, (o : Int)⟩) hap] at hw1 hw2 hw3;have hck2 := app_check (r := ⟨rr, (o : Int)⟩) hcx (by dsimp only; omega) (by dsimp only; omega) hap;refine W_skip ?_;refine D_then ?_;refine W_region ?_
      first | refine SG_q (Rq_loadBW (hB8) Tryz.isAgg26 Tryz.sizeOf26 rfl rfl) rfl ?_ | refine SG_q (Rq_loadBA (hB8) Tryz.isAgg26 Tryz.sizeOf26 rfl rfl rfl) rfl ?_
      refine SG_storeW (hB2) rfl rfl rfl rfl Tryz.sizeOf26 rfl rfl ?_;intro ws11x1 hchs11x1 hBs11x1;replace hb0 := bchg hb0 hchs11x1 hle2;replace hB4 := hB4.chg hchs11x1 ne_b4_2;replace hL := hL.chg hchs11x1 ne_hL_b2;replace hw1 := hw1.chg hchs11x1 (fun k e e2 => by first | exact ne_hw1_b2 k e e2 | (have := hw1.lt e; have := ne_hw1_b2; omega));replace hw2 := hw2.chg hchs11x1 (fun k e e2 => by first | exact ne_hw2_b2 k e e2 | (have := hw2.lt e; have := ne_hw2_b2; omega));replace hw3 := hw3.chg hchs11x1 (fun k e e2 => by first | exact ne_hw3_b2 k e e2 | (have := hw3.lt e; have := ne_hw3_b2; omega));clear hB2;refine SG_nil ?_;refine D_block ?_;refine D_then ?_;refine W_region ?_;refine SG_q (Rq_move rfl) rfl ?_;refine SG_q (Rq_add rfl rfl (wrap_i64 (by omega) (by omega))) rfl ?_;refine SG_q (Rq_assign rfl) rfl ?_;refine SG_nil ?_;refine D_loop ((x.1 + 1, appR x.2.1 ⟨rr, (o : Int)⟩, Value.slice a1 n1 c1, Value.slice a2 n2 c2, Value.slice a3 n3 c3)) (by repeat (first | exact Sub.nil | refine Sub.cons rfl ?_)) ⟨hb0, ⟨by dsimp only; omega, hrl2, hck2⟩, hBs11x1, hB4, ⟨hw1.sl, hw2.sl, hw3.sl⟩, hL, (fun hp e => ne_hw1_b4 _ (sb_own hw1.sl hp) e), (fun hp e => ne_hw2_b4 _ (sb_own hw2.sl hp) e), (fun hp e => ne_hw3_b4 _ (sb_own hw3.sl hp) e)⟩ (by dsimp only; omega)
  ·intro g17
   try simp only [dd] at g17
   refine W_exit (D_then_exit (D_loop_exit ?_));refine D_block_exit (D_then (W_seq (W_region ?_)))
   first | refine SG_q (Rq_loadBW (hB2) Tryz.isAgg26 Tryz.sizeOf26 rfl rfl) rfl ?_ | refine SG_q (Rq_loadBA (hB2) Tryz.isAgg26 Tryz.sizeOf26 rfl rfl rfl) rfl ?_
   refine SG_q (Rq_move rfl) rfl ?_
   first | refine SG_q (Rq_len (hu1) Tryz.runUnderlying30 rfl) rfl ?_ | refine SG_q (Rq_len (hu2) Tryz.runUnderlying30 rfl) rfl ?_ | refine SG_q (Rq_len (hu3) Tryz.runUnderlying30 rfl) rfl ?_ | refine SG_q (Rq_len (hL) Tryz.runUnderlying30 rfl) rfl ?_
   refine SG_storeW (hB4) rfl rfl rfl (by simp [List.all, one_sl hu1, one_sl hu2, one_sl hu3]) Tryz.sizeOf26 rfl rfl ?_;intro ws12x3 hchs12x3 hBs12x3;replace hb0 := bchg hb0 hchs12x3 hle4;replace hu1 := hu1.chg hchs12x3 ne_hu1_b4;replace hu2 := hu2.chg hchs12x3 ne_hu2_b4;replace hu3 := hu3.chg hchs12x3 ne_hu3_b4;clear hB4;refine SG_q (Rq_assign rfl) rfl ?_;refine SG_q (Rq_assign rfl) rfl ?_;refine SG_nil ?_;refine D_then ?_;refine W_ret ?_;refine D_bodyR3 rfl rfl (.cellW rfl (hBs12x3) Tryz.isAgg26 Tryz.sizeOf26 rfl) (.tmp rfl) (.tmp rfl) ?_;have hre := replay_end hrl (by omega);obtain ⟨q1, s1, e1⟩ := hu1.len; obtain ⟨q2, s2, e2⟩ := hu2.len; obtain ⟨q3, s3, e3⟩ := hu3.len;exact ⟨_, rfl, hb0, .agg #[x.2.2.1, x.2.2.2.1, x.2.2.2.2], by rw [hre]; dsimp only; rw [show l.length = x.1 by omega], q1, _, s1, q2, _, s2, q3, _, s3, by rw [e1, e2, e3], by rw [hre]; exact ⟨e1 ▸ hu1, e2 ▸ hu2, e3 ▸ hu3⟩, fun _ => Nat.zero_le _, fun _ => Nat.zero_le _, fun _ => Nat.zero_le _⟩
end Go.Proofs.YtphmoebiobjfhaaGreat
