/- Walks of functions, printed by a program of the author. -/
import Derived.Test.YtphmoebiobjfhaaGreatT40
set_option linter.all false
namespace Go.Proofs.YtphmoebiobjfhaaGreat
open Go Go.Mi Go.RowKit
theorem build26_0_1 (v u : Value) (w : World) (hv : one1 v = true) (hu : one1 u = true) : (Instr.build 26 #[(0, v), (1, u)]).run Tryz.prog w = .ok (.agg [v, u, (.slice none 0 0)].toArray) w := by
 unfold Instr.build
 simp [Sem.run_bind, Tryz.zeroValue26, Tryz.runUnderlying26, Tryz.sizeOf22, Tryz.sizeOf23, Tryz.sizeOf24, Instr.fill, cells_one hv, cells_one hu, Result.andThen, cells_agg]
theorem build76_0_1_2_3 (v u t s : Value) (w : World) (hv : one1 v = true) (hu : one1 u = true) (ht : one1 t = true) (hs : one1 s = true) : (Instr.build 76 #[(0, v), (1, u), (2, t), (3, s)]).run Tryz.prog w = .ok (.agg [v, u, t, s, (.int .i64 0)].toArray) w := by
 unfold Instr.build
 simp [Sem.run_bind, Tryz.zeroValue76, Tryz.runUnderlying76, Tryz.sizeOf3, Tryz.sizeOf5, Instr.fill, cells_one hv, cells_one hu, cells_one ht, cells_one hs, Result.andThen, cells_agg]
set_option maxHeartbeats 4000000 in
theorem f32_c {vx : Value} {xs : List Qd} {w : World} (hx : SL w vx 4 encQ xs) (hq : ∀ z ∈ xs, okQ z) : Mi.Fn Tryz.prog 32 #[vx] w fun u w' => ∃ C, GoodC C ∧ CoW 84 76 3 w.heap.size C u w' 0 0 := by
 have hxl := hx.lt;have hqq := hq;clear hq;have hb0 := Below.refl w.heap.size w;refine calls_of_W Tryz.func32 rfl Tryz.ntmps32 rfl ?_;refine W_seq (W_region (SG_alloc Tryz.zeroValue26 rfl rfl ?_));intro w2 b2 e2 hb2 hz2 hB2
 have hle2 : w.heap.size ≤ b2 := by have := hb0.size; omega
 replace hb0 := btr hb0 hb2;replace hx := hx.below hb2;refine SG_nil (D_then (W_seq (W_region (SG_q (Rq_build3 build84_0_1_2 rfl rfl rfl rfl rfl rfl ) rfl (SG_q (Rq_build3 build84_0_1_2 rfl rfl rfl rfl rfl rfl ) rfl (SG_bslice (enc := encC) (val := valC) (os := [.tmp 12, .tmp 13]) rfl rfl (MV.cons (x := chA) (MV.cons (x := chB) MV.nil)) (fun _ => rfl) (fun _ => rfl) Tryz.runUnderlying22 Tryz.sizeOf84 Tryz.zeroValue84 rfl (by decide) (by decide) rfl ?_))))));intro w14 v14 b14 e14 hb14 hz14 hob14 hO14
 have hle14 : w.heap.size ≤ b14 := by have := hb0.size; omega
 have lt_b2_14 : b2 < b14 := by have := hB2.lt; omega
 replace hb0 := btr hb0 hb14;replace hx := hx.below hb14;replace hB2 := hB2.below hb14;refine SG_pure rfl Tryz.call39 rfl (f39_c _ _) ?_;intro w15 hb15;replace hb0 := btr hb0 hb15;replace hx := hx.below hb15;replace hB2 := hB2.below hb15;replace hO14 := hO14.below hb15;refine SG_pure rfl Tryz.call39 rfl (f39_c _ _) ?_;intro w16 hb16;replace hb0 := btr hb0 hb16;replace hx := hx.below hb16;replace hB2 := hB2.below hb16;replace hO14 := hO14.below hb16;refine SG_pure rfl Tryz.call37 rfl (f37_c _ _) ?_;intro w17 hb17;replace hb0 := btr hb0 hb17;replace hx := hx.below hb17;replace hB2 := hB2.below hb17;replace hO14 := hO14.below hb17;refine SG_pure rfl Tryz.call37 rfl (f37_c _ _) ?_;intro w18 hb18;replace hb0 := btr hb0 hb18;replace hx := hx.below hb18;replace hB2 := hB2.below hb18;replace hO14 := hO14.below hb18;refine SG_bslice (enc := encO) (val := valO) (os := [.tmp 15, .tmp 16, .tmp 17, .tmp 18]) rfl rfl (MV.cons (x := (⟨3, 0, 0, 0, 0⟩ : Ot)) (MV.cons (x := (⟨3, 0, 0, 0, 1⟩ : Ot)) (MV.cons (x := (⟨1, 0, 0, 0, 0⟩ : Ot)) (MV.cons (x := (⟨1, 0, 0, 0, 1⟩ : Ot)) MV.nil)))) (fun _ => rfl) (fun _ => rfl) Tryz.runUnderlying23 Tryz.sizeOf76 Tryz.zeroValue76 rfl (by decide) (by decide) rfl ?_;intro w19 v19 b19 e19 hb19 hz19 hob19 hO19
 have hle19 : w.heap.size ≤ b19 := by have := hb0.size; omega
 have lt_b2_19 : b2 < b19 := by have := hB2.lt; omega
 replace hb0 := btr hb0 hb19;replace hx := hx.below hb19;replace hB2 := hB2.below hb19;replace hO14 := hO14.below hb19
 obtain ⟨a_v14, n_v14, c_v14, h_v14⟩ : ∃ a n c, v14 = Value.slice a n c := by obtain ⟨a, c, h⟩ := (hO14.sl).len; exact ⟨_, _, _, h⟩
 subst h_v14
 obtain ⟨a_v19, n_v19, c_v19, h_v19⟩ : ∃ a n c, v19 = Value.slice a n c := by obtain ⟨a, c, h⟩ := (hO19.sl).len; exact ⟨_, _, _, h⟩
 subst h_v19;refine SG_q (Rq_build2 build26_0_1 rfl rfl rfl rfl ) rfl (SG_alloc Tryz.zeroValue26 rfl rfl ?_);intro w3 b3 e3 hb3 hz3 hB3
 have hle3 : w.heap.size ≤ b3 := by have := hb0.size; omega
 have ne_hx_b3 := hx.fresh (b := b3) (by omega)
 have ne_b2_3 : ¬ b2 = b3 := by have := hB2.lt; omega
 have ne_hO14_b3 : ∀ k, Value.ownBlock (.slice a_v14 n_v14 c_v14) = some k → ¬ k = b3 := fun k e => by have := hO14.lt e; omega
 have ne_hO19_b3 : ∀ k, Value.ownBlock (.slice a_v19 n_v19 c_v19) = some k → ¬ k = b3 := fun k e => by have := hO19.lt e; omega
 replace hb0 := btr hb0 hb3;replace hx := hx.below hb3;replace hB2 := hB2.below hb3;replace hO14 := hO14.below hb3;replace hO19 := hO19.below hb3;refine SG_storeW (hB3) rfl rfl rfl rfl Tryz.sizeOf26 rfl rfl ?_;intro ws1x10 hchs1x10 hBs1x10;replace hb0 := bchg hb0 hchs1x10 hle3;replace hx := hx.chg hchs1x10 ne_hx_b3;replace hB2 := hB2.chg hchs1x10 ne_b2_3;replace hO14 := hO14.chg hchs1x10 (fun k e e2 => by first | exact ne_hO14_b3 k e e2 | (have := hO14.lt e; have := ne_hO14_b3; omega));replace hO19 := hO19.chg hchs1x10 (fun k e e2 => by first | exact ne_hO19_b3 k e e2 | (have := hO19.lt e; have := ne_hO19_b3; omega));clear hB3;refine SG_nil ?_;refine D_then ?_;refine W_seq ?_;refine W_seq ?_;refine W_region ?_;refine SG_q (Rq_assign rfl) rfl ?_;refine SG_nil ?_;refine D_then ?_;refine W_block ?_
 have hcb2 : ∀ k, Value.ownBlock (.slice a_v14 n_v14 c_v14) = some k → ¬ k = b2 := fun k e => by have e9 := Option.some.inj (hob14.symm.trans e); omega
 have hcb3 : ∀ k, Value.ownBlock (.slice a_v14 n_v14 c_v14) = some k → ¬ k = b3 := fun k e => ne_hO14_b3 k e
 have hxb2 : 0 < xs.length → ¬ sb vx = b2 := fun hp e => by have := hxl hp; omega
 have hxb3 : 0 < xs.length → ¬ sb vx = b3 := fun hp e => by have := hxl hp; omega
 refine W_loop (α := Nat × List Ot × Value) (fun x => [(4, .int .i64 (x.1 : Nat)), (0, vx), (3, .pointer (some ⟨b3, 0, none⟩)), (2, .pointer (some ⟨b2, 0, none⟩))]) (fun x w' => Below w.heap.size w w' ∧ (x.1 ≤ 30 ∧ x.2.1.length = 4 + x.1 ∧ ∀ (j : Nat) (y : Ot), x.2.1[j]? = some y → gOp j y) ∧ Blk w' b2 [.slice none 0 0, .slice none 0 0, .slice none 0 0] 26 ∧ Blk w' b3 [.slice a_v14 n_v14 c_v14, x.2.2, .slice none 0 0] 26 ∧ OS w' (.slice a_v14 n_v14 c_v14) 84 3 encC [chA, chB] w.heap.size ∧ OS w' x.2.2 76 5 encO x.2.1 w.heap.size ∧ SL w' vx 4 encQ xs ∧ (∀ k, x.2.2.ownBlock = some k → ¬ k = b2) ∧ (∀ k, x.2.2.ownBlock = some k → ¬ k = b3)) (fun x => 30 - x.1) ((0, ops4, .slice a_v19 n_v19 c_v19)) (by repeat (first | exact Sub.nil | refine Sub.cons rfl ?_)) ⟨hb0, ⟨Nat.zero_le _, rfl, gOps4⟩, hB2, hBs1x10, hO14.le (by omega), hO19.le (by omega), hx, (fun k e => by have e9 := Option.some.inj (hob19.symm.trans e); omega), (fun k e => ne_hO19_b3 k e)⟩ ?_;clear hb0;clear hx;clear hB2;clear hO14;clear hO19;clear hBs1x10;rintro x wl0 ⟨hb0, ⟨hxi, hlen, hgo⟩, hB2, hB3, hC, hU, hx, ne_hU_b2, ne_hU_b3⟩;have ne_hC_b2 : ∀ k, Value.ownBlock (.slice a_v14 n_v14 c_v14) = some k → ¬ k = b2 := hcb2;have ne_hC_b3 : ∀ k, Value.ownBlock (.slice a_v14 n_v14 c_v14) = some k → ¬ k = b3 := hcb3;have ne_hx_b3 : 0 < xs.length → ¬ sb vx = b3 := hxb3;refine W_seq ?_;refine W_seq ?_;refine W_region ?_;refine SG_q (Rq_move rfl) rfl ?_;refine SG_q (Rq_move rfl) rfl ?_
 first | refine SG_q (Rq_len (hx) Tryz.runUnderlying67 rfl) rfl ?_ | refine SG_q (Rq_len (hC.sl) Tryz.runUnderlying67 rfl) rfl ?_ | refine SG_q (Rq_len (hU.sl) Tryz.runUnderlying67 rfl) rfl ?_
 refine SG_q (Rq_lss rfl rfl) rfl ?_;refine SG_q (Rq_move rfl) rfl ?_;refine SG_and (r := ?r25n1) 3 28 25 rfl ?_ ?_ ?_; rotate_left
 ·intro g25 K25
  have g25' := g25; try simp only [dd] at g25'
  have hm25 := Below.refl (wl0).heap.size wl0;refine SG_yes 25 rfl rfl g25 (SG_q (Rq_move rfl) rfl (SG_yes 25 rfl rfl g25 (SG_q (Rq_lss rfl rfl) rfl (SG_q (Rq_pick rfl (fun _ => rfl) (fun h => absurd (g25.symm.trans h) (by decide))) rfl ?_))));exact K25 _ _ hm25 (by repeat (first | exact Sub.refl | refine Sub.shadow ?_ | refine Sub.same ?_ | refine Sub.push rfl ?_))
 ·intro g25 K25
  have g25' := g25; try simp only [dd] at g25'
  have hm25 := Below.refl (wl0).heap.size wl0;refine SG_no 25 rfl rfl g25 rfl (SG_no 25 rfl rfl g25 rfl (SG_q (Rq_pick rfl (fun h => absurd (g25.symm.trans h) (by decide)) (fun _ => rfl)) rfl ?_));exact K25 _ _ hm25 (by repeat (first | exact Sub.refl | refine Sub.shadow ?_ | refine Sub.same ?_ | refine Sub.push rfl ?_))
 intro wm25 hbm25;replace hb0 := btr hb0 hbm25;replace hB2 := hB2.below hbm25;replace hB3 := hB3.below hbm25;replace hC := hC.below hbm25;replace hU := hU.below hbm25;replace hx := hx.below hbm25
 simp only [List.drop_succ_cons, List.drop_zero]
 refine SG_nil (D_then ?_);refine W_cond rfl ?_ ?_
 ·intro g28
  try simp only [dd] at g28
  obtain ⟨z, hz⟩ : ∃ z, xs[x.1]? = some z := ⟨_, List.getElem?_eq_getElem (show x.1 < xs.length by omega)⟩
  obtain ⟨⟨z1, z2⟩, ⟨z3, z4⟩, ⟨z5, z6⟩, z7, z8⟩ := hqq z (List.mem_of_getElem? hz);have hub2 := ne_hU_b2; have hub3 := ne_hU_b3;refine W_skip ?_;refine D_then ?_;refine W_seq ?_;refine W_block ?_;refine W_seq ?_;have hz2 := hB2.lt; have hz3 := hB3.lt;refine W_anyG 9 [[], [], [0, 1], [2], [], [4], [5], [], [7, 3]] (List.replicate 1 (FrE wm25.heap.size 102 4)) (fun w9 => Below wm25.heap.size wm25 w9) [gdet [] ?a5_0n2, gdet [] ?a5_1n2, gdet [0, 1] ?a5_2n2, gdet [2] ?a5_3n2, gdet [] ?a5_4n2, gdet [4] ?a5_5n2, gdet [5] ?a5_6n2, gfrs [] (AllocL wm25.heap.size 102 4), gsv 0 [7, 3] (StR 102 (encQ z)) StV] Tryz.mixed (by kernel_rfl) (by kernel_rfl) rfl rfl (fr_ok rfl) (fr_stab (tg := [7]) rfl (by decide) ⟨.det, .det, .det, .det, .det, .det, .det, .frs, .sv rfl rfl, trivial⟩) (Below.refl _ _) (fun h => h.drew) ?_ ?_; rotate_left 7
  ·refine GObls_cons ?_ ?_
   ·intro wq hq hzq
    refine GObl_nil ?_
    refine GEx_q2 (Rq_move rfl) ?_; first | exact rfl | rfl
   refine GObls_cons ?_ ?_
   ·intro wq hq hzq
    refine GObl_nil ?_
    refine GEx_q2 (Rq_move rfl) ?_; first | exact rfl | rfl
   refine GObls_cons ?_ ?_
   ·intro wq hq hzq
    refine GObl_det rfl rfl rfl (GObl_det rfl rfl rfl (GObl_nil ?_))
    refine GEx_q2 (Rq_index (hx.below hq) Tryz.runUnderlying67 Tryz.sizeOf102 rfl rfl (by omega) (by omega)) ?_; first | exact rfl | rfl
   refine GObls_cons ?_ ?_
   ·intro wq hq hzq
    refine GObl_det rfl rfl rfl (GObl_nil ?_)
    refine GEx_q2 (Rq_loadA Tryz.isAgg102 Tryz.sizeOf102 rfl ((hx.cells _ _ hz).below hq) rfl) ?_; first | exact rfl | rfl
   refine GObls_cons ?_ ?_
   ·intro wq hq hzq
    refine GObl_nil ?_
    refine GEx_q2 (Rq_fieldAddr fa26_1 rfl) ?_; first | exact rfl | rfl
   refine GObls_cons ?_ ?_
   ·intro wq hq hzq
    refine GObl_det rfl rfl rfl (GObl_nil ?_)
    refine GEx_q2 (Rq_loadB ((hB3).below hq) Tryz.isAgg23 rfl rfl) ?_; first | exact rfl | rfl
   refine GObls_cons ?_ ?_
   ·intro wq hq hzq
    refine GObl_det rfl rfl rfl (GObl_nil ?_)
    refine GEx_q2 (Rq_len (hU.sl.below hq) Tryz.runUnderlying23 rfl) ?_; first | exact rfl | rfl
   refine GObls_cons ?_ ?_
   ·intro wq hq hzq
    refine GObl_nil ?_;exact GEx_allocL (ds := []) (v := undef) (cs := [.int .u8 0, .int .u8 0, .int .u8 0, .int .u8 0]) hzq (Ex_alloc Tryz.zeroValue102 rfl)
   refine GObls_cons ?_ ?_
   ·intro wq hq hzq
    refine GObl_frs rfl rfl rfl ?_; intro v5 lo5 hi5 hle5 hR5;refine GObl_det rfl rfl rfl (GObl_nil ?_);exact GEx_stF hR5 rfl rfl rfl rfl Tryz.sizeOf102 rfl rfl rfl (by decide)
   exact GObls_nil
  ·intro wa5 hba5 hzz5
   refine GFin_det rfl ?_;refine GFin_det rfl ?_;refine GFin_det rfl ?_;refine GFin_det rfl ?_;refine GFin_det rfl ?_;refine GFin_det rfl ?_;refine GFin_det rfl ?_;refine GFin_frs rfl ?_; intro v5 lo5 hi5 hR5 hlB5 hlh5 hhw5 hdj5;refine GFin_sv rfl ?_; intro hs5x8 _; simp only [List.nil_append, List.cons_append, List.map_cons, List.map_nil, List.getD_cons_succ, List.getD_cons_zero, List.getElem?_cons_succ, List.getElem?_cons_zero] at hs5x8;refine GFin_nil ?_
   simp only [List.drop_succ_cons, List.drop_zero]
   replace hb0 := btr hb0 hba5;replace hB2 := hB2.below hba5;replace hB3 := hB3.below hba5;replace hC := hC.below hba5;replace hU := hU.below hba5;replace hx := hx.below hba5;obtain ⟨b5, rfl, hlo5, _, _, _⟩ := hR5;obtain ⟨c5, hv5, hB5⟩ := hs5x8;replace hv5 : Value.pointer (some ⟨b5, 0, none⟩) = .pointer (some ⟨c5, 0, none⟩) := hv5;cases hv5;have hm1 := tmod_bd (a := z.q) (n := min (x.2.1.length : Int) 6) (by omega) (by omega); have hm2 := tmod_bd (a := z.r) (n := min (x.2.1.length : Int) 9) (by omega) (by omega); have hm3 := tmod_bd (a := z.s) (n := min (x.2.1.length : Int) 6) (by omega) (by omega);have hm4 := tmod_bd (a := z.p) (n := 17) (by omega) (by omega); have hm5 := tmod_bd (a := z.q) (n := 4) (by omega) (by omega); have hm6 := tmod_bd (a := z.q) (n := 2) (by omega) (by omega);refine SG_q (Rq_assign rfl) rfl (SG_nil (D_then (W_seq (W_quiet (Tryz.mixed) (by kernel_rfl) ?_))));refine QS_q (Rq_move rfl) rfl (QS_q (Rq_sub rfl rfl (wrap_i64 (by omega) (by omega))) rfl (QS_q (Rq_indexArr Tryz.runUnderlying102 Tryz.sizeOf5 rfl rfl (by decide) (by decide)) rfl (QS_q (Rq_loadB (hB5) Tryz.isAgg5 rfl rfl) rfl (QS_q (Rq_convert Tryz.runUnderlying5 Tryz.runUnderlying3 rfl (wrap_i64 (by omega) (by omega))) rfl (QS_q (Rq_move rfl) rfl (QS_q (Rq_min rfl rfl) rfl (QS_q (Rq_rem rfl rfl (by omega) ) rfl (QS_q (Rq_sub rfl rfl (wrap_i64 (by omega) (by omega))) rfl (QS_q (Rq_move rfl) rfl (QS_q (Rq_sub rfl rfl (wrap_i64 (by omega) (by omega))) rfl ?_))))))))));refine QS_q (Rq_indexArr Tryz.runUnderlying102 Tryz.sizeOf5 rfl rfl (by decide) (by decide)) rfl (QS_q (Rq_loadB (hB5) Tryz.isAgg5 rfl rfl) rfl (QS_q (Rq_convert Tryz.runUnderlying5 Tryz.runUnderlying3 rfl (wrap_i64 (by omega) (by omega))) rfl (QS_q (Rq_move rfl) rfl (QS_q (Rq_min rfl rfl) rfl (QS_q (Rq_rem rfl rfl (by omega) ) rfl (QS_q (Rq_sub rfl rfl (wrap_i64 (by omega) (by omega))) rfl (QS_q (Rq_move rfl) rfl (QS_q (Rq_sub rfl rfl (wrap_i64 (by omega) (by omega))) rfl (QS_q (Rq_indexArr Tryz.runUnderlying102 Tryz.sizeOf5 rfl rfl (by decide) (by decide)) rfl (QS_q (Rq_loadB (hB5) Tryz.isAgg5 rfl rfl) rfl (QS_q (Rq_convert Tryz.runUnderlying5 Tryz.runUnderlying3 rfl (wrap_i64 (by omega) (by omega))) rfl (QS_q (Rq_move rfl) rfl (QS_q (Rq_min rfl rfl) rfl (QS_q (Rq_rem rfl rfl (by omega) ) rfl (QS_q (Rq_sub rfl rfl (wrap_i64 (by omega) (by omega))) rfl (QS_q (Rq_assign rfl) rfl (QS_q (Rq_assign rfl) rfl (QS_q (Rq_assign rfl) rfl (QS_nil ?_)))))))))))))))))));intro wr6 hbr6;replace hb0 := btr hb0 hbr6;replace hB2 := hB2.below hbr6;replace hB3 := hB3.below hbr6;replace hC := hC.below hbr6;replace hU := hU.below hbr6;replace hx := hx.below hbr6;replace hB5 := hB5.below hbr6;refine D_then (W_seq (W_region (SG_q (Rq_indexArr Tryz.runUnderlying102 Tryz.sizeOf5 rfl rfl (by decide) (by decide)) rfl (SG_q (Rq_loadB (hB5) Tryz.isAgg5 rfl rfl) rfl (SG_q (Rq_rem rfl rfl (by omega) ) rfl (SG_q (Rq_add rfl rfl (wrap_u8 (by omega) (by omega))) rfl (SG_q (Rq_assign rfl) rfl (SG_nil (D_then (W_block (W_seq (W_region (SG_q (Rq_move rfl) rfl (SG_q (Rq_eql rfl rfl) rfl (SG_q (Rq_assign rfl) rfl (SG_nil (D_then ?_)))))))))))))))));refine W_cond rfl ?_ ?_
   ·intro g78
    try simp only [dd] at g78
    refine W_any 9 [[], [0], [], [2], [3], [4], [5], [6], [7]] [det [] ?a10_0n3, det [0] ?a10_1n3, det [] ?a10_2n3, det [2] ?a10_3n3, det [3] ?a10_4n3, det [4] ?a10_5n3, det [5] ?a10_6n3, det [6] ?a10_7n3, frs [7] (SlR 0 5 encO [⟨1, 0, 0, 0, z.q.tmod 4 - 1⟩])] Tryz.mixed (by kernel_rfl) rfl ⟨det_stab _ _, det_stab _ _, det_stab _ _, det_stab _ _, det_stab _ _, det_stab _ _, det_stab _ _, det_stab _ _, SlR.stab, trivial⟩ ?_ ?_; rotate_left 8
    ·refine Obls_cons ?_ ?_
     ·intro wq hbq
      refine Obl_nil ?_
      refine Ex_q2 (Rq_fieldAddr fa26_1 rfl) ?_; first | exact rfl | rfl
     refine Obls_cons ?_ ?_
     ·intro wq hbq
      refine Obl_det rfl rfl (Obl_nil ?_)
      refine Ex_q2 (Rq_loadB ((hB3).below hbq) Tryz.isAgg23 rfl rfl) ?_; first | exact rfl | rfl
     refine Obls_cons ?_ ?_
     ·intro wq hbq
      refine Obl_nil ?_
      refine Ex_q2 (Rq_indexArr Tryz.runUnderlying102 Tryz.sizeOf5 rfl rfl (by decide) (by decide)) ?_; first | exact rfl | rfl
     refine Obls_cons ?_ ?_
     ·intro wq hbq
      refine Obl_det rfl rfl (Obl_nil ?_)
      refine Ex_q2 (Rq_loadB ((hB5).below hbq) Tryz.isAgg5 rfl rfl) ?_; first | exact rfl | rfl
     refine Obls_cons ?_ ?_
     ·intro wq hbq
      refine Obl_det rfl rfl (Obl_nil ?_)
      refine Ex_q2 (Rq_convert Tryz.runUnderlying5 Tryz.runUnderlying3 rfl (wrap_i64 (by omega) (by omega))) ?_; first | exact rfl | rfl
     refine Obls_cons ?_ ?_
     ·intro wq hbq
      refine Obl_det rfl rfl (Obl_nil ?_)
      refine Ex_q2 (Rq_rem rfl rfl (by omega) ) ?_; first | exact rfl | rfl
     refine Obls_cons ?_ ?_
     ·intro wq hbq
      refine Obl_det rfl rfl (Obl_nil ?_)
      refine Ex_q2 (Rq_sub rfl rfl (wrap_i64 (by omega) (by omega))) ?_; first | exact rfl | rfl
     refine Obls_cons ?_ ?_
     ·intro wq hbq
      refine Obl_det rfl rfl (Obl_nil ?_)
      refine Ex_call rfl Tryz.call37 (fn_det2 (f37_c _ _) ?_); first | exact rfl | rfl
     refine Obls_cons ?_ ?_
     ·intro wq hbq
      refine Obl_det rfl rfl (Obl_nil ?_);exact Ex_bslice (enc := encO) (val := valO) (os := [.tmp 88]) (Nat.zero_le _) rfl rfl (MV.cons (x := (⟨1, 0, 0, 0, z.q.tmod 4 - 1⟩ : Ot)) MV.nil) (fun _ => rfl) (fun _ => rfl) Tryz.runUnderlying23 Tryz.sizeOf76 Tryz.zeroValue76 rfl (by decide) (by decide)
     exact Obls_nil
    ·intro wa10 hba10
     replace hb0 := btr hb0 hba10;replace hB2 := hB2.below hba10;replace hB3 := hB3.below hba10;replace hC := hC.below hba10;replace hU := hU.below hba10;replace hx := hx.below hba10;refine Fin_det rfl (Fin_det rfl (Fin_det rfl (Fin_det rfl (Fin_det rfl (Fin_det rfl (Fin_det rfl (Fin_det rfl (Fin_frs rfl ?_)))))))); intro v89 lo89 hi89 hR89 hlB89 hlh89 hhw89 hdj89;refine Fin_nil ?_
     simp only [List.drop_succ_cons, List.drop_zero]
     have hS89 := hR89.1;refine SG_append (hU) (hS89) Tryz.underlying23 info76 rfl rfl rfl (fun _ _ => rfl) (by simp only [List.length_append, List.length_cons, List.length_nil]; omega) (by simp only [List.length_append, List.length_cons, List.length_nil]; omega) (by have := hb0.size; omega) rfl ?_;intro v90 w90 hO90 hch90 hsn90
     obtain ⟨aU, nU, cU, hvU⟩ : ∃ a n c, v90 = Value.slice a n c := by obtain ⟨a, c, h⟩ := hO90.sl.len; exact ⟨_, _, _, h⟩
     subst hvU;have hzz3 := hB3.lt; have hzz2 := hB2.lt
     have ne_hO90_b2 : ∀ k, Value.ownBlock (.slice aU nU cU) = some k → ¬ k = b2 := fun k e => (hsn90 k e).elim (fun e2 => hub2 k e2) (fun h => by omega)
     have ne_hO90_b3 : ∀ k, Value.ownBlock (.slice aU nU cU) = some k → ¬ k = b3 := fun k e => (hsn90 k e).elim (fun e2 => hub3 k e2) (fun h => by omega)
     replace hb0 := hb0.trans (hch90.below hb0.size (fun k hk e => by have := (hU).lt e; omega))
     replace hB2 := (hB2.chg hch90 (fun e => hub2 _ e rfl))
     replace hB3 := (hB3.chg hch90 (fun e => hub3 _ e rfl))
     replace hC := (hC.chg hch90 (fun b hb e => OS.ne_type hC hU (by decide) b hb e))
     replace hx := (hx.chg hch90 (fun hp e => by have := hxl hp; have := (hU.lt e).1; omega))
     clear hB5;clear hS89;clear hU;refine SG_q (Rq_fieldAddr fa26_1 rfl) rfl (SG_store (hB3) rfl rfl rfl rfl Tryz.sizeOf23 rfl rfl ?_);intro ws10x11 hchs10x11 hBs10x11
     dsimp only [setAll, List.set] at hBs10x11
     replace hb0 := bchg hb0 hchs10x11 hle3;replace hB2 := hB2.chg hchs10x11 ne_b2_3;replace hC := hC.chg hchs10x11 (fun k e e2 => by first | exact ne_hC_b3 k e e2 | (have := hC.lt e; have := ne_hC_b3; omega));replace hx := hx.chg hchs10x11 ne_hx_b3;replace hO90 := hO90.chg hchs10x11 (fun k e e2 => by first | exact ne_hO90_b3 k e e2 | (have := hO90.lt e; have := ne_hO90_b3; omega));clear hB3;refine SG_nil ?_;refine D_block ?_;refine D_block ?_;refine D_then ?_;refine W_region ?_;refine SG_q (Rq_move rfl) rfl ?_;refine SG_q (Rq_add rfl rfl (wrap_i64 (by omega) (by omega))) rfl ?_;refine SG_q (Rq_assign rfl) rfl ?_;refine SG_nil ?_;refine D_loop ((x.1 + 1, x.2.1 ++ [_], Value.slice aU nU cU)) (by repeat (first | exact Sub.nil | refine Sub.cons rfl ?_)) ⟨hb0, ⟨by dsimp only; omega, by dsimp only; rw [List.length_append, List.length_singleton]; omega, gOps_snoc hgo (by have hln : x.2.1.length = 4 + x.1 := hlen; exact gOp_leaf (.inl ⟨rfl, by omega, by omega⟩))⟩, hB2, hBs10x11, hC, hO90, hx, ne_hO90_b2, ne_hO90_b3⟩ (by dsimp only; omega)
   ·intro g78
    try simp only [dd] at g78
    refine W_seq (W_region (SG_q (Rq_move rfl) rfl (SG_q (Rq_eql rfl rfl) rfl (SG_q (Rq_assign rfl) rfl (SG_nil (D_then ?_))))));refine W_cond rfl ?_ ?_
    ·intro g92
     try simp only [dd] at g92
     refine W_region (SG_q (Rq_fieldAddr fa26_1 rfl) rfl (SG_q (Rq_loadB (hB3) Tryz.isAgg23 rfl rfl) rfl (SG_q (Rq_move rfl) rfl (SG_q (Rq_indexArr Tryz.runUnderlying102 Tryz.sizeOf5 rfl rfl (by decide) (by decide)) rfl (SG_q (Rq_loadB (hB5) Tryz.isAgg5 rfl rfl) rfl (SG_q (Rq_convert Tryz.runUnderlying5 Tryz.runUnderlying3 rfl (wrap_i64 (by omega) (by omega))) rfl (SG_q (Rq_rem rfl rfl (by omega) ) rfl (SG_q (Rq_add rfl rfl (wrap_i64 (by omega) (by omega))) rfl (SG_q (Rq_build2 build76_0_4 rfl rfl rfl rfl ) rfl (SG_bslice (enc := encO) (val := valO) (os := [.tmp 103]) rfl rfl (MV.cons (x := (⟨(1 + z.p.tmod 17), 0, 0, 0, 1 + z.q.tmod 4⟩ : Ot)) MV.nil) (fun _ => rfl) (fun _ => rfl) Tryz.runUnderlying23 Tryz.sizeOf76 Tryz.zeroValue76 rfl (by decide) (by decide) rfl ?_))))))))));intro w104 v104 b104 e104 hb104 hz104 hob104 hO104
     have hle104 : w.heap.size ≤ b104 := by have := hb0.size; omega
     have lt_b2_104 : b2 < b104 := by have := hB2.lt; omega
     have lt_b3_104 : b3 < b104 := by have := hB3.lt; omega
     have lt_b5_104 : b5 < b104 := by have := hB5.lt; omega
     replace hb0 := btr hb0 hb104;replace hB2 := hB2.below hb104;replace hB3 := hB3.below hb104;replace hC := hC.below hb104;replace hU := hU.below hb104;replace hx := hx.below hb104;refine SG_append (hU) (hO104.sl) Tryz.underlying23 info76 rfl rfl rfl (fun _ _ => rfl) (by simp only [List.length_append, List.length_cons, List.length_nil]; omega) (by simp only [List.length_append, List.length_cons, List.length_nil]; omega) (by have := hb0.size; omega) rfl ?_;intro v105 w105 hO105 hch105 hsn105
     obtain ⟨aU, nU, cU, hvU⟩ : ∃ a n c, v105 = Value.slice a n c := by obtain ⟨a, c, h⟩ := hO105.sl.len; exact ⟨_, _, _, h⟩
     subst hvU;have hzz3 := hB3.lt; have hzz2 := hB2.lt
     have ne_hO105_b2 : ∀ k, Value.ownBlock (.slice aU nU cU) = some k → ¬ k = b2 := fun k e => (hsn105 k e).elim (fun e2 => hub2 k e2) (fun h => by omega)
     have ne_hO105_b3 : ∀ k, Value.ownBlock (.slice aU nU cU) = some k → ¬ k = b3 := fun k e => (hsn105 k e).elim (fun e2 => hub3 k e2) (fun h => by omega)
     replace hb0 := hb0.trans (hch105.below hb0.size (fun k hk e => by have := (hU).lt e; omega))
     replace hB2 := (hB2.chg hch105 (fun e => hub2 _ e rfl))
     replace hB3 := (hB3.chg hch105 (fun e => hub3 _ e rfl))
     replace hC := (hC.chg hch105 (fun b hb e => OS.ne_type hC hU (by decide) b hb e))
     replace hx := (hx.chg hch105 (fun hp e => by have := hxl hp; have := (hU.lt e).1; omega))
     clear hB5;clear hO104;clear hU;refine SG_q (Rq_fieldAddr fa26_1 rfl) rfl (SG_store (hB3) rfl rfl rfl rfl Tryz.sizeOf23 rfl rfl ?_);intro ws12x12 hchs12x12 hBs12x12
     dsimp only [setAll, List.set] at hBs12x12
     replace hb0 := bchg hb0 hchs12x12 hle3;replace hB2 := hB2.chg hchs12x12 ne_b2_3;replace hC := hC.chg hchs12x12 (fun k e e2 => by first | exact ne_hC_b3 k e e2 | (have := hC.lt e; have := ne_hC_b3; omega));replace hx := hx.chg hchs12x12 ne_hx_b3;replace hO105 := hO105.chg hchs12x12 (fun k e e2 => by first | exact ne_hO105_b3 k e e2 | (have := hO105.lt e; have := ne_hO105_b3; omega));clear hB3;refine SG_nil ?_;refine D_block ?_;refine D_block ?_;refine D_then ?_;refine W_region ?_;refine SG_q (Rq_move rfl) rfl ?_;refine SG_q (Rq_add rfl rfl (wrap_i64 (by omega) (by omega))) rfl ?_;refine SG_q (Rq_assign rfl) rfl ?_;refine SG_nil ?_;refine D_loop ((x.1 + 1, x.2.1 ++ [_], Value.slice aU nU cU)) (by repeat (first | exact Sub.nil | refine Sub.cons rfl ?_)) ⟨hb0, ⟨by dsimp only; omega, by dsimp only; rw [List.length_append, List.length_singleton]; omega, gOps_snoc hgo (by have hln : x.2.1.length = 4 + x.1 := hlen; exact gOp_leaf (.inr (.inl ⟨by omega, by omega, by omega⟩)))⟩, hB2, hBs12x12, hC, hO105, hx, ne_hO105_b2, ne_hO105_b3⟩ (by dsimp only; omega)
    ·intro g92
     try simp only [dd] at g92
     refine W_seq ?_;refine W_region ?_;refine SG_q (Rq_move rfl) rfl ?_;refine SG_q (Rq_eql rfl rfl) rfl ?_;refine SG_q (Rq_move rfl) rfl ?_;refine SG_or (r := ?r110n4) 3 113 110 rfl ?_ ?_ ?_; rotate_left
     ·intro g110 K110
      have g110' := g110; try simp only [dd] at g110'
      have hm110 := Below.refl (wr6).heap.size wr6;refine SG_yes 110 rfl rfl g110 (SG_q (Rq_move rfl) rfl (SG_yes 110 rfl rfl g110 (SG_q (Rq_eql rfl rfl) rfl (SG_q (Rq_pick rfl (fun h => absurd (g110.symm.trans h) (by decide)) (fun _ => rfl)) rfl ?_))));exact K110 _ _ hm110 (by repeat (first | exact Sub.refl | refine Sub.shadow ?_ | refine Sub.same ?_ | refine Sub.push rfl ?_))
     ·intro g110 K110
      have g110' := g110; try simp only [dd] at g110'
      have hm110 := Below.refl (wr6).heap.size wr6;refine SG_no 110 rfl rfl g110 rfl (SG_no 110 rfl rfl g110 rfl (SG_q (Rq_pick rfl (fun _ => rfl) (fun h => absurd (g110.symm.trans h) (by decide))) rfl ?_));exact K110 _ _ hm110 (by repeat (first | exact Sub.refl | refine Sub.shadow ?_ | refine Sub.same ?_ | refine Sub.push rfl ?_))
     intro wm110 hbm110;replace hb0 := btr hb0 hbm110;replace hB2 := hB2.below hbm110;replace hB3 := hB3.below hbm110;replace hC := hC.below hbm110;replace hU := hU.below hbm110;replace hx := hx.below hbm110;replace hB5 := hB5.below hbm110
     simp only [List.drop_succ_cons, List.drop_zero]
     refine SG_q (Rq_assign rfl) rfl (SG_nil (D_then ?_));refine W_cond rfl ?_ ?_
     ·intro g107
      try simp only [dd] at g107
      refine W_any 8 [[], [0], [], [2], [3], [4], [5], [6]] [det [] ?a14_0n5, det [0] ?a14_1n5, det [] ?a14_2n5, det [2] ?a14_3n5, det [3] ?a14_4n5, det [4] ?a14_5n5, det [5] ?a14_6n5, frs [6] (SlR 0 5 encO [⟨3, 0, 0, 0, z.q.tmod 2⟩])] Tryz.mixed (by kernel_rfl) rfl ⟨det_stab _ _, det_stab _ _, det_stab _ _, det_stab _ _, det_stab _ _, det_stab _ _, det_stab _ _, SlR.stab, trivial⟩ ?_ ?_; rotate_left 7
      ·refine Obls_cons ?_ ?_
       ·intro wq hbq
        refine Obl_nil ?_
        refine Ex_q2 (Rq_fieldAddr fa26_1 rfl) ?_; first | exact rfl | rfl
       refine Obls_cons ?_ ?_
       ·intro wq hbq
        refine Obl_det rfl rfl (Obl_nil ?_)
        refine Ex_q2 (Rq_loadB ((hB3).below hbq) Tryz.isAgg23 rfl rfl) ?_; first | exact rfl | rfl
       refine Obls_cons ?_ ?_
       ·intro wq hbq
        refine Obl_nil ?_
        refine Ex_q2 (Rq_indexArr Tryz.runUnderlying102 Tryz.sizeOf5 rfl rfl (by decide) (by decide)) ?_; first | exact rfl | rfl
       refine Obls_cons ?_ ?_
       ·intro wq hbq
        refine Obl_det rfl rfl (Obl_nil ?_)
        refine Ex_q2 (Rq_loadB ((hB5).below hbq) Tryz.isAgg5 rfl rfl) ?_; first | exact rfl | rfl
       refine Obls_cons ?_ ?_
       ·intro wq hbq
        refine Obl_det rfl rfl (Obl_nil ?_)
        refine Ex_q2 (Rq_convert Tryz.runUnderlying5 Tryz.runUnderlying3 rfl (wrap_i64 (by omega) (by omega))) ?_; first | exact rfl | rfl
       refine Obls_cons ?_ ?_
       ·intro wq hbq
        refine Obl_det rfl rfl (Obl_nil ?_)
        refine Ex_q2 (Rq_rem rfl rfl (by omega) ) ?_; first | exact rfl | rfl
       refine Obls_cons ?_ ?_
       ·intro wq hbq
        refine Obl_det rfl rfl (Obl_nil ?_)
        refine Ex_call rfl Tryz.call39 (fn_det2 (f39_c _ _) ?_); first | exact rfl | rfl
       refine Obls_cons ?_ ?_
       ·intro wq hbq
        refine Obl_det rfl rfl (Obl_nil ?_);exact Ex_bslice (enc := encO) (val := valO) (os := [.tmp 120]) (Nat.zero_le _) rfl rfl (MV.cons (x := (⟨3, 0, 0, 0, z.q.tmod 2⟩ : Ot)) MV.nil) (fun _ => rfl) (fun _ => rfl) Tryz.runUnderlying23 Tryz.sizeOf76 Tryz.zeroValue76 rfl (by decide) (by decide)
       exact Obls_nil
      ·intro wa14 hba14
       replace hb0 := btr hb0 hba14;replace hB2 := hB2.below hba14;replace hB3 := hB3.below hba14;replace hC := hC.below hba14;replace hU := hU.below hba14;replace hx := hx.below hba14;refine Fin_det rfl (Fin_det rfl (Fin_det rfl (Fin_det rfl (Fin_det rfl (Fin_det rfl (Fin_det rfl (Fin_frs rfl ?_))))))); intro v121 lo121 hi121 hR121 hlB121 hlh121 hhw121 hdj121;refine Fin_nil ?_
       simp only [List.drop_succ_cons, List.drop_zero]
       have hS121 := hR121.1;refine SG_append (hU) (hS121) Tryz.underlying23 info76 rfl rfl rfl (fun _ _ => rfl) (by simp only [List.length_append, List.length_cons, List.length_nil]; omega) (by simp only [List.length_append, List.length_cons, List.length_nil]; omega) (by have := hb0.size; omega) rfl ?_;intro v122 w122 hO122 hch122 hsn122
       obtain ⟨aU, nU, cU, hvU⟩ : ∃ a n c, v122 = Value.slice a n c := by obtain ⟨a, c, h⟩ := hO122.sl.len; exact ⟨_, _, _, h⟩
       subst hvU;have hzz3 := hB3.lt; have hzz2 := hB2.lt
       have ne_hO122_b2 : ∀ k, Value.ownBlock (.slice aU nU cU) = some k → ¬ k = b2 := fun k e => (hsn122 k e).elim (fun e2 => hub2 k e2) (fun h => by omega)
       have ne_hO122_b3 : ∀ k, Value.ownBlock (.slice aU nU cU) = some k → ¬ k = b3 := fun k e => (hsn122 k e).elim (fun e2 => hub3 k e2) (fun h => by omega)
       replace hb0 := hb0.trans (hch122.below hb0.size (fun k hk e => by have := (hU).lt e; omega))
       replace hB2 := (hB2.chg hch122 (fun e => hub2 _ e rfl))
       replace hB3 := (hB3.chg hch122 (fun e => hub3 _ e rfl))
       replace hC := (hC.chg hch122 (fun b hb e => OS.ne_type hC hU (by decide) b hb e))
       replace hx := (hx.chg hch122 (fun hp e => by have := hxl hp; have := (hU.lt e).1; omega))
       clear hB5;clear hS121;clear hU;refine SG_q (Rq_fieldAddr fa26_1 rfl) rfl (SG_store (hB3) rfl rfl rfl rfl Tryz.sizeOf23 rfl rfl ?_);intro ws14x10 hchs14x10 hBs14x10
       dsimp only [setAll, List.set] at hBs14x10
       replace hb0 := bchg hb0 hchs14x10 hle3;replace hB2 := hB2.chg hchs14x10 ne_b2_3;replace hC := hC.chg hchs14x10 (fun k e e2 => by first | exact ne_hC_b3 k e e2 | (have := hC.lt e; have := ne_hC_b3; omega));replace hx := hx.chg hchs14x10 ne_hx_b3;replace hO122 := hO122.chg hchs14x10 (fun k e e2 => by first | exact ne_hO122_b3 k e e2 | (have := hO122.lt e; have := ne_hO122_b3; omega));clear hB3;refine SG_nil ?_;refine D_block ?_;refine D_block ?_;refine D_then ?_;refine W_region ?_;refine SG_q (Rq_move rfl) rfl ?_;refine SG_q (Rq_add rfl rfl (wrap_i64 (by omega) (by omega))) rfl ?_;refine SG_q (Rq_assign rfl) rfl ?_;refine SG_nil ?_;refine D_loop ((x.1 + 1, x.2.1 ++ [_], Value.slice aU nU cU)) (by repeat (first | exact Sub.nil | refine Sub.cons rfl ?_)) ⟨hb0, ⟨by dsimp only; omega, by dsimp only; rw [List.length_append, List.length_singleton]; omega, gOps_snoc hgo (by have hln : x.2.1.length = 4 + x.1 := hlen; exact gOp_leaf (.inr (.inr ⟨rfl, by omega, by omega⟩)))⟩, hB2, hBs14x10, hC, hO122, hx, ne_hO122_b2, ne_hO122_b3⟩ (by dsimp only; omega)
     ·intro g107
      try simp only [dd] at g107
      refine W_seq ?_;refine W_region ?_;refine SG_q (Rq_move rfl) rfl ?_;refine SG_q (Rq_eql rfl rfl) rfl ?_;refine SG_q (Rq_move rfl) rfl ?_;refine SG_or (r := ?r127n6) 3 130 127 rfl ?_ ?_ ?_; rotate_left
      ·intro g127 K127
       have g127' := g127; try simp only [dd] at g127'
       have hm127 := Below.refl (wm110).heap.size wm110;refine SG_yes 127 rfl rfl g127 (SG_q (Rq_move rfl) rfl (SG_yes 127 rfl rfl g127 (SG_q (Rq_eql rfl rfl) rfl (SG_q (Rq_pick rfl (fun h => absurd (g127.symm.trans h) (by decide)) (fun _ => rfl)) rfl ?_))));exact K127 _ _ hm127 (by repeat (first | exact Sub.refl | refine Sub.shadow ?_ | refine Sub.same ?_ | refine Sub.push rfl ?_))
      ·intro g127 K127
       have g127' := g127; try simp only [dd] at g127'
       have hm127 := Below.refl (wm110).heap.size wm110;refine SG_no 127 rfl rfl g127 rfl (SG_no 127 rfl rfl g127 rfl (SG_q (Rq_pick rfl (fun _ => rfl) (fun h => absurd (g127.symm.trans h) (by decide))) rfl ?_));exact K127 _ _ hm127 (by repeat (first | exact Sub.refl | refine Sub.shadow ?_ | refine Sub.same ?_ | refine Sub.push rfl ?_))
      intro wm127 hbm127;replace hb0 := btr hb0 hbm127;replace hB2 := hB2.below hbm127;replace hB3 := hB3.below hbm127;replace hC := hC.below hbm127;replace hU := hU.below hbm127;replace hx := hx.below hbm127;replace hB5 := hB5.below hbm127
      simp only [List.drop_succ_cons, List.drop_zero]
      refine SG_q (Rq_assign rfl) rfl (SG_nil (D_then ?_));refine W_cond rfl ?_ ?_
      ·intro g124
       try simp only [dd] at g124
       refine W_region (SG_q (Rq_fieldAddr fa26_1 rfl) rfl (SG_q (Rq_loadB (hB3) Tryz.isAgg23 rfl rfl) rfl (SG_q (Rq_move rfl) rfl (SG_q (Rq_move rfl) rfl (SG_q (Rq_build2 build76_0_1 rfl rfl rfl rfl ) rfl (SG_bslice (enc := encO) (val := valO) (os := [.tmp 135]) rfl rfl (MV.cons (x := (⟨(1 + z.p.tmod 17), ((x.2.1.length : Int) - 1 - z.q.tmod (min (x.2.1.length : Int) 6)), 0, 0, 0⟩ : Ot)) MV.nil) (fun _ => rfl) (fun _ => rfl) Tryz.runUnderlying23 Tryz.sizeOf76 Tryz.zeroValue76 rfl (by decide) (by decide) rfl ?_))))));intro w136 v136 b136 e136 hb136 hz136 hob136 hO136
       have hle136 : w.heap.size ≤ b136 := by have := hb0.size; omega
       have lt_b2_136 : b2 < b136 := by have := hB2.lt; omega
       have lt_b3_136 : b3 < b136 := by have := hB3.lt; omega
       have lt_b5_136 : b5 < b136 := by have := hB5.lt; omega
       replace hb0 := btr hb0 hb136;replace hB2 := hB2.below hb136;replace hB3 := hB3.below hb136;replace hC := hC.below hb136;replace hU := hU.below hb136;replace hx := hx.below hb136;refine SG_append (hU) (hO136.sl) Tryz.underlying23 info76 rfl rfl rfl (fun _ _ => rfl) (by simp only [List.length_append, List.length_cons, List.length_nil]; omega) (by simp only [List.length_append, List.length_cons, List.length_nil]; omega) (by have := hb0.size; omega) rfl ?_;intro v137 w137 hO137 hch137 hsn137
       obtain ⟨aU, nU, cU, hvU⟩ : ∃ a n c, v137 = Value.slice a n c := by obtain ⟨a, c, h⟩ := hO137.sl.len; exact ⟨_, _, _, h⟩
       subst hvU;have hzz3 := hB3.lt; have hzz2 := hB2.lt
       have ne_hO137_b2 : ∀ k, Value.ownBlock (.slice aU nU cU) = some k → ¬ k = b2 := fun k e => (hsn137 k e).elim (fun e2 => hub2 k e2) (fun h => by omega)
       have ne_hO137_b3 : ∀ k, Value.ownBlock (.slice aU nU cU) = some k → ¬ k = b3 := fun k e => (hsn137 k e).elim (fun e2 => hub3 k e2) (fun h => by omega)
       replace hb0 := hb0.trans (hch137.below hb0.size (fun k hk e => by have := (hU).lt e; omega))
       replace hB2 := (hB2.chg hch137 (fun e => hub2 _ e rfl))
       replace hB3 := (hB3.chg hch137 (fun e => hub3 _ e rfl))
       replace hC := (hC.chg hch137 (fun b hb e => OS.ne_type hC hU (by decide) b hb e))
       replace hx := (hx.chg hch137 (fun hp e => by have := hxl hp; have := (hU.lt e).1; omega))
       clear hB5;clear hO136;clear hU;refine SG_q (Rq_fieldAddr fa26_1 rfl) rfl (SG_store (hB3) rfl rfl rfl rfl Tryz.sizeOf23 rfl rfl ?_);intro ws16x8 hchs16x8 hBs16x8
       dsimp only [setAll, List.set] at hBs16x8
       replace hb0 := bchg hb0 hchs16x8 hle3;replace hB2 := hB2.chg hchs16x8 ne_b2_3;replace hC := hC.chg hchs16x8 (fun k e e2 => by first | exact ne_hC_b3 k e e2 | (have := hC.lt e; have := ne_hC_b3; omega));replace hx := hx.chg hchs16x8 ne_hx_b3;replace hO137 := hO137.chg hchs16x8 (fun k e e2 => by first | exact ne_hO137_b3 k e e2 | (have := hO137.lt e; have := ne_hO137_b3; omega));clear hB3;refine SG_nil ?_;refine D_block ?_;refine D_block ?_;refine D_then ?_;refine W_region ?_;refine SG_q (Rq_move rfl) rfl ?_;refine SG_q (Rq_add rfl rfl (wrap_i64 (by omega) (by omega))) rfl ?_;refine SG_q (Rq_assign rfl) rfl ?_;refine SG_nil ?_;refine D_loop ((x.1 + 1, x.2.1 ++ [_], Value.slice aU nU cU)) (by repeat (first | exact Sub.nil | refine Sub.cons rfl ?_)) ⟨hb0, ⟨by dsimp only; omega, by dsimp only; rw [List.length_append, List.length_singleton]; omega, gOps_snoc hgo (by have hln : x.2.1.length = 4 + x.1 := hlen; exact gOp_one (by omega) (by omega) (by omega))⟩, hB2, hBs16x8, hC, hO137, hx, ne_hO137_b2, ne_hO137_b3⟩ (by dsimp only; omega)
      ·intro g124
       try simp only [dd] at g124
       refine W_seq (W_region (SG_q (Rq_move rfl) rfl (SG_q (Rq_eql rfl rfl) rfl (SG_q (Rq_assign rfl) rfl (SG_nil (D_then ?_))))));refine W_cond rfl ?_ ?_
       ·intro g139
        try simp only [dd] at g139
        refine W_region (SG_q (Rq_fieldAddr fa26_1 rfl) rfl (SG_q (Rq_loadB (hB3) Tryz.isAgg23 rfl rfl) rfl (SG_q (Rq_move rfl) rfl (SG_q (Rq_move rfl) rfl (SG_q (Rq_move rfl) rfl (SG_q (Rq_move rfl) rfl (SG_q (Rq_build4 build76_0_1_2_3 rfl rfl rfl rfl rfl rfl rfl rfl ) rfl (SG_bslice (enc := encO) (val := valO) (os := [.tmp 148]) rfl rfl (MV.cons (x := (⟨(1 + z.p.tmod 17), ((x.2.1.length : Int) - 1 - z.q.tmod (min (x.2.1.length : Int) 6)), ((x.2.1.length : Int) - 1 - z.r.tmod (min (x.2.1.length : Int) 9)), ((x.2.1.length : Int) - 1 - z.s.tmod (min (x.2.1.length : Int) 6)), 0⟩ : Ot)) MV.nil) (fun _ => rfl) (fun _ => rfl) Tryz.runUnderlying23 Tryz.sizeOf76 Tryz.zeroValue76 rfl (by decide) (by decide) rfl ?_))))))));intro w149 v149 b149 e149 hb149 hz149 hob149 hO149
        have hle149 : w.heap.size ≤ b149 := by have := hb0.size; omega
        have lt_b2_149 : b2 < b149 := by have := hB2.lt; omega
        have lt_b3_149 : b3 < b149 := by have := hB3.lt; omega
        have lt_b5_149 : b5 < b149 := by have := hB5.lt; omega
        replace hb0 := btr hb0 hb149;replace hB2 := hB2.below hb149;replace hB3 := hB3.below hb149;replace hC := hC.below hb149;replace hU := hU.below hb149;replace hx := hx.below hb149;refine SG_append (hU) (hO149.sl) Tryz.underlying23 info76 rfl rfl rfl (fun _ _ => rfl) (by simp only [List.length_append, List.length_cons, List.length_nil]; omega) (by simp only [List.length_append, List.length_cons, List.length_nil]; omega) (by have := hb0.size; omega) rfl ?_;intro v150 w150 hO150 hch150 hsn150
        obtain ⟨aU, nU, cU, hvU⟩ : ∃ a n c, v150 = Value.slice a n c := by obtain ⟨a, c, h⟩ := hO150.sl.len; exact ⟨_, _, _, h⟩
        subst hvU;have hzz3 := hB3.lt; have hzz2 := hB2.lt
        have ne_hO150_b2 : ∀ k, Value.ownBlock (.slice aU nU cU) = some k → ¬ k = b2 := fun k e => (hsn150 k e).elim (fun e2 => hub2 k e2) (fun h => by omega)
        have ne_hO150_b3 : ∀ k, Value.ownBlock (.slice aU nU cU) = some k → ¬ k = b3 := fun k e => (hsn150 k e).elim (fun e2 => hub3 k e2) (fun h => by omega)
        replace hb0 := hb0.trans (hch150.below hb0.size (fun k hk e => by have := (hU).lt e; omega))
        replace hB2 := (hB2.chg hch150 (fun e => hub2 _ e rfl))
        replace hB3 := (hB3.chg hch150 (fun e => hub3 _ e rfl))
        replace hC := (hC.chg hch150 (fun b hb e => OS.ne_type hC hU (by decide) b hb e))
        replace hx := (hx.chg hch150 (fun hp e => by have := hxl hp; have := (hU.lt e).1; omega))
        clear hB5;clear hO149;clear hU;refine SG_q (Rq_fieldAddr fa26_1 rfl) rfl (SG_store (hB3) rfl rfl rfl rfl Tryz.sizeOf23 rfl rfl ?_);intro ws18x10 hchs18x10 hBs18x10
        dsimp only [setAll, List.set] at hBs18x10
        replace hb0 := bchg hb0 hchs18x10 hle3;replace hB2 := hB2.chg hchs18x10 ne_b2_3;replace hC := hC.chg hchs18x10 (fun k e e2 => by first | exact ne_hC_b3 k e e2 | (have := hC.lt e; have := ne_hC_b3; omega));replace hx := hx.chg hchs18x10 ne_hx_b3;replace hO150 := hO150.chg hchs18x10 (fun k e e2 => by first | exact ne_hO150_b3 k e e2 | (have := hO150.lt e; have := ne_hO150_b3; omega));clear hB3;refine SG_nil ?_;refine D_block ?_;refine D_block ?_;refine D_then ?_;refine W_region ?_;refine SG_q (Rq_move rfl) rfl ?_;refine SG_q (Rq_add rfl rfl (wrap_i64 (by omega) (by omega))) rfl ?_;refine SG_q (Rq_assign rfl) rfl ?_;refine SG_nil ?_;refine D_loop ((x.1 + 1, x.2.1 ++ [_], Value.slice aU nU cU)) (by repeat (first | exact Sub.nil | refine Sub.cons rfl ?_)) ⟨hb0, ⟨by dsimp only; omega, by dsimp only; rw [List.length_append, List.length_singleton]; omega, gOps_snoc hgo (by have hln : x.2.1.length = 4 + x.1 := hlen; exact (by rw [show (1 + z.p.tmod 17) = 17 by omega]; exact gOp_three (by omega) (by omega) (by omega) (by omega) (by omega) (by omega)))⟩, hB2, hBs18x10, hC, hO150, hx, ne_hO150_b2, ne_hO150_b3⟩ (by dsimp only; omega)
       ·intro g139
        try simp only [dd] at g139
        refine W_any 7 [[], [0], [], [], [], [2, 3, 4], [5]] [det [] ?a8_0n7, det [0] ?a8_1n7, det [] ?a8_2n7, det [] ?a8_3n7, det [] ?a8_4n7, det [2, 3, 4] ?a8_5n7, frs [5] (SlR 0 5 encO [⟨(1 + z.p.tmod 17), ((x.2.1.length : Int) - 1 - z.q.tmod (min (x.2.1.length : Int) 6)), ((x.2.1.length : Int) - 1 - z.r.tmod (min (x.2.1.length : Int) 9)), 0, 0⟩])] Tryz.mixed (by kernel_rfl) rfl ⟨det_stab _ _, det_stab _ _, det_stab _ _, det_stab _ _, det_stab _ _, det_stab _ _, SlR.stab, trivial⟩ ?_ ?_; rotate_left 6
        ·refine Obls_cons ?_ ?_
         ·intro wq hbq
          refine Obl_nil ?_
          refine Ex_q2 (Rq_fieldAddr fa26_1 rfl) ?_; first | exact rfl | rfl
         refine Obls_cons ?_ ?_
         ·intro wq hbq
          refine Obl_det rfl rfl (Obl_nil ?_)
          refine Ex_q2 (Rq_loadB ((hB3).below hbq) Tryz.isAgg23 rfl rfl) ?_; first | exact rfl | rfl
         refine Obls_cons ?_ ?_
         ·intro wq hbq
          refine Obl_nil ?_
          refine Ex_q2 (Rq_move rfl) ?_; first | exact rfl | rfl
         refine Obls_cons ?_ ?_
         ·intro wq hbq
          refine Obl_nil ?_
          refine Ex_q2 (Rq_move rfl) ?_; first | exact rfl | rfl
         refine Obls_cons ?_ ?_
         ·intro wq hbq
          refine Obl_nil ?_
          refine Ex_q2 (Rq_move rfl) ?_; first | exact rfl | rfl
         refine Obls_cons ?_ ?_
         ·intro wq hbq
          refine Obl_det rfl rfl (Obl_det rfl rfl (Obl_det rfl rfl (Obl_nil ?_)))
          refine Ex_call rfl Tryz.call38 (fn_det2 (f38_c _ _ _ _) ?_); first | exact rfl | rfl
         refine Obls_cons ?_ ?_
         ·intro wq hbq
          refine Obl_det rfl rfl (Obl_nil ?_);exact Ex_bslice (enc := encO) (val := valO) (os := [.tmp 74]) (Nat.zero_le _) rfl rfl (MV.cons (x := (⟨(1 + z.p.tmod 17), ((x.2.1.length : Int) - 1 - z.q.tmod (min (x.2.1.length : Int) 6)), ((x.2.1.length : Int) - 1 - z.r.tmod (min (x.2.1.length : Int) 9)), 0, 0⟩ : Ot)) MV.nil) (fun _ => rfl) (fun _ => rfl) Tryz.runUnderlying23 Tryz.sizeOf76 Tryz.zeroValue76 rfl (by decide) (by decide)
         exact Obls_nil
        ·intro wa8 hba8
         replace hb0 := btr hb0 hba8;replace hB2 := hB2.below hba8;replace hB3 := hB3.below hba8;replace hC := hC.below hba8;replace hU := hU.below hba8;replace hx := hx.below hba8;refine Fin_det rfl (Fin_det rfl (Fin_det rfl (Fin_det rfl (Fin_det rfl (Fin_det rfl (Fin_frs rfl ?_)))))); intro v75 lo75 hi75 hR75 hlB75 hlh75 hhw75 hdj75;refine Fin_nil ?_
         simp only [List.drop_succ_cons, List.drop_zero]
         have hS75 := hR75.1;refine SG_append (hU) (hS75) Tryz.underlying23 info76 rfl rfl rfl (fun _ _ => rfl) (by simp only [List.length_append, List.length_cons, List.length_nil]; omega) (by simp only [List.length_append, List.length_cons, List.length_nil]; omega) (by have := hb0.size; omega) rfl ?_;intro v76 w76 hO76 hch76 hsn76
         obtain ⟨aU, nU, cU, hvU⟩ : ∃ a n c, v76 = Value.slice a n c := by obtain ⟨a, c, h⟩ := hO76.sl.len; exact ⟨_, _, _, h⟩
         subst hvU;have hzz3 := hB3.lt; have hzz2 := hB2.lt
         have ne_hO76_b2 : ∀ k, Value.ownBlock (.slice aU nU cU) = some k → ¬ k = b2 := fun k e => (hsn76 k e).elim (fun e2 => hub2 k e2) (fun h => by omega)
         have ne_hO76_b3 : ∀ k, Value.ownBlock (.slice aU nU cU) = some k → ¬ k = b3 := fun k e => (hsn76 k e).elim (fun e2 => hub3 k e2) (fun h => by omega)
         replace hb0 := hb0.trans (hch76.below hb0.size (fun k hk e => by have := (hU).lt e; omega))
         replace hB2 := (hB2.chg hch76 (fun e => hub2 _ e rfl))
         replace hB3 := (hB3.chg hch76 (fun e => hub3 _ e rfl))
         replace hC := (hC.chg hch76 (fun b hb e => OS.ne_type hC hU (by decide) b hb e))
         replace hx := (hx.chg hch76 (fun hp e => by have := hxl hp; have := (hU.lt e).1; omega))
         clear hB5;clear hS75;clear hU;refine SG_q (Rq_fieldAddr fa26_1 rfl) rfl (SG_store (hB3) rfl rfl rfl rfl Tryz.sizeOf23 rfl rfl ?_);intro ws8x9 hchs8x9 hBs8x9
         dsimp only [setAll, List.set] at hBs8x9
         replace hb0 := bchg hb0 hchs8x9 hle3;replace hB2 := hB2.chg hchs8x9 ne_b2_3;replace hC := hC.chg hchs8x9 (fun k e e2 => by first | exact ne_hC_b3 k e e2 | (have := hC.lt e; have := ne_hC_b3; omega));replace hx := hx.chg hchs8x9 ne_hx_b3;replace hO76 := hO76.chg hchs8x9 (fun k e e2 => by first | exact ne_hO76_b3 k e e2 | (have := hO76.lt e; have := ne_hO76_b3; omega));clear hB3;refine SG_nil ?_;refine D_block ?_;refine D_block ?_;refine D_then ?_;refine W_region ?_;refine SG_q (Rq_move rfl) rfl ?_;refine SG_q (Rq_add rfl rfl (wrap_i64 (by omega) (by omega))) rfl ?_;refine SG_q (Rq_assign rfl) rfl ?_;refine SG_nil ?_;refine D_loop ((x.1 + 1, x.2.1 ++ [_], Value.slice aU nU cU)) (by repeat (first | exact Sub.nil | refine Sub.cons rfl ?_)) ⟨hb0, ⟨by dsimp only; omega, by dsimp only; rw [List.length_append, List.length_singleton]; omega, gOps_snoc hgo (by have hln : x.2.1.length = 4 + x.1 := hlen; exact gOp_two (by omega) (by omega) (by omega) (by omega) (by omega) (by omega))⟩, hB2, hBs8x9, hC, hO76, hx, ne_hO76_b2, ne_hO76_b3⟩ (by dsimp only; omega)
 ·intro g28
  try simp only [dd] at g28
  refine W_exit (D_then_exit (D_loop_exit ?_));refine D_block_exit (D_then (W_seq (W_region (SG_q (Rq_fieldAddr fa26_1 rfl) rfl (SG_q (Rq_loadB (hB3) Tryz.isAgg23 rfl rfl) rfl ?_)))))
  first | refine SG_q (Rq_len (hx) Tryz.runUnderlying23 rfl) rfl ?_ | refine SG_q (Rq_len (hC.sl) Tryz.runUnderlying23 rfl) rfl ?_ | refine SG_q (Rq_len (hU.sl) Tryz.runUnderlying23 rfl) rfl ?_
  refine SG_q (Rq_assign rfl) rfl (SG_nil (D_then (W_seq (W_region (SG_q (Rq_move rfl) rfl (SG_q (Rq_sub rfl rfl (wrap_i64 (by omega) (by omega))) rfl (SG_q (Rq_move rfl) rfl ?_)))))));have hdv := tdiv_bd (a := (x.2.1.length : Int)) (n := 2) (by omega) (by omega);refine SG_q (Rq_quo rfl rfl (by omega) (wrap_i64 (by omega) (by omega))) rfl (SG_q (Rq_move rfl) rfl (SG_q (Rq_sub rfl rfl (wrap_i64 (by omega) (by omega))) rfl (SG_q (Rq_move rfl) rfl (SG_q (Rq_sub rfl rfl (wrap_i64 (by omega) (by omega))) rfl (SG_q (Rq_min rfl rfl) rfl (SG_q (Rq_sub rfl rfl (wrap_i64 (by omega) (by omega))) rfl (SG_bslice (enc := encI) (val := valI) (os := [.tmp 156, .tmp 158, .tmp 164]) rfl rfl (MV.cons (x := (x.2.1.length : Int) - 1) (MV.cons (x := (x.2.1.length : Int).tdiv 2) (MV.cons (x := (x.2.1.length : Int) - 1 - min ((x.2.1.length : Int) - 1) 2) MV.nil))) (fun _ => rfl) (fun _ => rfl) Tryz.runUnderlying24 Tryz.sizeOf3 Tryz.zeroValue3 rfl (by decide) (by decide) rfl ?_)))))));intro w165 v165 b165 e165 hb165 hz165 hob165 hO165
  have hle165 : w.heap.size ≤ b165 := by have := hb0.size; omega
  have lt_b2_165 : b2 < b165 := by have := hB2.lt; omega
  have lt_b3_165 : b3 < b165 := by have := hB3.lt; omega
  replace hb0 := btr hb0 hb165;replace hB2 := hB2.below hb165;replace hB3 := hB3.below hb165;replace hC := hC.below hb165;replace hU := hU.below hb165
  obtain ⟨a_v165, n_v165, c_v165, h_v165⟩ : ∃ a n c, v165 = Value.slice a n c := by obtain ⟨a, c, h⟩ := (hO165.sl).len; exact ⟨_, _, _, h⟩
  subst h_v165
  have ne_hO165_b2 : ∀ k, Value.ownBlock (.slice a_v165 n_v165 c_v165) = some k → ¬ k = b2 := fun k e => by have e9 := Option.some.inj (hob165.symm.trans e); omega
  have ne_hO165_b3 : ∀ k, Value.ownBlock (.slice a_v165 n_v165 c_v165) = some k → ¬ k = b3 := fun k e => by have e9 := Option.some.inj (hob165.symm.trans e); omega
  refine SG_q (Rq_fieldAddr fa26_2 rfl) rfl (SG_store (hB3) rfl rfl rfl rfl Tryz.sizeOf24 rfl rfl ?_);intro ws20x12 hchs20x12 hBs20x12
  dsimp only [setAll, List.set] at hBs20x12
  replace hb0 := bchg hb0 hchs20x12 hle3;replace hB2 := hB2.chg hchs20x12 ne_b2_3;replace hC := hC.chg hchs20x12 (fun k e e2 => by first | exact ne_hC_b3 k e e2 | (have := hC.lt e; have := ne_hC_b3; omega));replace hU := hU.chg hchs20x12 (fun k e e2 => by first | exact ne_hU_b3 k e e2 | (have := hU.lt e; have := ne_hU_b3; omega));replace hO165 := hO165.chg hchs20x12 (fun k e e2 => by first | exact ne_hO165_b3 k e e2 | (have := hO165.lt e; have := ne_hO165_b3; omega));clear hB3;refine SG_nil ?_;refine D_then ?_;refine W_seq ?_;refine W_region ?_
  first | refine SG_q (Rq_loadBW (hBs20x12) Tryz.isAgg26 Tryz.sizeOf26 rfl rfl) rfl ?_ | refine SG_q (Rq_loadBA (hBs20x12) Tryz.isAgg26 Tryz.sizeOf26 rfl rfl rfl) rfl ?_
  refine SG_storeW (hB2) rfl rfl rfl (by simp [List.all, one_sl hU.sl]; exact ⟨rfl, rfl⟩) Tryz.sizeOf26 rfl rfl ?_;intro ws21x1 hchs21x1 hBs21x1;replace hb0 := bchg hb0 hchs21x1 hle2;replace hC := hC.chg hchs21x1 (fun k e e2 => by first | exact ne_hC_b2 k e e2 | (have := hC.lt e; have := ne_hC_b2; omega));replace hU := hU.chg hchs21x1 (fun k e e2 => by first | exact ne_hU_b2 k e e2 | (have := hU.lt e; have := ne_hU_b2; omega));replace hO165 := hO165.chg hchs21x1 (fun k e e2 => by first | exact ne_hO165_b2 k e e2 | (have := hO165.lt e; have := ne_hO165_b2; omega));clear hB2;refine SG_nil ?_;refine D_then ?_;refine W_ret ?_;refine D_bodyR1 rfl rfl (.cellW rfl (hBs21x1) Tryz.isAgg26 Tryz.sizeOf26 rfl) ?_;obtain ⟨a2, c2, h2⟩ := hU.sl.len;exact ⟨_, rfl, hb0, ⟨[chA, chB], x.2.1, _⟩, ⟨rfl, ⟨by dsimp only; omega, by dsimp only; omega⟩, hgo, rfl, fun n hn => by dsimp only at hn ⊢; simp only [List.mem_cons, List.mem_nil_iff, or_false] at hn; rcases hn with rfl | rfl | rfl <;> omega⟩, _, _, _, _, _, _, _, _, _, by rw [h2], hC, h2 ▸ hU, hO165.le (by omega)⟩
end Go.Proofs.YtphmoebiobjfhaaGreat
