/- Walks of functions, printed by a program of the author. -/
import Derived.Test.YtphmoebiobjfhaaGreatT45
set_option linter.all false
namespace Go.Proofs.YtphmoebiobjfhaaGreat
open Go Go.Mi Go.RowKit
theorem f68_c {vC vO vR : Value} {C : Co} {wd : List Int} {u : Value} {w : World} (hC : SL w vC 3 encC C.ch) (hO : SL w vO 5 encO C.ops) (hR : SL w vR 1 encI C.roots) (hu : SL w u 1 encI wd) (hck : checkR C = 0) (hnp : ∀ (j : Nat) (y : Ot), C.ops[j]? = some y → ¬ y.code = 4) (hw : OkW C.ch wd) : Mi.Fn Tryz.prog 68 #[.agg [vC, vO, vR].toArray, u] w fun v w' => ∃ q, v = .tuple #[q, .int .i64 0] ∧ OS w' q 106 2 encV (cellsF wd C.ops) w.heap.size := by
 have hlen := (check_ok hck).1
 have hany : (C.ops.any fun x => decide (x.code = 4)) = false := by rw [List.any_eq_false]; intro y hy; obtain ⟨j, hj⟩ := List.getElem?_of_mem hy; simpa using hnp j y hj
 have hb0 := Below.refl w.heap.size w;refine calls_of_W Tryz.func68 rfl Tryz.ntmps68 rfl ?_;refine W_seq (W_region (SG_box rfl rfl rfl ?_));intro w2 b2 e2 hb2 hz2 hB2
 have hle2 : w.heap.size ≤ b2 := by have := hb0.size; omega
 replace hb0 := btr hb0 hb2;refine SG_q (Rq_assign rfl) rfl (SG_q (Rq_assign rfl) rfl (SG_nil (D_then (W_seq (W_region ?_)))))
 first | refine SG_q (Rq_loadBW (hB2) Tryz.isAgg26 Tryz.sizeOf26 rfl rfl) rfl ?_ | refine SG_q (Rq_loadBA (hB2) Tryz.isAgg26 Tryz.sizeOf26 rfl rfl rfl) rfl ?_
 refine SG_pure rfl Tryz.call55 rfl (f55_c ((hC).below hb0) ((hO).below hb0) ((hR).below hb0) (by omega) (by omega) (by omega)) ?_;intro w9 hb9;replace hb0 := btr hb0 hb9;replace hB2 := hB2.below hb9;refine SG_q (Rq_assign rfl) rfl (SG_nil (D_then (W_seq (W_block (W_seq (W_region (SG_q (Rq_move rfl) rfl (SG_q (Rq_neq rfl rfl) rfl (SG_q (Rq_assign rfl) rfl (SG_nil (D_then ?_)))))))))));refine W_cond rfl ?_ ?_
 ·intro g10; exfalso; (try simp only [dd] at g10); omega
 ·intro g10
  try simp only [dd] at g10
  refine W_seq (W_region (SG_q (Rq_fieldAddr fa26_1 rfl) rfl (SG_q (Rq_loadB (hB2) Tryz.isAgg23 rfl rfl) rfl (SG_pure rfl Tryz.call81 rfl (f81_c (caps := []) (p := fun x => decide (x.code = 4)) (by omega) ((hO).below hb0) Tryz.call82 (fun x hx w' hb => f82_c x w')) ?_))));intro w17 hb17;replace hb0 := btr hb0 hb17;replace hB2 := hB2.below hb17;refine SG_q (Rq_assign rfl) rfl (SG_nil (D_then ?_));refine W_cond rfl ?_ ?_
  ·intro g14; exfalso; (try simp only [dd] at g14); rw [hany] at g14; cases g14
  ·intro g14
   try simp only [dd] at g14
   refine W_seq (W_region ?_)
   first | refine SG_q (Rq_loadBW (hB2) Tryz.isAgg26 Tryz.sizeOf26 rfl rfl) rfl ?_ | refine SG_q (Rq_loadBA (hB2) Tryz.isAgg26 Tryz.sizeOf26 rfl rfl rfl) rfl ?_
   refine SG_q (Rq_move rfl) rfl (SG_pure rfl Tryz.call83 rfl (f83_c ((hC).below hb0) ((hO).below hb0) ((hR).below hb0) ((hu).below hb0) (by omega) hw) ?_);intro w21 hb21;replace hb0 := btr hb0 hb21;replace hB2 := hB2.below hb21;refine SG_q (Rq_not rfl) rfl (SG_q (Rq_assign rfl) rfl (SG_nil (D_then ?_)));refine W_cond rfl ?_ ?_
   ·intro g18; exfalso; (try simp only [dd] at g18); simp at g18
   ·intro g18
    try simp only [dd] at g18
    refine W_skip (D_block (D_then (W_seq (W_seq (W_region (SG_q (Rq_fieldAddr fa26_1 rfl) rfl (SG_q (Rq_loadB (hB2) Tryz.isAgg23 rfl rfl) rfl ?_)))))))
    first | refine SG_q (Rq_len ((hC).below hb0) Tryz.runUnderlying23 rfl) rfl ?_ | refine SG_q (Rq_len ((hO).below hb0) Tryz.runUnderlying23 rfl) rfl ?_ | refine SG_q (Rq_len ((hR).below hb0) Tryz.runUnderlying23 rfl) rfl ?_ | refine SG_q (Rq_len ((hu).below hb0) Tryz.runUnderlying23 rfl) rfl ?_
    refine SG_q (Rq_move rfl) rfl (SG_nil (D_then (W_block ?_)));refine W_loop (α := Nat × Value) (fun x => [(26, .int .i64 (x.1 : Nat)), (25, .int .i64 C.ops.length), (24, vO), (4, x.2), (1, u)]) (fun x w' => Below w.heap.size w w' ∧ x.1 ≤ C.ops.length ∧ OS w' x.2 106 2 encV (cellsF wd (C.ops.take x.1)) w.heap.size) (fun x => C.ops.length - x.1) ((0, .slice none 0 0)) (by repeat (first | exact Sub.nil | refine Sub.cons rfl ?_)) ⟨hb0, Nat.zero_le _, OS.nil (fun _ => rfl) (by decide)⟩ ?_;clear hb0;clear hB2;rintro x wl0 ⟨hb0, hxi, hL⟩;refine W_seq (W_region (SG_q (Rq_lss rfl rfl) rfl (SG_nil (D_then (W_seq ?_)))));refine W_cond rfl ?_ ?_
    ·intro g27
     try simp only [dd] at g27
     obtain ⟨y, hy⟩ : ∃ y, C.ops[x.1]? = some y := ⟨_, List.getElem?_eq_getElem (by omega)⟩
     have hok := okC_at hck hy (hnp _ _ hy) hw;have hkl := cellsF_len wd (C.ops.take x.1);rw [List.length_take] at hkl;refine W_skip (D_then (W_seq (W_block (W_seq (W_region ?_)))))
     first | refine SG_index ((hC).below hb0) Tryz.runUnderlying23 Tryz.sizeOf76 rfl rfl ?_ ?_ rfl ?_ | refine SG_index ((hO).below hb0) Tryz.runUnderlying23 Tryz.sizeOf76 rfl rfl ?_ ?_ rfl ?_ | refine SG_index ((hR).below hb0) Tryz.runUnderlying23 Tryz.sizeOf76 rfl rfl ?_ ?_ rfl ?_ | refine SG_index ((hu).below hb0) Tryz.runUnderlying23 Tryz.sizeOf76 rfl rfl ?_ ?_ rfl ?_ | refine SG_index (hL.sl) Tryz.runUnderlying23 Tryz.sizeOf76 rfl rfl ?_ ?_ rfl ?_
     ·omega
     ·omega
     intro x28 hx28 hc28;have ex28 := Option.some.inj ((hy).symm.trans hx28); subst ex28;refine SG_q (Rq_loadA Tryz.isAgg76 Tryz.sizeOf76 rfl ((hc28)) rfl) rfl (SG_alloc Tryz.zeroValue76 rfl rfl ?_);intro w7 b7 e7 hb7 hz7 hB7
     have hle7 : w.heap.size ≤ b7 := by have := hb0.size; omega
     have ne_hL_b7 : ∀ k, Value.ownBlock x.2 = some k → ¬ k = b7 := fun k e => by have := hL.lt e; omega
     replace hb0 := btr hb0 hb7;replace hL := hL.below hb7;refine SG_storeW (hB7) rfl rfl rfl rfl Tryz.sizeOf76 rfl rfl ?_;intro ws10x3 hchs10x3 hBs10x3;replace hb0 := bchg hb0 hchs10x3 hle7;replace hL := hL.chg hchs10x3 (fun k e e2 => by first | exact ne_hL_b7 k e e2 | (have := hL.lt e; have := ne_hL_b7; omega));clear hc28;clear hB7;refine SG_nil ?_;refine D_then ?_;refine W_region ?_;refine SG_q (Rq_move rfl) rfl ?_
     first | refine SG_q (Rq_loadBW (hBs10x3) Tryz.isAgg76 Tryz.sizeOf76 rfl rfl) rfl ?_ | refine SG_q (Rq_loadBA (hBs10x3) Tryz.isAgg76 Tryz.sizeOf76 rfl rfl rfl) rfl ?_
     refine SG_q (Rq_move rfl) rfl (SG_q (Rq_move rfl) rfl (SG_pure rfl Tryz.call84 rfl (f84_c y ((hu).below hb0) (hL.sl) hok) ?_));intro w34 hb34;replace hb0 := btr hb0 hb34;replace hL := hL.below hb34;replace hBs10x3 := hBs10x3.below hb34;refine SG_bslice (enc := encV) (val := valV) (os := [.tmp 34]) rfl rfl (MV.cons (x := cellE wd (gV (cellsF wd (C.ops.take x.1))) y) MV.nil) (fun _ => rfl) (fun _ => rfl) Tryz.runUnderlying69 Tryz.sizeOf106 Tryz.zeroValue106 rfl (by decide) (by decide) rfl ?_;intro w35 v35 b35 e35 hb35 hz35 hob35 hO35
     have hle35 : w.heap.size ≤ b35 := by have := hb0.size; omega
     have lt_b7_35 : b7 < b35 := by have := hBs10x3.lt; omega
     replace hb0 := btr hb0 hb35;replace hL := hL.below hb35;refine SG_append (hL) (hO35.sl) Tryz.underlying69 info106 rfl rfl rfl (fun _ _ => rfl) (by (try simp only [List.length_append, List.length_cons, List.length_nil]); omega) (by (try simp only [List.length_append, List.length_cons, List.length_nil]); omega) (by have := hb0.size; omega) rfl ?_;intro v36 w36 hO36 hch36 hsn36;replace hb0 := hb0.trans (hch36.below hb0.size (fun k hk e => by have := (hL).lt e; omega));clear hBs10x3;clear hO35;clear hL;refine SG_q (Rq_assign rfl) rfl ?_;refine SG_nil ?_;refine D_block ?_;refine D_then ?_;refine W_region ?_;refine SG_q (Rq_add rfl rfl (wrap_i64 (by omega) (by omega))) rfl ?_;refine SG_q (Rq_move rfl) rfl ?_;refine SG_nil ?_;refine D_loop ((x.1 + 1, v36)) (by repeat (first | exact Sub.nil | refine Sub.cons rfl ?_)) ⟨hb0, by dsimp only; omega, by dsimp only; rw [take_succ_get hy, cellsF_snoc]; exact hO36⟩ (by dsimp only; omega)
    ·intro g27
     try simp only [dd] at g27
     rw [List.take_of_length_le (show C.ops.length ≤ x.1 by omega)] at hL;refine W_exit (D_then_exit (D_loop_exit ?_));refine D_block_exit (D_then (W_seq (W_region (SG_q (Rq_move rfl) rfl (SG_q (Rq_assign rfl) rfl (SG_q (Rq_assign rfl) rfl (SG_nil (D_then (W_ret (D_body2 rfl rfl rfl rfl ?_))))))))));exact ⟨_, rfl, hb0, _, rfl, hL⟩
theorem f54_c {vC vO vR : Value} {C : Co} {wd : List Int} {u : Value} {w : World} (hC : SL w vC 3 encC C.ch) (hO : SL w vO 5 encO C.ops) (hR : SL w vR 1 encI C.roots) (hu : SL w u 1 encI wd) (hck : checkR C = 0) (hnp : ∀ (j : Nat) (y : Ot), C.ops[j]? = some y → ¬ y.code = 4) (hw : OkW C.ch wd) : Mi.Fn Tryz.prog 54 #[.agg [vC, vO, vR].toArray, u] w fun v w' => ∃ q, v = .tuple #[q, .int .i64 0] ∧ OS w' q 106 2 encV (evalR wd C) w.heap.size := by
 have hlen := (check_ok hck).1;have hrt := (check_ok hck).2.1;have hkl := cellsF_len wd C.ops;have hb0 := Below.refl w.heap.size w;refine calls_of_W Tryz.func54 rfl Tryz.ntmps54 rfl ?_;refine W_seq (W_region (SG_box rfl rfl rfl ?_));intro w2 b2 e2 hb2 hz2 hB2
 have hle2 : w.heap.size ≤ b2 := by have := hb0.size; omega
 replace hb0 := btr hb0 hb2;refine SG_q (Rq_assign rfl) rfl (SG_q (Rq_assign rfl) rfl (SG_nil (D_then (W_seq (W_region ?_)))))
 first | refine SG_q (Rq_loadBW (hB2) Tryz.isAgg26 Tryz.sizeOf26 rfl rfl) rfl ?_ | refine SG_q (Rq_loadBA (hB2) Tryz.isAgg26 Tryz.sizeOf26 rfl rfl rfl) rfl ?_
 refine SG_q (Rq_move rfl) rfl (SG_call rfl Tryz.call68 rfl (f68_c ((hC).below hb0) ((hO).below hb0) ((hR).below hb0) ((hu).below hb0) hck hnp hw) ?_);rintro v12 w12 hb12 ⟨u12, rfl, hA⟩;replace hb0 := btr hb0 hb12;replace hB2 := hB2.below hb12
 have hAl : ∀ k, u12.ownBlock = some k → k < w12.heap.size := fun k e => (hA.lt e).2
 have hzb := hb0.size;refine SG_q (Rq_move rfl) rfl (SG_q (Rq_extract rfl rfl) rfl (SG_q (Rq_extract rfl rfl) rfl (SG_q (Rq_assign rfl) rfl (SG_q (Rq_assign rfl) rfl (SG_nil (D_then (W_seq (W_seq (W_region (SG_q (Rq_move rfl) rfl (SG_q (Rq_neq rfl rfl) rfl (SG_nil (D_then ?_)))))))))))));refine W_cond rfl ?_ ?_
 ·intro g16; exfalso; (try simp only [dd] at g16); simp at g16
 ·intro g16
  try simp only [dd] at g16
  refine W_skip (D_then (W_seq (W_seq (W_region (SG_q (Rq_fieldAddr fa26_2 rfl) rfl (SG_q (Rq_loadB (hB2) Tryz.isAgg24 rfl rfl) rfl ?_))))))
  first | refine SG_q (Rq_len ((hC).below hb0) Tryz.runUnderlying24 rfl) rfl ?_ | refine SG_q (Rq_len ((hO).below hb0) Tryz.runUnderlying24 rfl) rfl ?_ | refine SG_q (Rq_len ((hR).below hb0) Tryz.runUnderlying24 rfl) rfl ?_ | refine SG_q (Rq_len ((hu).below hb0) Tryz.runUnderlying24 rfl) rfl ?_ | refine SG_q (Rq_len (hA.sl) Tryz.runUnderlying24 rfl) rfl ?_
  refine SG_q (Rq_move rfl) rfl (SG_nil (D_then (W_block ?_)));refine W_loop (α := Nat × Value) (fun x => [(21, .int .i64 (x.1 : Nat)), (20, .int .i64 C.roots.length), (19, vR), (4, x.2), (6, u12)]) (fun x w' => Below w.heap.size w w' ∧ x.1 ≤ C.roots.length ∧ w12.heap.size ≤ w'.heap.size ∧ OS w' x.2 106 2 encV ((C.roots.take x.1).map (VK wd C)) w12.heap.size ∧ OS w' u12 106 2 encV (cellsF wd C.ops) w.heap.size) (fun x => C.roots.length - x.1) ((0, .slice none 0 0)) (by repeat (first | exact Sub.nil | refine Sub.cons rfl ?_)) ⟨hb0, Nat.zero_le _, Nat.le_refl _, OS.nil (fun _ => rfl) (by decide), hA.le (by omega)⟩ ?_;clear hb0;clear hB2;clear hA;rintro x wl0 ⟨hb0, hxi, hxz, hX, hA⟩;refine W_seq (W_region (SG_q (Rq_lss rfl rfl) rfl (SG_nil (D_then (W_seq ?_)))));refine W_cond rfl ?_ ?_
  ·intro g22
   try simp only [dd] at g22
   obtain ⟨m, hm⟩ : ∃ m, C.roots[x.1]? = some m := ⟨_, List.getElem?_eq_getElem (by omega)⟩
   have hmr := hrt m (List.mem_of_getElem? hm);have hVm : (cellsF wd C.ops)[m.toNat]? = some (VK wd C m) := gV_some ⟨by omega, by omega⟩;refine W_skip (D_then (W_seq (W_block (W_seq (W_region ?_)))))
   first | refine SG_index ((hC).below hb0) Tryz.runUnderlying24 Tryz.sizeOf3 rfl rfl ?_ ?_ rfl ?_ | refine SG_index ((hO).below hb0) Tryz.runUnderlying24 Tryz.sizeOf3 rfl rfl ?_ ?_ rfl ?_ | refine SG_index ((hR).below hb0) Tryz.runUnderlying24 Tryz.sizeOf3 rfl rfl ?_ ?_ rfl ?_ | refine SG_index ((hu).below hb0) Tryz.runUnderlying24 Tryz.sizeOf3 rfl rfl ?_ ?_ rfl ?_ | refine SG_index (hX.sl) Tryz.runUnderlying24 Tryz.sizeOf3 rfl rfl ?_ ?_ rfl ?_ | refine SG_index (hA.sl) Tryz.runUnderlying24 Tryz.sizeOf3 rfl rfl ?_ ?_ rfl ?_
   ·first | omega | (rw [hkl]; omega)
   ·first | omega | (rw [hkl]; omega)
   intro x23 hx23 hc23;have ex23 := Option.some.inj ((hm).symm.trans hx23); subst ex23;refine SG_q (Rq_load Tryz.isAgg3 rfl ((hc23).cell 0 rfl)) rfl (SG_q (Rq_assign rfl) rfl (SG_nil (D_then (W_region (SG_q (Rq_move rfl) rfl (SG_q (Rq_move rfl) rfl (SG_q (Rq_move rfl) rfl ?_)))))))
   first | refine SG_index ((hC).below hb0) Tryz.runUnderlying69 Tryz.sizeOf106 rfl rfl ?_ ?_ rfl ?_ | refine SG_index ((hO).below hb0) Tryz.runUnderlying69 Tryz.sizeOf106 rfl rfl ?_ ?_ rfl ?_ | refine SG_index ((hR).below hb0) Tryz.runUnderlying69 Tryz.sizeOf106 rfl rfl ?_ ?_ rfl ?_ | refine SG_index ((hu).below hb0) Tryz.runUnderlying69 Tryz.sizeOf106 rfl rfl ?_ ?_ rfl ?_ | refine SG_index (hX.sl) Tryz.runUnderlying69 Tryz.sizeOf106 rfl rfl ?_ ?_ rfl ?_ | refine SG_index (hA.sl) Tryz.runUnderlying69 Tryz.sizeOf106 rfl rfl ?_ ?_ rfl ?_
   ·first | omega | (rw [hkl]; omega)
   ·first | omega | (rw [hkl]; omega)
   intro x28 hx28 hc28;have ex28 := Option.some.inj ((hVm).symm.trans hx28); subst ex28;refine SG_q (Rq_loadA Tryz.isAgg106 Tryz.sizeOf106 rfl ((hc28)) rfl) rfl (SG_bslice (enc := encV) (val := valV) (os := [.tmp 29]) rfl rfl (MV.cons (x := VK wd C m) MV.nil) (fun _ => rfl) (fun _ => rfl) Tryz.runUnderlying69 Tryz.sizeOf106 Tryz.zeroValue106 rfl (by decide) (by decide) rfl ?_);intro w30 v30 b30 e30 hb30 hz30 hob30 hO30
   have hle30 : w.heap.size ≤ b30 := by have := hb0.size; omega
   replace hb0 := btr hb0 hb30;replace hX := hX.below hb30;replace hA := hA.below hb30;refine SG_append (hX) (hO30.sl) Tryz.underlying69 info106 rfl rfl rfl (fun _ _ => rfl) (by (try simp only [List.length_append, List.length_cons, List.length_nil]); (try rw [List.length_map, List.length_take]); omega) (by (try simp only [List.length_append, List.length_cons, List.length_nil]); (try rw [List.length_map, List.length_take]); omega) (by have := hb0.size; omega) rfl ?_;intro v31 w31 hO31 hch31 hsn31;replace hb0 := hb0.trans (hch31.below hb0.size (fun k hk e => by have := (hX).lt e; omega))
   replace hA := (hA.chg hch31 (fun b hb e => by have := hAl b hb; have := (hX.lt e).1; omega))
   clear hc23;clear hc28;clear hO30;clear hX;refine SG_q (Rq_assign rfl) rfl ?_;refine SG_nil ?_;refine D_block ?_;refine D_then ?_;refine W_region ?_;refine SG_q (Rq_add rfl rfl (wrap_i64 (by omega) (by omega))) rfl ?_;refine SG_q (Rq_move rfl) rfl ?_;refine SG_nil ?_;refine D_loop ((x.1 + 1, v31)) (by repeat (first | exact Sub.nil | refine Sub.cons rfl ?_)) ⟨hb0, by dsimp only; omega, by have := hb30.size; have := hch31.size; omega, by dsimp only; rw [take_succ_get hm, List.map_append]; exact hO31, hA⟩ (by dsimp only; omega)
  ·intro g22
   try simp only [dd] at g22
   rw [List.take_of_length_le (show C.roots.length ≤ x.1 by omega)] at hX;refine W_exit (D_then_exit (D_loop_exit ?_));refine D_block_exit (D_then (W_seq (W_region (SG_q (Rq_move rfl) rfl (SG_q (Rq_assign rfl) rfl (SG_q (Rq_assign rfl) rfl (SG_nil (D_then (W_ret (D_body2 rfl rfl rfl rfl ?_))))))))));exact ⟨_, rfl, hb0, _, rfl, hX.le (by omega)⟩
theorem st106 : Tryz.prog.stoodInHeld 106 = false := by kernel_rfl
theorem eg106 : Tryz.prog.eqGuardType Tryz.prog.depth 106 = false := by kernel_rfl
theorem eq106 (x y : Vl) (w : World) : (Op.equal 106 (valV x) (valV y)).run Tryz.prog w = .ok (decide (x = y)) w := by
 unfold Op.equal
 rw [show Op.maxDepth = 9998 + 1 + 1 from rfl]
 unfold Op.equalIn
 obtain ⟨f, n⟩ := x;obtain ⟨f', n'⟩ := y
 by_cases h1 : f = f'
 ·by_cases h2 : n = n'
  ·simp [Tryz.runUnderlying106, valV, encV, Sem.run_bind, st106, Result.andThen, part, Tryz.isAgg3, Tryz.isAgg5, eqI3, eqI5, Vl.mk.injEq, h1, h2]
  ·simp [Tryz.runUnderlying106, valV, encV, Sem.run_bind, st106, Result.andThen, part, Tryz.isAgg3, Tryz.isAgg5, eqI3, eqI5, Vl.mk.injEq, h1, h2]
 ·simp [Tryz.runUnderlying106, valV, encV, Sem.run_bind, st106, Result.andThen, part, Tryz.isAgg3, Tryz.isAgg5, eqI3, eqI5, Vl.mk.injEq, h1]
theorem f35_c {u v : Value} {xs ys : List Vl} {w : World} (hx : SL w u 2 encV xs) (hy : SL w v 2 encV ys) (hxl : xs.length ≤ 100000) (hyl : ys.length ≤ 100000) : Pure Tryz.prog 35 #[u, v] w (.bool (decide (xs = ys))) := by
 have hb0 := Below.refl w.heap.size w;refine calls_of_W Tryz.func35 rfl Tryz.ntmps35 rfl ?_;refine W_seq (W_region (SG_q (Rq_assign rfl) rfl (SG_nil (D_then (W_seq (W_seq (W_region (SG_q (Rq_move rfl) rfl ?_))))))))
 first | refine SG_q (Rq_len ((hx).below hb0) Tryz.runUnderlying69 rfl) rfl ?_ | refine SG_q (Rq_len ((hy).below hb0) Tryz.runUnderlying69 rfl) rfl ?_
 refine SG_q (Rq_move rfl) rfl ?_
 first | refine SG_q (Rq_len ((hx).below hb0) Tryz.runUnderlying69 rfl) rfl ?_ | refine SG_q (Rq_len ((hy).below hb0) Tryz.runUnderlying69 rfl) rfl ?_
 refine SG_q (Rq_neq rfl rfl) rfl (SG_nil (D_then ?_));refine W_cond rfl ?_ ?_
 ·intro g10
  try simp only [dd] at g10
  refine W_seq (W_region (SG_q (Rq_assign rfl) rfl (SG_nil (D_then (W_ret (D_then_ret (D_body1 rfl rfl rfl ?_)))))));exact ⟨by rw [decide_eq_false (fun e => g10 (by rw [e]))], hb0⟩
 ·intro g10
  try simp only [dd] at g10
  have hll : xs.length = ys.length := by omega
  refine W_skip (D_then (W_seq (W_seq (W_region (SG_q (Rq_assign rfl) rfl (SG_nil (D_then (W_block ?_))))))));refine W_loop (α := Nat) (fun x => [(5, .int .i64 (x : Nat)), (0, u), (1, v)]) (fun x w' => Below w.heap.size w w' ∧ x ≤ xs.length ∧ (∀ j : Nat, j < x → xs[j]? = ys[j]?)) (fun x => xs.length - x) (0) (by repeat (first | exact Sub.nil | refine Sub.cons rfl ?_)) ⟨hb0, Nat.zero_le _, fun j h => by omega⟩ ?_;clear hb0;rintro x wl0 ⟨hb0, hxi, hno⟩;refine W_seq (W_seq (W_region (SG_q (Rq_move rfl) rfl (SG_q (Rq_move rfl) rfl ?_))))
  first | refine SG_q (Rq_len ((hx).below hb0) Tryz.runUnderlying69 rfl) rfl ?_ | refine SG_q (Rq_len ((hy).below hb0) Tryz.runUnderlying69 rfl) rfl ?_
  refine SG_q (Rq_lss rfl rfl) rfl (SG_nil (D_then ?_));refine W_cond rfl ?_ ?_
  ·intro g14
   try simp only [dd] at g14
   refine W_skip (D_then (W_seq (W_block (W_seq (W_quiet (Tryz.mixed) (by kernel_rfl) ?_)))));refine QS_q (Rq_move rfl) rfl (QS_q (Rq_move rfl) rfl ?_)
   first | refine QS_index ((hx).below hb0) Tryz.runUnderlying69 Tryz.sizeOf106 rfl rfl ?_ ?_ rfl ?_ | refine QS_index ((hy).below hb0) Tryz.runUnderlying69 Tryz.sizeOf106 rfl rfl ?_ ?_ rfl ?_
   ·omega
   ·omega
   intro x19 hx19 hc19;refine QS_q (Rq_loadA Tryz.isAgg106 Tryz.sizeOf106 rfl ((hc19)) rfl) rfl (QS_q (Rq_move rfl) rfl (QS_q (Rq_move rfl) rfl ?_))
   first | refine QS_index ((hx).below hb0) Tryz.runUnderlying69 Tryz.sizeOf106 rfl rfl ?_ ?_ rfl ?_ | refine QS_index ((hy).below hb0) Tryz.runUnderlying69 Tryz.sizeOf106 rfl rfl ?_ ?_ rfl ?_
   ·omega
   ·omega
   intro x23 hx23 hc23;refine QS_q (Rq_loadA Tryz.isAgg106 Tryz.sizeOf106 rfl ((hc23)) rfl) rfl (QS_q (Rq_neqS (fun w => eq106 _ _ w) eg106 rfl rfl) rfl (QS_nil ?_));intro wr6 hbr6;replace hb0 := btr hb0 hbr6;refine D_then ?_;refine W_cond rfl ?_ ?_
   ·intro g25
    try simp only [dd] at g25
    refine W_seq (W_region (SG_q (Rq_assign rfl) rfl (SG_nil (D_then (W_ret (D_block_ret (D_then_ret (D_loop_ret ?_))))))));refine D_block_ret (D_then_ret (D_body1 rfl rfl rfl ?_));exact ⟨by rw [decide_eq_false (same_not hx19 hx23 (by simpa using g25))], hb0⟩
   ·intro g25
    try simp only [dd] at g25
    refine W_skip ?_;refine D_block ?_;refine D_then ?_;refine W_region ?_;refine SG_q (Rq_move rfl) rfl ?_;refine SG_q (Rq_add rfl rfl (wrap_i64 (by omega) (by omega))) rfl ?_;refine SG_q (Rq_assign rfl) rfl ?_;refine SG_nil ?_;refine D_loop (x + 1) (by repeat (first | exact Sub.nil | refine Sub.cons rfl ?_)) ⟨hb0, by omega, fun j hj => by rcases Nat.lt_succ_iff_lt_or_eq.1 hj with h | rfl; exact hno j h; (rw [show xs[j]? = _ from hx19, show ys[j]? = _ from hx23]; simpa using g25)⟩ (by omega)
  ·intro g14
   try simp only [dd] at g14
   refine W_exit (D_then_exit (D_loop_exit ?_));refine D_block_exit (D_then (W_seq (W_region (SG_q (Rq_assign rfl) rfl (SG_nil (D_then (W_ret (D_body1 rfl rfl rfl ?_))))))));exact ⟨by rw [decide_eq_true (same_list hll (fun j hj => hno j (by omega)))], hb0⟩
theorem f33_c {v : Value} {C : Co} {w : World} (hC : CoS w v C) (hN : Cu C) : Mi.Fn Tryz.prog 33 #[v] w fun u w' => ∃ q, u = .tuple #[q, .bool true] ∧ OS w' q 106 2 encV (cellsA C) w.heap.size := by
 obtain ⟨uC, uO, uR, rfl, hu1, hu2, hu3⟩ := hC.ex
 have hch2 : C.ch.length = 2 := by rw [hN.ch]; rfl
 have hol := hN.ol; have hrl := hN.rl
 have p1 : C.ch.length ≤ 100000 := by omega
 have p2 : C.ops.length ≤ 100000 := by omega
 have p3 : C.roots.length ≤ 100000 := by omega
 have hb0 := Below.refl w.heap.size w;refine calls_of_W Tryz.func33 rfl Tryz.ntmps33 rfl ?_;refine W_seq (W_region (SG_box rfl rfl rfl ?_));intro w1 b1 e1 hb1 hz1 hB1
 have hle1 : w.heap.size ≤ b1 := by have := hb0.size; omega
 replace hb0 := btr hb0 hb1;refine SG_q (Rq_assign rfl) rfl (SG_q (Rq_assign rfl) rfl (SG_nil (D_then (W_seq (W_region (SG_bslice (enc := encV) (val := valV) (os := []) rfl rfl MV.nil (fun _ => rfl) (fun _ => rfl) Tryz.runUnderlying69 Tryz.sizeOf106 Tryz.zeroValue106 rfl (by decide) (by decide) rfl ?_))))));intro w9 v9 b9 e9 hb9 hz9 hob9 hO9
 have hle9 : w.heap.size ≤ b9 := by have := hb0.size; omega
 have lt_b1_9 : b1 < b9 := by have := hB1.lt; omega
 replace hb0 := btr hb0 hb9;replace hB1 := hB1.below hb9;refine SG_q (Rq_assign rfl) rfl (SG_nil (D_then (W_seq (W_seq (W_region (SG_q (Rq_fieldAddr fa26_0 rfl) rfl (SG_q (Rq_loadB (hB1) Tryz.isAgg22 rfl rfl) rfl ?_)))))))
 first | refine SG_q (Rq_len ((hu1).below hb0) Tryz.runUnderlying22 rfl) rfl ?_ | refine SG_q (Rq_len ((hu2).below hb0) Tryz.runUnderlying22 rfl) rfl ?_ | refine SG_q (Rq_len ((hu3).below hb0) Tryz.runUnderlying22 rfl) rfl ?_ | refine SG_q (Rq_len (hO9.sl) Tryz.runUnderlying22 rfl) rfl ?_
 refine SG_q (Rq_neq rfl rfl) rfl (SG_nil (D_then ?_));refine W_cond rfl ?_ ?_
 ·intro g13; exfalso; (try simp only [dd] at g13); omega
 ·intro g13
  try simp only [dd] at g13
  refine W_skip ?_;refine D_then ?_;refine W_seq ?_;refine W_seq ?_;refine W_region ?_;refine SG_q (Rq_assign rfl) rfl ?_;refine SG_nil ?_;refine D_then ?_;refine W_block ?_;refine W_loop (α := Int × Value) (fun x => [(5, .int .i64 x.1), (4, x.2), (1, .pointer (some ⟨b1, 0, none⟩))]) (fun x w' => Below w.heap.size w w' ∧ (-1 ≤ x.1 ∧ x.1 ≤ 3 ∧ w1.heap.size ≤ w'.heap.size) ∧ OS w' x.2 106 2 encV (cA C (x.1 + 1).toNat) w1.heap.size ∧ Blk w' b1 [uC, uO, uR] 26) (fun x => (3 - x.1).toNat) ((-1, v9)) (by repeat (first | exact Sub.nil | refine Sub.cons rfl ?_)) ⟨hb0, ⟨by dsimp only; omega, by dsimp only; omega, hb9.size⟩, (by dsimp only; rw [show ((-1 : Int) + 1).toNat = 0 from rfl, show cA C 0 = [] from rfl]; exact hO9.le (by omega)), hB1⟩ ?_;clear hb0;clear hB1;clear hO9;rintro x wl0 ⟨hb0, ⟨hx0, hx1, hxz⟩, hX, hB1⟩;refine W_seq ?_;refine W_seq ?_;refine W_region ?_;refine SG_q (Rq_move rfl) rfl ?_;refine SG_q (Rq_leq rfl rfl) rfl ?_;refine SG_nil ?_;refine D_then ?_;refine W_cond rfl ?_ ?_
  ·intro g15
   try simp only [dd] at g15
   obtain ⟨k, hk⟩ := Int.eq_ofNat_of_zero_le (show 0 ≤ x.1 + 1 by omega);refine W_skip ?_;refine D_then ?_;refine W_seq ?_;refine W_block ?_;refine W_seq ?_;refine W_region ?_;refine SG_q (Rq_assign rfl) rfl ?_;refine SG_nil ?_;refine D_then ?_;refine W_block ?_;refine W_loop (α := Nat × Value) (fun z => [(6, .int .i64 (z.1 : Nat)), (5, .int .i64 x.1), (4, z.2), (1, .pointer (some ⟨b1, 0, none⟩))]) (fun z w' => Below w.heap.size w w' ∧ (z.1 ≤ 3 ∧ w1.heap.size ≤ w'.heap.size) ∧ OS w' z.2 106 2 encV (cB C k z.1) w1.heap.size ∧ Blk w' b1 [uC, uO, uR] 26) (fun z => 3 - z.1) ((0, x.2)) (by repeat (first | exact Sub.nil | refine Sub.cons rfl ?_)) ⟨hb0, ⟨by dsimp only; omega, hxz⟩, by dsimp only; rw [cB_zero, show k = (x.1 + 1).toNat by omega]; exact hX, hB1⟩ ?_;clear hb0;clear hB1;clear hX;rintro z wl1 ⟨hb0, ⟨hzi, hzz⟩, hY, hB1⟩;refine W_seq ?_;refine W_seq ?_;refine W_region ?_;refine SG_q (Rq_move rfl) rfl ?_;refine SG_q (Rq_leq rfl rfl) rfl ?_;refine SG_nil ?_;refine D_then ?_;refine W_cond rfl ?_ ?_
   ·intro g19
    try simp only [dd] at g19
    have hcl := cB_len hN.rl k z.1
    have hrw : evalR [x.1, (z.1 : Int)] C = rowA C k z.1 := by rw [rowA, show x.1 = (k : Int) - 1 by omega]
    have hrwl := rowA_len hN.rl k z.1;refine W_skip (D_then (W_seq (W_block (W_seq (W_region ?_)))))
    first | refine SG_q (Rq_loadBW (hB1) Tryz.isAgg26 Tryz.sizeOf26 rfl rfl) rfl ?_ | refine SG_q (Rq_loadBA (hB1) Tryz.isAgg26 Tryz.sizeOf26 rfl rfl rfl) rfl ?_
    refine SG_call rfl Tryz.call34 rfl (f34_c (⟨⟨_, _, _, rfl, ((hu1).below hb0), ((hu2).below hb0), ((hu3).below hb0)⟩⟩ : CoS _ _ C) p1 p2 p3) ?_;rintro v24 w24 hb24 ⟨ta1, tn1, tc1, ta2, tn2, tc2, ta3, tn3, tc3, rfl, ht1, ht2, ht3⟩;replace hb0 := btr hb0 hb24;replace hB1 := hB1.below hb24;replace hY := hY.below hb24;replace ht1 := ht1.sl;replace ht2 := ht2.sl;replace ht3 := ht3.sl;refine SG_q (Rq_move rfl) rfl (SG_q (Rq_move rfl) rfl (SG_bslice (enc := encI) (val := valI) (os := [.tmp 25, .tmp 26]) rfl rfl (MV.cons (x := x.1) (MV.cons (x := (z.1 : Int)) MV.nil)) (fun _ => rfl) (fun _ => rfl) Tryz.runUnderlying24 Tryz.sizeOf3 Tryz.zeroValue3 rfl (by decide) (by decide) rfl ?_));intro w27 v27 b27 e27 hb27 hz27 hob27 hO27
    have hle27 : w.heap.size ≤ b27 := by have := hb0.size; omega
    have lt_b1_27 : b1 < b27 := by have := hB1.lt; omega
    replace hb0 := btr hb0 hb27;replace hB1 := hB1.below hb27;replace hY := hY.below hb27;replace ht1 := ht1.below hb27;replace ht2 := ht2.below hb27;replace ht3 := ht3.below hb27;refine SG_call rfl Tryz.call54 rfl (f54_c (ht1) (ht2) (ht3) (hO27.sl) hN.ck hN.np (okW2 hN (by omega) (by omega))) ?_;rintro v28 w28 hb28 ⟨u28, rfl, hE⟩;replace hb0 := btr hb0 hb28;replace hB1 := hB1.below hb28;replace hY := hY.below hb28;replace ht1 := ht1.below hb28;replace ht2 := ht2.below hb28;replace ht3 := ht3.below hb28;replace hO27 := hO27.below hb28;refine SG_q (Rq_move rfl) rfl ?_;refine SG_q (Rq_extract rfl rfl) rfl ?_;refine SG_q (Rq_extract rfl rfl) rfl ?_;refine SG_q (Rq_assign rfl) rfl ?_;refine SG_q (Rq_assign rfl) rfl ?_;refine SG_nil ?_;refine D_then ?_;refine W_seq ?_;refine W_seq ?_;refine W_region ?_;refine SG_q (Rq_move rfl) rfl ?_;refine SG_q (Rq_neq rfl rfl) rfl ?_;refine SG_q (Rq_move rfl) rfl ?_;refine SG_or (r := ?r33n1) 7 40 33 rfl ?_ ?_ ?_; rotate_left
    ·intro g33 K33
     have g33' := g33; try simp only [dd] at g33'
     have hm33 := Below.refl (w28).heap.size w28;refine SG_yes 33 rfl rfl g33 (SG_q (Rq_move rfl) rfl (SG_yes 33 rfl rfl g33 ?_))
     first | refine SG_q (Rq_len ((hu1).below hb0) Tryz.runUnderlying69 rfl) rfl ?_ | refine SG_q (Rq_len ((hu2).below hb0) Tryz.runUnderlying69 rfl) rfl ?_ | refine SG_q (Rq_len ((hu3).below hb0) Tryz.runUnderlying69 rfl) rfl ?_ | refine SG_q (Rq_len (ht1) Tryz.runUnderlying69 rfl) rfl ?_ | refine SG_q (Rq_len (ht2) Tryz.runUnderlying69 rfl) rfl ?_ | refine SG_q (Rq_len (ht3) Tryz.runUnderlying69 rfl) rfl ?_ | refine SG_q (Rq_len (hY.sl) Tryz.runUnderlying69 rfl) rfl ?_ | refine SG_q (Rq_len (hO27.sl) Tryz.runUnderlying69 rfl) rfl ?_ | refine SG_q (Rq_len (hE.sl) Tryz.runUnderlying69 rfl) rfl ?_
     refine SG_yes 33 rfl rfl g33 (SG_q (Rq_fieldAddr fa26_2 rfl) rfl (SG_yes 33 rfl rfl g33 (SG_q (Rq_loadB (hB1) Tryz.isAgg24 rfl rfl) rfl (SG_yes 33 rfl rfl g33 ?_))))
     first | refine SG_q (Rq_len ((hu1).below hb0) Tryz.runUnderlying24 rfl) rfl ?_ | refine SG_q (Rq_len ((hu2).below hb0) Tryz.runUnderlying24 rfl) rfl ?_ | refine SG_q (Rq_len ((hu3).below hb0) Tryz.runUnderlying24 rfl) rfl ?_ | refine SG_q (Rq_len (ht1) Tryz.runUnderlying24 rfl) rfl ?_ | refine SG_q (Rq_len (ht2) Tryz.runUnderlying24 rfl) rfl ?_ | refine SG_q (Rq_len (ht3) Tryz.runUnderlying24 rfl) rfl ?_ | refine SG_q (Rq_len (hY.sl) Tryz.runUnderlying24 rfl) rfl ?_ | refine SG_q (Rq_len (hO27.sl) Tryz.runUnderlying24 rfl) rfl ?_ | refine SG_q (Rq_len (hE.sl) Tryz.runUnderlying24 rfl) rfl ?_
     refine SG_yes 33 rfl rfl g33 (SG_q (Rq_neq rfl rfl) rfl (SG_q (Rq_pick rfl (fun h => absurd (g33.symm.trans h) (by decide)) (fun _ => rfl)) rfl ?_));exact K33 _ _ hm33 (by repeat (first | exact Sub.refl | refine Sub.shadow ?_ | refine Sub.same ?_ | refine Sub.push rfl ?_))
    ·intro g33 K33
     have g33' := g33; try simp only [dd] at g33'
     have hm33 := Below.refl (w28).heap.size w28;refine SG_no 33 rfl rfl g33 rfl (SG_no 33 rfl rfl g33 rfl (SG_no 33 rfl rfl g33 rfl (SG_no 33 rfl rfl g33 rfl (SG_no 33 rfl rfl g33 rfl (SG_no 33 rfl rfl g33 rfl (SG_q (Rq_pick rfl (fun _ => rfl) (fun h => absurd (g33.symm.trans h) (by decide))) rfl ?_))))));exact K33 _ _ hm33 (by repeat (first | exact Sub.refl | refine Sub.shadow ?_ | refine Sub.same ?_ | refine Sub.push rfl ?_))
    intro wm33 hbm33;replace hb0 := btr hb0 hbm33;replace hB1 := hB1.below hbm33;replace hY := hY.below hbm33;replace hE := hE.below hbm33
    simp only [List.drop_succ_cons, List.drop_zero]
    refine SG_nil (D_then ?_);refine W_cond rfl ?_ ?_
    ·intro g40; exfalso; (try simp only [dd] at g40); simp [evalR] at g40
    ·intro g40
     try simp only [dd] at g40
     refine W_skip ?_;refine D_then ?_;refine W_region ?_;refine SG_q (Rq_move rfl) rfl ?_;refine SG_q (Rq_move rfl) rfl ?_;refine SG_append (hY) (hE.sl) Tryz.underlying69 info106 rfl rfl rfl (fun _ _ => rfl) (by (try simp only [List.length_append, List.length_cons, List.length_nil]); rw [hrw, hrwl]; omega) (by (try simp only [List.length_append, List.length_cons, List.length_nil]); rw [hrw, hrwl]; omega) (by have q1 := hbm33.size; have q2 := hb28.size; have q3 := hb27.size; have q4 := hb24.size; omega) rfl ?_;intro v43 w43 hO43 hch43 hsn43;replace hb0 := hb0.trans (hch43.below hb0.size (fun k hk e => by have := (hY).lt e; omega));replace hB1 := hB1.chg hch43 (fun e => by have := (hY).lt e; omega);clear ht1;clear ht2;clear ht3;clear hO27;clear hE;clear hY;refine SG_q (Rq_assign rfl) rfl ?_;refine SG_nil ?_;refine D_block ?_;refine D_then ?_;refine W_region ?_;refine SG_q (Rq_move rfl) rfl ?_;refine SG_q (Rq_add rfl rfl (wrap_i64 (by omega) (by omega))) rfl ?_;refine SG_q (Rq_assign rfl) rfl ?_;refine SG_nil ?_;refine D_loop ((z.1 + 1, v43)) (by repeat (first | exact Sub.nil | refine Sub.cons rfl ?_)) ⟨hb0, ⟨by dsimp only; omega, by have q0 := hch43.size; have q1 := hbm33.size; have q2 := hb28.size; have q3 := hb27.size; have q4 := hb24.size; omega⟩, by dsimp only; rw [cB_succ, ← hrw]; exact hO43, hB1⟩ (by dsimp only; omega)
   ·intro g19
    try simp only [dd] at g19
    rw [show z.1 = 3 by omega, ← cA_succ] at hY;refine W_exit ?_;refine D_then_exit ?_;refine D_loop_exit ?_;refine D_block_exit ?_;refine D_block ?_;refine D_then ?_;refine W_region ?_;refine SG_q (Rq_move rfl) rfl ?_;refine SG_q (Rq_add rfl rfl (wrap_i64 (by omega) (by omega))) rfl ?_;refine SG_q (Rq_assign rfl) rfl ?_;refine SG_nil ?_;refine D_loop ((x.1 + 1, z.2)) (by repeat (first | exact Sub.nil | refine Sub.cons rfl ?_)) ⟨hb0, ⟨by dsimp only; omega, by dsimp only; omega, hzz⟩, by dsimp only; rw [show (x.1 + 1 + 1).toNat = k + 1 by omega]; exact hY, hB1⟩ (by dsimp only; omega)
  ·intro g15
   try simp only [dd] at g15
   have hx3 : (x.1 + 1).toNat = 4 := by omega
   rw [hx3] at hX;refine W_exit ?_;refine D_then_exit ?_;refine D_loop_exit ?_;refine D_block_exit ?_;refine D_then ?_;refine W_seq ?_;refine W_region ?_;refine SG_q (Rq_move rfl) rfl ?_;refine SG_q (Rq_assign rfl) rfl ?_;refine SG_q (Rq_assign rfl) rfl ?_;refine SG_nil ?_;refine D_then ?_;refine W_ret ?_;refine D_body2 rfl rfl rfl rfl ?_;exact ⟨_, rfl, hb0, _, rfl, hX.le (by have := hb1.size; omega)⟩
end Go.Proofs.YtphmoebiobjfhaaGreat
