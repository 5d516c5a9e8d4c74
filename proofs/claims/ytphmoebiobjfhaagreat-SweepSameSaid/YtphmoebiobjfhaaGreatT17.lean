/- Walks of functions, printed by a program of the author. -/
import Derived.Test.YtphmoebiobjfhaaGreatT16
set_option linter.all false
namespace Go.Proofs.YtphmoebiobjfhaaGreat
open Go Go.Mi Go.RowKit
set_option maxHeartbeats 1000000 in
theorem f19_w {vC vO vR : Value} {C : Co} {w : World} (hC : SL w vC 3 encC C.ch) (hO : SL w vO 5 encO C.ops) (hR : SL w vR 1 encI C.roots) (h1 : C.ch.length ≤ 100000) (h2 : C.ops.length ≤ 100000) (h3 : C.roots.length ≤ 100000) {vL : Value} {l : List Rw} (hL : SL w vL 2 encR l) : Mi.Fn Tryz.prog 19 #[.agg [vC, vO, vR].toArray, vL] w fun v w' => ∃ u, v = .tuple #[u, .int .i64 (replayR C l).2.1, .int .i64 (replayR C l).2.2] ∧ CoO 84 76 3 w.heap.size w' u (replayR C l).1 := by
 have hb0 := Below.refl w.heap.size w;refine calls_of_W Tryz.func19 rfl Tryz.ntmps19 rfl ?_;refine W_seq (W_region (SG_box rfl rfl rfl ?_));intro w2 b2 e2 hb2 hz2 hB2
 have hle2 : w.heap.size ≤ b2 := by have := hb0.size; omega
 replace hb0 := btr hb0 hb2;refine SG_alloc Tryz.zeroValue26 rfl rfl ?_;intro w4 b4 e4 hb4 hz4 hB4
 have hle4 : w.heap.size ≤ b4 := by have := hb0.size; omega
 have ne_b2_4 : ¬ b2 = b4 := by have := hB2.lt; omega
 replace hb0 := btr hb0 hb4;replace hB2 := hB2.below hb4;refine SG_q (Rq_assign rfl) rfl (SG_q (Rq_assign rfl) rfl (SG_nil (D_then (W_seq (W_region ?_)))))
 first | refine SG_q (Rq_loadBW (hB2) Tryz.isAgg26 Tryz.sizeOf26 rfl rfl) rfl ?_ | refine SG_q (Rq_loadBA (hB2) Tryz.isAgg26 Tryz.sizeOf26 rfl rfl rfl) rfl ?_
 refine SG_call rfl Tryz.call40 rfl (f40_k ((hC).below hb0) ((hO).below hb0) ((hR).below hb0) h1 h2 h3) ?_;rintro v13 w13 hb13 ⟨p, rfl, hP⟩;replace hb0 := btr hb0 hb13;replace hB4 := hB4.below hb13;refine SG_q (Rq_move rfl) rfl (SG_q (Rq_extract rfl rfl) rfl (SG_q (Rq_extract rfl rfl) rfl (SG_q (Rq_assign rfl) rfl (SG_q (Rq_assign rfl) rfl (SG_nil (D_then (W_seq (W_block (W_seq (W_region (SG_q (Rq_move rfl) rfl (SG_q (Rq_neq rfl rfl) rfl (SG_q (Rq_assign rfl) rfl (SG_nil (D_then ?_)))))))))))))));refine W_cond rfl ?_ ?_
 ·intro g16
  try simp only [dd] at g16
  refine W_seq (W_region ?_)
  first | refine SG_q (Rq_loadBW (hB4) Tryz.isAgg26 Tryz.sizeOf26 rfl rfl) rfl ?_ | refine SG_q (Rq_loadBA (hB4) Tryz.isAgg26 Tryz.sizeOf26 rfl rfl rfl) rfl ?_
  refine SG_q (Rq_move rfl) rfl ?_;refine SG_storeW (hB4) rfl rfl rfl rfl Tryz.sizeOf26 rfl rfl ?_;intro ws3x2 hchs3x2 hBs3x2;replace hb0 := bchg hb0 hchs3x2 hle4;clear hB4;refine SG_q (Rq_assign rfl) rfl ?_;refine SG_q (Rq_assign rfl) rfl ?_;refine SG_nil ?_;refine D_then ?_;refine W_ret ?_;refine D_block_ret ?_;refine D_then_ret ?_;refine D_bodyR3 rfl rfl (.cellW rfl (hBs3x2) Tryz.isAgg26 Tryz.sizeOf26 rfl) (.tmp rfl) (.tmp rfl) ?_;exact ⟨_, rfl, hb0, _, by rw [replayR, if_pos (by simpa using g16)], by rw [replayR, if_pos (by simpa using g16)]; exact CoO.no⟩
 ·intro g16
  try simp only [dd] at g16
  have hck0 : checkR C = 0 := by simpa using g16
  obtain ⟨bs, rM, uC, uO, uR, uU, uT, rfl, hS⟩ := hP hck0
  have ne_hS_b4 : ∀ k, StB bs rM uC uO uR uU uT k → ¬ k = b4 := fun k hk => by have := hS.lt hk; omega
  have hw4z := (btr hb2 hb4).size;refine W_seq (W_region (SG_q (Rq_move rfl) rfl ?_))
  first | refine SG_q (Rq_len ((hL).below hb0) Tryz.runUnderlying30 rfl) rfl ?_ | refine SG_q (Rq_len ((hL.below hbw).below hb0) Tryz.runUnderlying30 rfl) rfl ?_
  refine SG_q (Rq_gtr rfl rfl) rfl (SG_q (Rq_assign rfl) rfl (SG_nil (D_then ?_)));refine W_cond rfl ?_ ?_
  ·intro g21
   try simp only [dd] at g21
   refine W_seq (W_region ?_)
   first | refine SG_q (Rq_loadBW (hB4) Tryz.isAgg26 Tryz.sizeOf26 rfl rfl) rfl ?_ | refine SG_q (Rq_loadBA (hB4) Tryz.isAgg26 Tryz.sizeOf26 rfl rfl rfl) rfl ?_
   refine SG_storeW (hB4) rfl rfl rfl rfl Tryz.sizeOf26 rfl rfl ?_;intro ws5x1 hchs5x1 hBs5x1;replace hb0 := bchg hb0 hchs5x1 hle4;clear hB4;refine SG_q (Rq_assign rfl) rfl ?_;refine SG_q (Rq_assign rfl) rfl ?_;refine SG_nil ?_;refine D_then ?_;refine W_ret ?_;refine D_block_ret ?_;refine D_then_ret ?_;refine D_bodyR3 rfl rfl (.cellW rfl (hBs5x1) Tryz.isAgg26 Tryz.sizeOf26 rfl) (.tmp rfl) (.tmp rfl) ?_;exact ⟨_, rfl, hb0, _, by rw [replayR, if_neg (by simp [hck0]), if_pos (by omega)], by rw [replayR, if_neg (by simp [hck0]), if_pos (by omega)]; exact CoO.no⟩
  ·intro g21
   try simp only [dd] at g21
   have hll : l.length ≤ 9000 := by omega
   refine W_skip (D_block (D_then (W_seq (W_seq (W_region (SG_q (Rq_move rfl) rfl ?_))))))
   first | refine SG_q (Rq_len ((hL).below hb0) Tryz.runUnderlying30 rfl) rfl ?_ | refine SG_q (Rq_len ((hL.below hbw).below hb0) Tryz.runUnderlying30 rfl) rfl ?_
   refine SG_q (Rq_move rfl) rfl ?_;refine SG_nil ?_;refine D_then ?_;refine W_block ?_;refine W_loop (α := Rx) (fun x => [(28, .int .i64 (x.n : Nat)), (27, .int .i64 (l.length : Nat)), (26, vL), (7, .pointer (some ⟨bs, 0, none⟩)), (4, .pointer (some ⟨b4, 0, none⟩)), (1, vL)]) (fun x w' => x.n ≤ l.length ∧ checkR x.C = 0 ∧ replayR C l = replayF x.C x.n (l.drop x.n) ∧ Below w.heap.size w w' ∧ StF (⟨84, 76, 3, 4, 92⟩ : StTy) w4.heap.size w' bs x.rM uC uO uR x.vU x.vT x.C ∧ Blk w' b4 [.slice none 0 0, .slice none 0 0, .slice none 0 0] 26) (fun x => l.length - x.n) ((⟨0, C, rM, uU, uT⟩ : Rx)) (by repeat (first | exact Sub.nil | refine Sub.cons rfl ?_)) ⟨Nat.zero_le _, hck0, by rw [replayR, if_neg (by simp [hck0]), if_neg (by omega)]; rfl, hb0, hS, hB4⟩ ?_;clear hb0;clear hB2;clear hB4;clear hS;rintro x wl0 ⟨hx, hckx, hI, hbw, hS, hB4⟩;have hb0 := Below.refl wl0.heap.size wl0;refine W_seq ?_;refine W_region ?_;refine SG_q (Rq_lss rfl rfl) rfl ?_;refine SG_nil ?_;refine D_then ?_;refine W_seq ?_;refine W_cond rfl ?_ ?_
   ·intro g29
    try simp only [dd] at g29
    have hxl : x.n < l.length := by omega
    obtain ⟨r, hr⟩ : ∃ r, l[x.n]? = some r := ⟨_, List.getElem?_eq_getElem hxl⟩
    obtain ⟨hs1, hs2⟩ := replay_step hI hr;have hbz := hbw.size;refine W_skip (D_then (W_seq (W_block (W_seq (W_region (SG_q (Rq_move rfl) rfl ?_))))))
    first | refine SG_index ((hL).below hb0) Tryz.runUnderlying30 Tryz.sizeOf45 rfl rfl ?_ ?_ rfl ?_ | refine SG_index ((hL.below hbw).below hb0) Tryz.runUnderlying30 Tryz.sizeOf45 rfl rfl ?_ ?_ rfl ?_
    ·omega
    ·omega
    intro x31 hx31 hc31;have ex31 := Option.some.inj ((hr).symm.trans hx31); subst ex31;refine SG_q (Rq_loadA Tryz.isAgg45 Tryz.sizeOf45 rfl ((hc31)) rfl) rfl (SG_alloc Tryz.zeroValue45 rfl rfl ?_);intro w9 b9 e9 hb9 hz9 hB9
    have hle9 : wl0.heap.size ≤ b9 := by have := hb0.size; omega
    have ne_hS_b9 : ∀ k, StB bs x.rM uC uO uR x.vU x.vT k → ¬ k = b9 := fun k hk => by have := hS.lt hk; omega
    have ne_b4_9 : ¬ b4 = b9 := by have := hB4.lt; omega
    replace hb0 := btr hb0 hb9;replace hS := hS.below hb9;replace hB4 := hB4.below hb9;refine SG_q (Rq_assign rfl) rfl (SG_storeW (hB9) rfl rfl rfl rfl Tryz.sizeOf45 rfl rfl ?_);intro ws8x5 hchs8x5 hBs8x5;replace hb0 := bchg hb0 hchs8x5 hle9;replace hS := hS.chg hchs8x5 (ne_hS_b9);replace hB4 := hB4.chg hchs8x5 ne_b4_9;clear hc31;clear hB9;refine SG_nil (D_then (W_seq (W_region (SG_q (Rq_move rfl) rfl ?_))))
    first | refine SG_q (Rq_loadBW (hBs8x5) Tryz.isAgg45 Tryz.sizeOf45 rfl rfl) rfl ?_ | refine SG_q (Rq_loadBA (hBs8x5) Tryz.isAgg45 Tryz.sizeOf45 rfl rfl rfl) rfl ?_
    refine SG_callC rfl Tryz.call47 rfl (K := fun v w' => ∃ rM' vU' vT', v = .int .i64 (applyR x.C r).2 ∧ StF (⟨84, 76, 3, 4, 92⟩ : StTy) w4.heap.size w' bs rM' uC uO uR vU' vT' (applyR x.C r).1 ∧ Chg (StC bs uO uR) ws8x5 w') ?_ ?_
    ·refine Calls.mono (f47_c hS hckx r) ?_
     rintro e w' ⟨rM', vU', vT', rfl, h1, h2, h3⟩; exact ⟨_, rfl, rM', vU', vT', rfl, h1, h2⟩
    rintro v35 w35 ⟨rM', vU', vT', rfl, hS', hcap⟩
    have hge : ∀ k, StC bs uO uR k → w4.heap.size ≤ k := fun k e => (hS.lt (StC.st (rM := x.rM) (vC := uC) (vU := x.vU) (vT := x.vT) e)).1
    replace hbw := (btr hbw hb0).trans (hcap.below (btr hbw hb0).size (fun k hk e => by have := hge k e; omega));replace hB4 := hB4.chg hcap (fun e => by have := hge _ e; omega);clear hS;have hS := hS';clear hS';clear hBs8x5;clear hb0;have hb0 := Below.refl w35.heap.size w35;refine SG_q (Rq_assign rfl) rfl ?_;refine SG_nil ?_;refine D_then ?_;refine W_seq ?_;refine W_region ?_;refine SG_q (Rq_move rfl) rfl ?_;refine SG_q (Rq_neq rfl rfl) rfl ?_;refine SG_nil ?_;refine D_then ?_;refine W_cond rfl ?_ ?_
    ·intro g37
     try simp only [dd] at g37
     clear hb0;have hb0 := hbw
     have ne_hS_b4 : ∀ k, StB bs rM' uC uO uR vU' vT' k → ¬ k = b4 := fun k hk => by have := hS.lt hk; omega
     refine W_seq (W_region ?_)
     first | refine SG_q (Rq_loadBW (hB4) Tryz.isAgg26 Tryz.sizeOf26 rfl rfl) rfl ?_ | refine SG_q (Rq_loadBA (hB4) Tryz.isAgg26 Tryz.sizeOf26 rfl rfl rfl) rfl ?_
     refine SG_q (Rq_move rfl) rfl ?_;refine SG_q (Rq_move rfl) rfl ?_;refine SG_storeW (hB4) rfl rfl rfl rfl Tryz.sizeOf26 rfl rfl ?_;intro ws11x3 hchs11x3 hBs11x3;replace hb0 := bchg hb0 hchs11x3 hle4;clear hB4;refine SG_q (Rq_assign rfl) rfl ?_;refine SG_q (Rq_assign rfl) rfl ?_;refine SG_nil ?_;refine D_then ?_;refine W_ret ?_;refine D_block_ret ?_;refine D_then_ret ?_;refine D_loop_ret ?_;refine D_block_ret ?_;refine D_then_ret ?_;refine D_bodyR3 rfl rfl (.cellW rfl (hBs11x3) Tryz.isAgg26 Tryz.sizeOf26 rfl) (.tmp rfl) (.tmp rfl) ?_;exact ⟨_, rfl, hb0, _, by rw [hs1 (by simpa using g37)], by rw [hs1 (by simpa using g37)]; exact CoO.no⟩
    ·intro g37
     try simp only [dd] at g37
     refine W_skip ?_;refine D_block ?_;refine D_then ?_;refine W_region ?_;refine SG_q (Rq_add rfl rfl (wrap_i64 (by omega) (by omega))) rfl ?_;refine SG_q (Rq_move rfl) rfl ?_;refine SG_nil ?_;refine D_loop ((⟨x.n + 1, (applyR x.C r).1, rM', vU', vT'⟩ : Rx)) (by repeat (first | exact Sub.nil | refine Sub.cons rfl ?_)) ⟨by dsimp only; omega, applyR_check hckx r, hs2 (by simpa using g37), btr hbw hb0, hS, hB4⟩ (by dsimp only; omega)
   ·intro g29
    try simp only [dd] at g29
    clear hb0;have hb0 := hbw
    obtain ⟨a_uC, n_uC, c_uC, h_uC⟩ : ∃ a n c, uC = Value.slice a n c := by obtain ⟨a, c, h⟩ := (hS.oC.sl).len; exact ⟨_, _, _, h⟩
    subst h_uC
    obtain ⟨a_uO, n_uO, c_uO, h_uO⟩ : ∃ a n c, uO = Value.slice a n c := by obtain ⟨a, c, h⟩ := (hS.oO.sl).len; exact ⟨_, _, _, h⟩
    subst h_uO
    obtain ⟨a_uR, n_uR, c_uR, h_uR⟩ : ∃ a n c, uR = Value.slice a n c := by obtain ⟨a, c, h⟩ := (hS.oR.sl).len; exact ⟨_, _, _, h⟩
    subst h_uR
    have ne_hSx : ∀ k, StB bs x.rM (Value.slice a_uC n_uC c_uC) (Value.slice a_uO n_uO c_uO) (Value.slice a_uR n_uR c_uR) x.vU x.vT k → ¬ k = b4 := fun k hk => by have := hS.lt hk; omega
    have ne_hS_b4 := ne_hSx;refine W_exit (D_then_exit (D_loop_exit ?_));refine D_block_exit (D_then (W_seq (W_region (SG_q (Rq_move rfl) rfl (SG_q (Rq_nilCheck rfl) rfl (SG_q (Rq_fieldAddr fa92_0 rfl) rfl ?_))))))
    first | refine SG_q (Rq_loadBW (hS.blk) Tryz.isAgg26 Tryz.sizeOf26 rfl rfl) rfl ?_ | refine SG_q (Rq_loadBA (hS.blk) Tryz.isAgg26 Tryz.sizeOf26 rfl rfl rfl) rfl ?_
    refine SG_q (Rq_move rfl) rfl ?_
    first | refine SG_q (Rq_len ((hL).below hb0) Tryz.runUnderlying30 rfl) rfl ?_ | refine SG_q (Rq_len ((hL.below hbw).below hb0) Tryz.runUnderlying30 rfl) rfl ?_
    refine SG_storeW (hB4) rfl rfl rfl rfl Tryz.sizeOf26 rfl rfl ?_;intro ws13x6 hchs13x6 hBs13x6;replace hb0 := bchg hb0 hchs13x6 hle4;replace hS := hS.chg hchs13x6 (ne_hS_b4);clear hB4;refine SG_q (Rq_assign rfl) rfl (SG_q (Rq_assign rfl) rfl (SG_nil (D_then (W_ret (D_bodyR3 rfl rfl (.cellW rfl (hBs13x6) Tryz.isAgg26 Tryz.sizeOf26 rfl) (.tmp rfl) (.tmp rfl) ?_)))))
    have hxe : x.n = l.length := by omega
    rw [List.drop_of_length_le (by omega), replayF, hxe] at hI;exact ⟨_, rfl, hb0, _, by rw [hI], by rw [hI]; exact ⟨_, _, _, rfl, hS.oC.le hw4z, hS.oO.le hw4z, hS.oR.le hw4z⟩⟩
theorem f19_c {vC vO vR : Value} {C : Co} {w : World} (hC : SL w vC 3 encC C.ch) (hO : SL w vO 5 encO C.ops) (hR : SL w vR 1 encI C.roots) (h1 : C.ch.length ≤ 100000) (h2 : C.ops.length ≤ 100000) (h3 : C.roots.length ≤ 100000) {vL : Value} {l : List Rw} (hL : SL w vL 2 encR l) : Mi.Fn Tryz.prog 19 #[.agg [vC, vO, vR].toArray, vL] w fun v w' => ∃ u, v = .tuple #[u, .int .i64 (replayR C l).2.1, .int .i64 (replayR C l).2.2] ∧ CoV w.heap.size w'.heap.size w' u (replayR C l).1 := Fn.mono (f19_w hC hO hR h1 h2 h3 hL) fun _ _ _ ⟨u, e, h⟩ => ⟨u, e, h.cv⟩
theorem f21_w {vC vO vR : Value} {C : Co} {w : World} (hC : SL w vC 3 encC C.ch) (hO : SL w vO 5 encO C.ops) (hR : SL w vR 1 encI C.roots) (h1 : C.ch.length ≤ 100000) (h2 : C.ops.length ≤ 100000) (h3 : C.roots.length ≤ 100000) (r : Rw) : Mi.Fn Tryz.prog 21 #[.agg [vC, vO, vR].toArray, valR r] w fun v w' => ∃ u, v = .tuple #[u, .int .i64 (replayR C [r]).2.2] ∧ CoO 84 76 3 w.heap.size w' u (replayR C [r]).1 := by
 have hb0 := Below.refl w.heap.size w;refine calls_of_W Tryz.func21 rfl Tryz.ntmps21 rfl ?_;refine W_seq (W_region (SG_box rfl rfl rfl ?_));intro w2 b2 e2 hb2 hz2 hB2
 have hle2 : w.heap.size ≤ b2 := by have := hb0.size; omega
 replace hb0 := btr hb0 hb2;refine SG_box rfl rfl rfl ?_;intro w3 b3 e3 hb3 hz3 hB3
 have hle3 : w.heap.size ≤ b3 := by have := hb0.size; omega
 have ne_b2_3 : ¬ b2 = b3 := by have := hB2.lt; omega
 replace hb0 := btr hb0 hb3;replace hB2 := hB2.below hb3;refine SG_alloc Tryz.zeroValue26 rfl rfl ?_;intro w4 b4 e4 hb4 hz4 hB4
 have hle4 : w.heap.size ≤ b4 := by have := hb0.size; omega
 have ne_b2_4 : ¬ b2 = b4 := by have := hB2.lt; omega
 have ne_b3_4 : ¬ b3 = b4 := by have := hB3.lt; omega
 replace hb0 := btr hb0 hb4;replace hB2 := hB2.below hb4;replace hB3 := hB3.below hb4;refine SG_q (Rq_assign rfl) rfl (SG_nil (D_then (W_seq (W_region ?_))))
 first | refine SG_q (Rq_loadBW (hB2) Tryz.isAgg26 Tryz.sizeOf26 rfl rfl) rfl ?_ | refine SG_q (Rq_loadBA (hB2) Tryz.isAgg26 Tryz.sizeOf26 rfl rfl rfl) rfl ?_
 first | refine SG_q (Rq_loadBW (hB3) Tryz.isAgg45 Tryz.sizeOf45 rfl rfl) rfl ?_ | refine SG_q (Rq_loadBA (hB3) Tryz.isAgg45 Tryz.sizeOf45 rfl rfl rfl) rfl ?_
 refine SG_bslice (enc := encR) (val := valR) (os := [.tmp 11]) rfl rfl (MV.cons (x := r) MV.nil) (fun _ => rfl) (fun _ => rfl) Tryz.runUnderlying30 Tryz.sizeOf45 Tryz.zeroValue45 rfl (by decide) (by decide) rfl ?_;intro w12 v12 b12 e12 hb12 hz12 hob12 hO12
 have hle12 : w.heap.size ≤ b12 := by have := hb0.size; omega
 have lt_b2_12 : b2 < b12 := by have := hB2.lt; omega
 have lt_b3_12 : b3 < b12 := by have := hB3.lt; omega
 have lt_b4_12 : b4 < b12 := by have := hB4.lt; omega
 replace hb0 := btr hb0 hb12;replace hB2 := hB2.below hb12;replace hB3 := hB3.below hb12;replace hB4 := hB4.below hb12;refine SG_call rfl Tryz.call19 rfl (f19_w ((hC).below hb0) ((hO).below hb0) ((hR).below hb0) h1 h2 h3 (l := [r]) (hO12.sl)) ?_;rintro v13 w13 hb13 ⟨u, rfl, hCV⟩;replace hb0 := btr hb0 hb13;replace hB2 := hB2.below hb13;replace hB3 := hB3.below hb13;replace hB4 := hB4.below hb13
 have hzz12 := hb12.size; have hb4l : b4 < w12.heap.size := by omega
 obtain ⟨qC, qO, qR, rfl, hq1, hq2, hq3⟩ := hCV
 obtain ⟨a_qC, n_qC, c_qC, h_qC⟩ : ∃ a n c, qC = Value.slice a n c := by obtain ⟨a, c, h⟩ := (hq1.sl).len; exact ⟨_, _, _, h⟩
 subst h_qC
 obtain ⟨a_qO, n_qO, c_qO, h_qO⟩ : ∃ a n c, qO = Value.slice a n c := by obtain ⟨a, c, h⟩ := (hq2.sl).len; exact ⟨_, _, _, h⟩
 subst h_qO
 obtain ⟨a_qR, n_qR, c_qR, h_qR⟩ : ∃ a n c, qR = Value.slice a n c := by obtain ⟨a, c, h⟩ := (hq3.sl).len; exact ⟨_, _, _, h⟩
 subst h_qR
 have ne_hq1_b4 : ∀ k, Value.ownBlock (.slice a_qC n_qC c_qC) = some k → ¬ k = b4 := fun k e => by have := (hq1.lt e).1; omega
 have ne_hq2_b4 : ∀ k, Value.ownBlock (.slice a_qO n_qO c_qO) = some k → ¬ k = b4 := fun k e => by have := (hq2.lt e).1; omega
 have ne_hq3_b4 : ∀ k, Value.ownBlock (.slice a_qR n_qR c_qR) = some k → ¬ k = b4 := fun k e => by have := (hq3.lt e).1; omega
 refine SG_q (Rq_move rfl) rfl (SG_q (Rq_extract rfl rfl) rfl (SG_q (Rq_extract rfl rfl) rfl (SG_q (Rq_extract rfl rfl) rfl (SG_alloc Tryz.zeroValue26 rfl rfl ?_))));intro w6 b6 e6 hb6 hz6 hB6
 have hle6 : w.heap.size ≤ b6 := by have := hb0.size; omega
 have ne_b2_6 : ¬ b2 = b6 := by have := hB2.lt; omega
 have ne_b3_6 : ¬ b3 = b6 := by have := hB3.lt; omega
 have ne_b4_6 : ¬ b4 = b6 := by have := hB4.lt; omega
 have ne_hq1_b6 : ∀ k, Value.ownBlock (.slice a_qC n_qC c_qC) = some k → ¬ k = b6 := fun k e => by have := hq1.lt e; omega
 have ne_hq2_b6 : ∀ k, Value.ownBlock (.slice a_qO n_qO c_qO) = some k → ¬ k = b6 := fun k e => by have := hq2.lt e; omega
 have ne_hq3_b6 : ∀ k, Value.ownBlock (.slice a_qR n_qR c_qR) = some k → ¬ k = b6 := fun k e => by have := hq3.lt e; omega
 replace hb0 := btr hb0 hb6;replace hB4 := hB4.below hb6;replace hq1 := hq1.below hb6;replace hq2 := hq2.below hb6;replace hq3 := hq3.below hb6;refine SG_storeW (hB6) rfl rfl rfl rfl Tryz.sizeOf26 rfl rfl ?_;intro ws1x9 hchs1x9 hBs1x9;replace hb0 := bchg hb0 hchs1x9 hle6;replace hB4 := hB4.chg hchs1x9 ne_b4_6;clear hO12;replace hq1 := hq1.chg hchs1x9 (fun k e e2 => by first | exact ne_hq1_b6 k e e2 | (have := hq1.lt e; have := ne_hq1_b6; omega));replace hq2 := hq2.chg hchs1x9 (fun k e e2 => by first | exact ne_hq2_b6 k e e2 | (have := hq2.lt e; have := ne_hq2_b6; omega));replace hq3 := hq3.chg hchs1x9 (fun k e e2 => by first | exact ne_hq3_b6 k e e2 | (have := hq3.lt e; have := ne_hq3_b6; omega));clear hB6;refine SG_q (Rq_assign rfl) rfl ?_;refine SG_q (Rq_assign rfl) rfl ?_;refine SG_nil ?_;refine D_then ?_;refine W_seq ?_;refine W_region ?_
 first | refine SG_q (Rq_loadBW (hBs1x9) Tryz.isAgg26 Tryz.sizeOf26 rfl rfl) rfl ?_ | refine SG_q (Rq_loadBA (hBs1x9) Tryz.isAgg26 Tryz.sizeOf26 rfl rfl rfl) rfl ?_
 refine SG_q (Rq_move rfl) rfl ?_;refine SG_storeW (hB4) rfl rfl rfl rfl Tryz.sizeOf26 rfl rfl ?_;intro ws2x2 hchs2x2 hBs2x2;replace hb0 := bchg hb0 hchs2x2 hle4;replace hq1 := hq1.chg hchs2x2 (fun k e e2 => by first | exact ne_hq1_b4 k e e2 | (have := hq1.lt e; have := ne_hq1_b4; omega));replace hq2 := hq2.chg hchs2x2 (fun k e e2 => by first | exact ne_hq2_b4 k e e2 | (have := hq2.lt e; have := ne_hq2_b4; omega));replace hq3 := hq3.chg hchs2x2 (fun k e e2 => by first | exact ne_hq3_b4 k e e2 | (have := hq3.lt e; have := ne_hq3_b4; omega));clear hB4;refine SG_q (Rq_assign rfl) rfl ?_;refine SG_nil ?_;refine D_then ?_;refine W_ret ?_;refine D_bodyR2 rfl rfl (.cellW rfl (hBs2x2) Tryz.isAgg26 Tryz.sizeOf26 rfl) (.tmp rfl) ?_;have q1 := hb6.size; have q2 := hchs1x9.size; have q3 := hchs2x2.size;exact ⟨_, rfl, hb0, _, rfl, _, _, _, rfl, hq1.le (by omega), hq2.le (by omega), hq3.le (by omega)⟩
theorem f21_c {vC vO vR : Value} {C : Co} {w : World} (hC : SL w vC 3 encC C.ch) (hO : SL w vO 5 encO C.ops) (hR : SL w vR 1 encI C.roots) (h1 : C.ch.length ≤ 100000) (h2 : C.ops.length ≤ 100000) (h3 : C.roots.length ≤ 100000) (r : Rw) : Mi.Fn Tryz.prog 21 #[.agg [vC, vO, vR].toArray, valR r] w fun v w' => ∃ u, v = .tuple #[u, .int .i64 (replayR C [r]).2.2] ∧ CoV w.heap.size w'.heap.size w' u (replayR C [r]).1 := Fn.mono (f21_w hC hO hR h1 h2 h3 r) fun _ _ _ ⟨u, e, h⟩ => ⟨u, e, h.cv⟩
end Go.Proofs.YtphmoebiobjfhaaGreat
