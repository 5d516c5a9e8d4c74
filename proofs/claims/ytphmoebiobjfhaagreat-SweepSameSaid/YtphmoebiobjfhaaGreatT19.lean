/- Walks of functions, printed by a program of the author. -/
import Derived.Test.YtphmoebiobjfhaaGreatKn
import Derived.Test.YtphmoebiobjfhaaGreatT18
set_option linter.all false
namespace Go.Proofs.YtphmoebiobjfhaaGreat
open Go Go.Mi Go.RowKit
theorem build76_0_2_3 (v u t : Value) (w : World) (hv : one1 v = true) (hu : one1 u = true) (ht : one1 t = true) : (Instr.build 76 #[(0, v), (2, u), (3, t)]).run Tryz.prog w = .ok (.agg [v, (.int .i64 0), u, t, (.int .i64 0)].toArray) w := by
 unfold Instr.build
 simp [Sem.run_bind, Tryz.zeroValue76, Tryz.runUnderlying76, Tryz.sizeOf3, Tryz.sizeOf5, Instr.fill, cells_one hv, cells_one hu, cells_one ht, Result.andThen, cells_agg]
theorem kAll {v : Value} {w : World} {xs : List Ot} (h : CoS w v (ofR xs)) (hl : xs.length ≤ 100000) (hc : checkR (ofR xs) = 0) {R : Co} (hr : tidyR (stepsR (ofR xs)).2 = R) : Mi.Fn Tryz.prog 13 #[v] w fun v w' => ∃ u, v = .tuple #[u, .int .i64 0] ∧ CoS w' u R := by
 obtain ⟨uC, uO, uR, rfl, h1, h2, h3⟩ := h.ex;refine Calls.mono (f13_c h1 h2 h3 (by simp [ofR]) hl (by simp [ofR])) ?_;rintro e w' ⟨v, rfl, hb, u, rfl, hC⟩;exact ⟨_, rfl, hb, u, by rw [hc], by rw [if_pos hc, hr] at hC; exact hC.s⟩
theorem kRules {v : Value} {w : World} {xs : List Ot} (h : CoS w v (ofR xs)) (hl : xs.length ≤ 100000) (hc : checkR (ofR xs) = 0) {op : Int} {R : List Int} (h0 : 0 ≤ op) (h1' : op < xs.length) (hr : rulesC (ofR xs) op = R) : Mi.Fn Tryz.prog 26 #[v, .int .i64 op] w fun v w' => ∃ u, v = .tuple #[u, .int .i64 0] ∧ SL w' u 1 encU R := by
 obtain ⟨uC, uO, uR, rfl, h1, h2, h3⟩ := h.ex;refine Calls.mono (f26_c h1 h2 h3 (by simp [ofR]) hl (by simp [ofR]) op) ?_
 have he : rulesE (ofR xs) op = 0 := by unfold rulesE; rw [if_neg (by simp [hc]), if_neg (by simp [ofR]; omega)]
 rintro e w' ⟨v, rfl, hb, u, rfl, hC⟩;exact ⟨_, rfl, hb, u, by rw [he], by rw [if_pos he, hr] at hC; exact hC.sl⟩
theorem kNext {v : Value} {w : World} {xs : List Ot} (h : CoS w v (ofR xs)) (hl : xs.length ≤ 100000) (hc : checkR (ofR xs) = 0) {r : Rw} {e0 : Int} (hr : (nextR (ofR xs)).getD rw0 = r) (he : (if (nextR (ofR xs)).isSome then (0 : Int) else 7) = e0) : Mi.Fn Tryz.prog 22 #[v] w fun v w' => v = .tuple #[valR r, .int .i64 e0] := by
 obtain ⟨uC, uO, uR, rfl, h1, h2, h3⟩ := h.ex;refine Calls.mono (f22_c h1 h2 h3 (by simp [ofR]) hl (by simp [ofR])) ?_;rintro e w' ⟨v, rfl, hb, rfl⟩;exact ⟨_, rfl, hb, by rw [if_pos hc, hr, if_neg (by simp [hc]), he]⟩
theorem kSteps {v : Value} {w : World} {xs : List Ot} (h : CoS w v (ofR xs)) (hl : xs.length ≤ 100000) (hc : checkR (ofR xs) = 0) {R : List Rw} (hr : (stepsR (ofR xs)).1 = R) : Mi.Fn Tryz.prog 12 #[v] w fun v w' => ∃ u, v = .tuple #[u, .int .i64 0] ∧ SL w' u 2 encR R := by
 obtain ⟨uC, uO, uR, rfl, h1, h2, h3⟩ := h.ex;refine Calls.mono (f12_c h1 h2 h3 (by simp [ofR]) hl (by simp [ofR])) ?_;rintro e w' ⟨v, rfl, hb, u, rfl, hC⟩;exact ⟨_, rfl, hb, u, by rw [hc], by rw [if_pos hc, hr] at hC; exact hC.sl⟩
theorem kCost {v : Value} {w : World} {xs : List Ot} (h : CoS w v (ofR xs)) (hl : xs.length ≤ 100000) (hc : checkR (ofR xs) = 0) {n : Nat} (hr : (foundR (ofR xs)).length = n) : Mi.Fn Tryz.prog 29 #[v] w fun v w' => v = .tuple #[.int .i64 n, .int .i64 0] := by
 obtain ⟨uC, uO, uR, rfl, h1, h2, h3⟩ := h.ex;refine Calls.mono (f29_c h1 h2 h3 (by simp [ofR]) hl (by simp [ofR])) ?_;rintro e w' ⟨v, rfl, hb, rfl⟩;exact ⟨_, rfl, hb, by rw [hc, if_pos rfl, hr]⟩
theorem kReplay {v vL : Value} {w : World} {xs : List Ot} {l : List Rw} (h : CoS w v (ofR xs)) (hl : xs.length ≤ 100000) (hL : SL w vL 2 encR l) {R : Co} {m e0 : Int} (hr : replayR (ofR xs) l = (R, m, e0)) : Mi.Fn Tryz.prog 19 #[v, vL] w fun v w' => ∃ u, v = .tuple #[u, .int .i64 m, .int .i64 e0] ∧ CoS w' u R := by
 obtain ⟨uC, uO, uR, rfl, h1, h2, h3⟩ := h.ex;refine Calls.mono (f19_c h1 h2 h3 (by simp [ofR]) hl (by simp [ofR]) hL) ?_;rintro e w' ⟨v, rfl, hb, u, rfl, hC⟩;exact ⟨_, rfl, hb, u, by rw [hr], by rw [hr] at hC; exact hC.s⟩
set_option maxHeartbeats 4000000 in
theorem f10_c (w : World) : Pure Tryz.prog 10 #[] w (.bool true) := by
 have hb0 := Below.refl w.heap.size w;refine calls_of_W Tryz.func10 rfl Tryz.ntmps10 rfl ?_;refine W_seq (W_region (SG_q (Rq_assign rfl) rfl (SG_nil (D_then (W_seq (W_region (SG_pure rfl Tryz.call37 rfl (f37_c _ _) ?_)))))));intro w24 hb24;replace hb0 := btr hb0 hb24;refine SG_pure rfl Tryz.call37 rfl (f37_c _ _) ?_;intro w25 hb25;replace hb0 := btr hb0 hb25;refine SG_pure rfl Tryz.call38 rfl (f38_c _ _ _ _) ?_;intro w26 hb26;replace hb0 := btr hb0 hb26;refine SG_bslice (enc := encO) (val := valO) (os := [.tmp 24, .tmp 25, .tmp 26]) rfl rfl (MV.cons (x := (⟨1, 0, 0, 0, 2⟩ : Ot)) (MV.cons (x := (⟨1, 0, 0, 0, 3⟩ : Ot)) (MV.cons (x := (⟨7, 0, 1, 0, 0⟩ : Ot)) MV.nil))) (fun _ => rfl) (fun _ => rfl) Tryz.runUnderlying23 Tryz.sizeOf76 Tryz.zeroValue76 rfl (by decide) (by decide) rfl ?_;intro w27 v27 b27 e27 hb27 hz27 hob27 hO27
 have hle27 : w.heap.size ≤ b27 := by have := hb0.size; omega
 replace hb0 := btr hb0 hb27;refine SG_call rfl Tryz.call36 rfl (f36_c (hO27.sl) (by decide)) ?_;rintro v28 w28 hb28 hCS28;replace hb0 := btr hb0 hb28;replace hCS28 : CoS w28 v28 (ofR ko1) := hCS28;refine SG_call rfl Tryz.call13 rfl (kAll hCS28 (by decide) kc1 ka1) ?_;rintro v29 w29 hb29 ⟨u29, rfl, hU29⟩;replace hb0 := btr hb0 hb29;obtain ⟨qCa, qOa, qRa, rfl, hsCa, hsOa, hsRa⟩ := hU29.ex
 obtain ⟨a_qCa, n_qCa, c_qCa, h_qCa⟩ : ∃ a n c, qCa = Value.slice a n c := by obtain ⟨a, c, h⟩ := (hsCa).len; exact ⟨_, _, _, h⟩
 subst h_qCa
 obtain ⟨a_qOa, n_qOa, c_qOa, h_qOa⟩ : ∃ a n c, qOa = Value.slice a n c := by obtain ⟨a, c, h⟩ := (hsOa).len; exact ⟨_, _, _, h⟩
 subst h_qOa
 obtain ⟨a_qRa, n_qRa, c_qRa, h_qRa⟩ : ∃ a n c, qRa = Value.slice a n c := by obtain ⟨a, c, h⟩ := (hsRa).len; exact ⟨_, _, _, h⟩
 subst h_qRa;refine SG_q (Rq_move rfl) rfl (SG_q (Rq_extract rfl rfl) rfl (SG_q (Rq_extract rfl rfl) rfl (SG_alloc Tryz.zeroValue26 rfl rfl ?_)));intro w1 b1 e1 hb1 hz1 hB1
 have hle1 : w.heap.size ≤ b1 := by have := hb0.size; omega
 have ne_hsCa_b1 := hsCa.fresh (b := b1) (by omega);have ne_hsOa_b1 := hsOa.fresh (b := b1) (by omega);have ne_hsRa_b1 := hsRa.fresh (b := b1) (by omega);replace hb0 := btr hb0 hb1;replace hsCa := hsCa.below hb1;replace hsOa := hsOa.below hb1;replace hsRa := hsRa.below hb1;refine SG_storeW (hB1) rfl rfl rfl rfl Tryz.sizeOf26 rfl rfl ?_;intro ws1x10 hchs1x10 hBs1x10;replace hb0 := bchg hb0 hchs1x10 hle1;clear hO27;replace hsCa := hsCa.chg hchs1x10 ne_hsCa_b1;replace hsOa := hsOa.chg hchs1x10 ne_hsOa_b1;replace hsRa := hsRa.chg hchs1x10 ne_hsRa_b1;clear hB1;refine SG_q (Rq_assign rfl) rfl (SG_nil (D_then (W_seq (W_region (SG_pure rfl Tryz.call39 rfl (f39_c _ _) ?_)))));intro w33 hb33;replace hb0 := btr hb0 hb33;replace hsCa := hsCa.below hb33;replace hsOa := hsOa.below hb33;replace hsRa := hsRa.below hb33;replace hBs1x10 := hBs1x10.below hb33;refine SG_pure rfl Tryz.call37 rfl (f37_c _ _) ?_;intro w34 hb34;replace hb0 := btr hb0 hb34;replace hsCa := hsCa.below hb34;replace hsOa := hsOa.below hb34;replace hsRa := hsRa.below hb34;replace hBs1x10 := hBs1x10.below hb34;refine SG_pure rfl Tryz.call38 rfl (f38_c _ _ _ _) ?_;intro w35 hb35;replace hb0 := btr hb0 hb35;replace hsCa := hsCa.below hb35;replace hsOa := hsOa.below hb35;replace hsRa := hsRa.below hb35;replace hBs1x10 := hBs1x10.below hb35;refine SG_pure rfl Tryz.call38 rfl (f38_c _ _ _ _) ?_;intro w36 hb36;replace hb0 := btr hb0 hb36;replace hsCa := hsCa.below hb36;replace hsOa := hsOa.below hb36;replace hsRa := hsRa.below hb36;replace hBs1x10 := hBs1x10.below hb36;refine SG_bslice (enc := encO) (val := valO) (os := [.tmp 33, .tmp 34, .tmp 35, .tmp 36]) rfl rfl (MV.cons (x := (⟨3, 0, 0, 0, 0⟩ : Ot)) (MV.cons (x := (⟨1, 0, 0, 0, 0⟩ : Ot)) (MV.cons (x := (⟨7, 0, 1, 0, 0⟩ : Ot)) (MV.cons (x := (⟨9, 2, 2, 0, 0⟩ : Ot)) MV.nil)))) (fun _ => rfl) (fun _ => rfl) Tryz.runUnderlying23 Tryz.sizeOf76 Tryz.zeroValue76 rfl (by decide) (by decide) rfl ?_;intro w37 v37 b37 e37 hb37 hz37 hob37 hO37
 have hle37 : w.heap.size ≤ b37 := by have := hb0.size; omega
 have lt_b1_37 : b1 < b37 := by have := hBs1x10.lt; omega
 replace hb0 := btr hb0 hb37;replace hsCa := hsCa.below hb37;replace hsOa := hsOa.below hb37;replace hsRa := hsRa.below hb37;replace hBs1x10 := hBs1x10.below hb37;refine SG_call rfl Tryz.call36 rfl (f36_c (hO37.sl) (by decide)) ?_;rintro v38 w38 hb38 hCS38;replace hb0 := btr hb0 hb38;replace hsCa := hsCa.below hb38;replace hsOa := hsOa.below hb38;replace hsRa := hsRa.below hb38;replace hBs1x10 := hBs1x10.below hb38;replace hCS38 : CoS w38 v38 (ofR ko2) := hCS38;refine SG_call rfl Tryz.call13 rfl (kAll hCS38 (by decide) kc2 ka2) ?_;rintro v39 w39 hb39 ⟨u39, rfl, hU39⟩;replace hb0 := btr hb0 hb39;replace hsCa := hsCa.below hb39;replace hsOa := hsOa.below hb39;replace hsRa := hsRa.below hb39;replace hBs1x10 := hBs1x10.below hb39;obtain ⟨qCb, qOb, qRb, rfl, hsCb, hsOb, hsRb⟩ := hU39.ex
 obtain ⟨a_qCb, n_qCb, c_qCb, h_qCb⟩ : ∃ a n c, qCb = Value.slice a n c := by obtain ⟨a, c, h⟩ := (hsCb).len; exact ⟨_, _, _, h⟩
 subst h_qCb
 obtain ⟨a_qOb, n_qOb, c_qOb, h_qOb⟩ : ∃ a n c, qOb = Value.slice a n c := by obtain ⟨a, c, h⟩ := (hsOb).len; exact ⟨_, _, _, h⟩
 subst h_qOb
 obtain ⟨a_qRb, n_qRb, c_qRb, h_qRb⟩ : ∃ a n c, qRb = Value.slice a n c := by obtain ⟨a, c, h⟩ := (hsRb).len; exact ⟨_, _, _, h⟩
 subst h_qRb;refine SG_q (Rq_move rfl) rfl (SG_q (Rq_extract rfl rfl) rfl (SG_q (Rq_extract rfl rfl) rfl (SG_alloc Tryz.zeroValue26 rfl rfl ?_)));intro w3 b3 e3 hb3 hz3 hB3
 have hle3 : w.heap.size ≤ b3 := by have := hb0.size; omega
 have ne_hsCa_b3 := hsCa.fresh (b := b3) (by omega);have ne_hsOa_b3 := hsOa.fresh (b := b3) (by omega);have ne_hsRa_b3 := hsRa.fresh (b := b3) (by omega)
 have ne_b1_3 : ¬ b1 = b3 := by have := hBs1x10.lt; omega
 have ne_hsCb_b3 := hsCb.fresh (b := b3) (by omega);have ne_hsOb_b3 := hsOb.fresh (b := b3) (by omega);have ne_hsRb_b3 := hsRb.fresh (b := b3) (by omega);replace hb0 := btr hb0 hb3;replace hsCa := hsCa.below hb3;replace hsOa := hsOa.below hb3;replace hsRa := hsRa.below hb3;replace hBs1x10 := hBs1x10.below hb3;replace hsCb := hsCb.below hb3;replace hsOb := hsOb.below hb3;replace hsRb := hsRb.below hb3;refine SG_storeW (hB3) rfl rfl rfl rfl Tryz.sizeOf26 rfl rfl ?_;intro ws2x11 hchs2x11 hBs2x11;replace hb0 := bchg hb0 hchs2x11 hle3;replace hsCa := hsCa.chg hchs2x11 ne_hsCa_b3;replace hsOa := hsOa.chg hchs2x11 ne_hsOa_b3;replace hsRa := hsRa.chg hchs2x11 ne_hsRa_b3;replace hBs1x10 := hBs1x10.chg hchs2x11 ne_b1_3;clear hO37;replace hsCb := hsCb.chg hchs2x11 ne_hsCb_b3;replace hsOb := hsOb.chg hchs2x11 ne_hsOb_b3;replace hsRb := hsRb.chg hchs2x11 ne_hsRb_b3;clear hB3;refine SG_q (Rq_assign rfl) rfl (SG_nil (D_then (W_seq (W_region (SG_pure rfl Tryz.call39 rfl (f39_c _ _) ?_)))));intro w42 hb42;replace hb0 := btr hb0 hb42;replace hsCa := hsCa.below hb42;replace hsOa := hsOa.below hb42;replace hsRa := hsRa.below hb42;replace hBs1x10 := hBs1x10.below hb42;replace hsCb := hsCb.below hb42;replace hsOb := hsOb.below hb42;replace hsRb := hsRb.below hb42;replace hBs2x11 := hBs2x11.below hb42;refine SG_pure rfl Tryz.call37 rfl (f37_c _ _) ?_;intro w43 hb43;replace hb0 := btr hb0 hb43;replace hsCa := hsCa.below hb43;replace hsOa := hsOa.below hb43;replace hsRa := hsRa.below hb43;replace hBs1x10 := hBs1x10.below hb43;replace hsCb := hsCb.below hb43;replace hsOb := hsOb.below hb43;replace hsRb := hsRb.below hb43;replace hBs2x11 := hBs2x11.below hb43;refine SG_pure rfl Tryz.call38 rfl (f38_c _ _ _ _) ?_;intro w44 hb44;replace hb0 := btr hb0 hb44;replace hsCa := hsCa.below hb44;replace hsOa := hsOa.below hb44;replace hsRa := hsRa.below hb44;replace hBs1x10 := hBs1x10.below hb44;replace hsCb := hsCb.below hb44;replace hsOb := hsOb.below hb44;replace hsRb := hsRb.below hb44;replace hBs2x11 := hBs2x11.below hb44;refine SG_pure rfl Tryz.call38 rfl (f38_c _ _ _ _) ?_;intro w45 hb45;replace hb0 := btr hb0 hb45;replace hsCa := hsCa.below hb45;replace hsOa := hsOa.below hb45;replace hsRa := hsRa.below hb45;replace hBs1x10 := hBs1x10.below hb45;replace hsCb := hsCb.below hb45;replace hsOb := hsOb.below hb45;replace hsRb := hsRb.below hb45;replace hBs2x11 := hBs2x11.below hb45;refine SG_pure rfl Tryz.call38 rfl (f38_c _ _ _ _) ?_;intro w46 hb46;replace hb0 := btr hb0 hb46;replace hsCa := hsCa.below hb46;replace hsOa := hsOa.below hb46;replace hsRa := hsRa.below hb46;replace hBs1x10 := hBs1x10.below hb46;replace hsCb := hsCb.below hb46;replace hsOb := hsOb.below hb46;replace hsRb := hsRb.below hb46;replace hBs2x11 := hBs2x11.below hb46;refine SG_bslice (enc := encO) (val := valO) (os := [.tmp 42, .tmp 43, .tmp 44, .tmp 45, .tmp 46]) rfl rfl (MV.cons (x := (⟨3, 0, 0, 0, 0⟩ : Ot)) (MV.cons (x := (⟨1, 0, 0, 0, 3⟩ : Ot)) (MV.cons (x := (⟨13, 0, 1, 0, 0⟩ : Ot)) (MV.cons (x := (⟨6, 2, 0, 0, 0⟩ : Ot)) (MV.cons (x := (⟨6, 3, 0, 0, 0⟩ : Ot)) MV.nil))))) (fun _ => rfl) (fun _ => rfl) Tryz.runUnderlying23 Tryz.sizeOf76 Tryz.zeroValue76 rfl (by decide) (by decide) rfl ?_;intro w47 v47 b47 e47 hb47 hz47 hob47 hO47
 have hle47 : w.heap.size ≤ b47 := by have := hb0.size; omega
 have lt_b1_47 : b1 < b47 := by have := hBs1x10.lt; omega
 have lt_b3_47 : b3 < b47 := by have := hBs2x11.lt; omega
 replace hb0 := btr hb0 hb47;replace hsCa := hsCa.below hb47;replace hsOa := hsOa.below hb47;replace hsRa := hsRa.below hb47;replace hBs1x10 := hBs1x10.below hb47;replace hsCb := hsCb.below hb47;replace hsOb := hsOb.below hb47;replace hsRb := hsRb.below hb47;replace hBs2x11 := hBs2x11.below hb47;refine SG_call rfl Tryz.call36 rfl (f36_c (hO47.sl) (by decide)) ?_;rintro v48 w48 hb48 hCS48;replace hb0 := btr hb0 hb48;replace hsCa := hsCa.below hb48;replace hsOa := hsOa.below hb48;replace hsRa := hsRa.below hb48;replace hBs1x10 := hBs1x10.below hb48;replace hsCb := hsCb.below hb48;replace hsOb := hsOb.below hb48;replace hsRb := hsRb.below hb48;replace hBs2x11 := hBs2x11.below hb48;replace hCS48 : CoS w48 v48 (ofR ko3) := hCS48;obtain ⟨qCc, qOc, qRc, rfl, hsCc, hsOc, hsRc⟩ := hCS48.ex
 obtain ⟨a_qCc, n_qCc, c_qCc, h_qCc⟩ : ∃ a n c, qCc = Value.slice a n c := by obtain ⟨a, c, h⟩ := (hsCc).len; exact ⟨_, _, _, h⟩
 subst h_qCc
 obtain ⟨a_qOc, n_qOc, c_qOc, h_qOc⟩ : ∃ a n c, qOc = Value.slice a n c := by obtain ⟨a, c, h⟩ := (hsOc).len; exact ⟨_, _, _, h⟩
 subst h_qOc
 obtain ⟨a_qRc, n_qRc, c_qRc, h_qRc⟩ : ∃ a n c, qRc = Value.slice a n c := by obtain ⟨a, c, h⟩ := (hsRc).len; exact ⟨_, _, _, h⟩
 subst h_qRc;refine SG_alloc Tryz.zeroValue26 rfl rfl ?_;intro w5 b5 e5 hb5 hz5 hB5
 have hle5 : w.heap.size ≤ b5 := by have := hb0.size; omega
 have ne_hsCa_b5 := hsCa.fresh (b := b5) (by omega);have ne_hsOa_b5 := hsOa.fresh (b := b5) (by omega);have ne_hsRa_b5 := hsRa.fresh (b := b5) (by omega)
 have ne_b1_5 : ¬ b1 = b5 := by have := hBs1x10.lt; omega
 have ne_hsCb_b5 := hsCb.fresh (b := b5) (by omega);have ne_hsOb_b5 := hsOb.fresh (b := b5) (by omega);have ne_hsRb_b5 := hsRb.fresh (b := b5) (by omega)
 have ne_b3_5 : ¬ b3 = b5 := by have := hBs2x11.lt; omega
 have ne_hsCc_b5 := hsCc.fresh (b := b5) (by omega);have ne_hsOc_b5 := hsOc.fresh (b := b5) (by omega);have ne_hsRc_b5 := hsRc.fresh (b := b5) (by omega);replace hb0 := btr hb0 hb5;replace hsCa := hsCa.below hb5;replace hsOa := hsOa.below hb5;replace hsRa := hsRa.below hb5;replace hBs1x10 := hBs1x10.below hb5;replace hsCb := hsCb.below hb5;replace hsOb := hsOb.below hb5;replace hsRb := hsRb.below hb5;replace hBs2x11 := hBs2x11.below hb5;replace hsCc := hsCc.below hb5;replace hsOc := hsOc.below hb5;replace hsRc := hsRc.below hb5;refine SG_storeW (hB5) rfl rfl rfl rfl Tryz.sizeOf26 rfl rfl ?_;intro ws3x8 hchs3x8 hBs3x8;replace hb0 := bchg hb0 hchs3x8 hle5;replace hsCa := hsCa.chg hchs3x8 ne_hsCa_b5;replace hsOa := hsOa.chg hchs3x8 ne_hsOa_b5;replace hsRa := hsRa.chg hchs3x8 ne_hsRa_b5;replace hBs1x10 := hBs1x10.chg hchs3x8 ne_b1_5;replace hsCb := hsCb.chg hchs3x8 ne_hsCb_b5;replace hsOb := hsOb.chg hchs3x8 ne_hsOb_b5;replace hsRb := hsRb.chg hchs3x8 ne_hsRb_b5;replace hBs2x11 := hBs2x11.chg hchs3x8 ne_b3_5;clear hO47;replace hsCc := hsCc.chg hchs3x8 ne_hsCc_b5;replace hsOc := hsOc.chg hchs3x8 ne_hsOc_b5;replace hsRc := hsRc.chg hchs3x8 ne_hsRc_b5;clear hB5;refine SG_nil (D_then (W_seq (W_region ?_)))
 first | refine SG_q (Rq_loadBW (hBs3x8) Tryz.isAgg26 Tryz.sizeOf26 rfl rfl) rfl ?_ | refine SG_q (Rq_loadBA (hBs3x8) Tryz.isAgg26 Tryz.sizeOf26 rfl rfl rfl) rfl ?_
 refine SG_call rfl Tryz.call26 rfl (kRules (⟨⟨_, _, _, rfl, hsCc, hsOc, hsRc⟩⟩ : CoS _ _ (ofR ko3)) (by decide) kc3 (by decide) (by decide) ka3) ?_;rintro v51 w51 hb51 ⟨u51, rfl, hsRu⟩;replace hb0 := btr hb0 hb51;replace hsCa := hsCa.below hb51;replace hsOa := hsOa.below hb51;replace hsRa := hsRa.below hb51;replace hBs1x10 := hBs1x10.below hb51;replace hsCb := hsCb.below hb51;replace hsOb := hsOb.below hb51;replace hsRb := hsRb.below hb51;replace hBs2x11 := hBs2x11.below hb51;replace hsCc := hsCc.below hb51;replace hsOc := hsOc.below hb51;replace hsRc := hsRc.below hb51;replace hBs3x8 := hBs3x8.below hb51
 obtain ⟨a_u51, n_u51, c_u51, h_u51⟩ : ∃ a n c, u51 = Value.slice a n c := by obtain ⟨a, c, h⟩ := (hsRu).len; exact ⟨_, _, _, h⟩
 subst h_u51;refine SG_q (Rq_move rfl) rfl (SG_q (Rq_extract rfl rfl) rfl (SG_q (Rq_extract rfl rfl) rfl (SG_q (Rq_assign rfl) rfl (SG_q (Rq_assign rfl) rfl (SG_nil (D_then (W_seq (W_region (SG_pure rfl Tryz.call39 rfl (f39_c _ _) ?_)))))))));intro w55 hb55;replace hb0 := btr hb0 hb55;replace hsCa := hsCa.below hb55;replace hsOa := hsOa.below hb55;replace hsRa := hsRa.below hb55;replace hBs1x10 := hBs1x10.below hb55;replace hsCb := hsCb.below hb55;replace hsOb := hsOb.below hb55;replace hsRb := hsRb.below hb55;replace hBs2x11 := hBs2x11.below hb55;replace hsCc := hsCc.below hb55;replace hsOc := hsOc.below hb55;replace hsRc := hsRc.below hb55;replace hBs3x8 := hBs3x8.below hb55;replace hsRu := hsRu.below hb55;refine SG_pure rfl Tryz.call37 rfl (f37_c _ _) ?_;intro w56 hb56;replace hb0 := btr hb0 hb56;replace hsCa := hsCa.below hb56;replace hsOa := hsOa.below hb56;replace hsRa := hsRa.below hb56;replace hBs1x10 := hBs1x10.below hb56;replace hsCb := hsCb.below hb56;replace hsOb := hsOb.below hb56;replace hsRb := hsRb.below hb56;replace hBs2x11 := hBs2x11.below hb56;replace hsCc := hsCc.below hb56;replace hsOc := hsOc.below hb56;replace hsRc := hsRc.below hb56;replace hBs3x8 := hBs3x8.below hb56;replace hsRu := hsRu.below hb56;refine SG_pure rfl Tryz.call37 rfl (f37_c _ _) ?_;intro w57 hb57;replace hb0 := btr hb0 hb57;replace hsCa := hsCa.below hb57;replace hsOa := hsOa.below hb57;replace hsRa := hsRa.below hb57;replace hBs1x10 := hBs1x10.below hb57;replace hsCb := hsCb.below hb57;replace hsOb := hsOb.below hb57;replace hsRb := hsRb.below hb57;replace hBs2x11 := hBs2x11.below hb57;replace hsCc := hsCc.below hb57;replace hsOc := hsOc.below hb57;replace hsRc := hsRc.below hb57;replace hBs3x8 := hBs3x8.below hb57;replace hsRu := hsRu.below hb57;refine SG_q (Rq_build3 build76_0_2_3 rfl rfl rfl rfl rfl rfl ) rfl (SG_bslice (enc := encO) (val := valO) (os := [.tmp 55, .tmp 56, .tmp 57, .tmp 58]) rfl rfl (MV.cons (x := (⟨3, 0, 0, 0, 0⟩ : Ot)) (MV.cons (x := (⟨1, 0, 0, 0, 1⟩ : Ot)) (MV.cons (x := (⟨1, 0, 0, 0, 0⟩ : Ot)) (MV.cons (x := (⟨17, 0, 2, 1, 0⟩ : Ot)) MV.nil)))) (fun _ => rfl) (fun _ => rfl) Tryz.runUnderlying23 Tryz.sizeOf76 Tryz.zeroValue76 rfl (by decide) (by decide) rfl ?_);intro w59 v59 b59 e59 hb59 hz59 hob59 hO59
 have hle59 : w.heap.size ≤ b59 := by have := hb0.size; omega
 have lt_b1_59 : b1 < b59 := by have := hBs1x10.lt; omega
 have lt_b3_59 : b3 < b59 := by have := hBs2x11.lt; omega
 have lt_b5_59 : b5 < b59 := by have := hBs3x8.lt; omega
 replace hb0 := btr hb0 hb59;replace hsCa := hsCa.below hb59;replace hsOa := hsOa.below hb59;replace hsRa := hsRa.below hb59;replace hBs1x10 := hBs1x10.below hb59;replace hsCb := hsCb.below hb59;replace hsOb := hsOb.below hb59;replace hsRb := hsRb.below hb59;replace hBs2x11 := hBs2x11.below hb59;replace hsCc := hsCc.below hb59;replace hsOc := hsOc.below hb59;replace hsRc := hsRc.below hb59;replace hBs3x8 := hBs3x8.below hb59;replace hsRu := hsRu.below hb59;refine SG_call rfl Tryz.call36 rfl (f36_c (hO59.sl) (by decide)) ?_;rintro v60 w60 hb60 hCS60;replace hb0 := btr hb0 hb60;replace hsCa := hsCa.below hb60;replace hsOa := hsOa.below hb60;replace hsRa := hsRa.below hb60;replace hBs1x10 := hBs1x10.below hb60;replace hsCb := hsCb.below hb60;replace hsOb := hsOb.below hb60;replace hsRb := hsRb.below hb60;replace hBs2x11 := hBs2x11.below hb60;replace hsCc := hsCc.below hb60;replace hsOc := hsOc.below hb60;replace hsRc := hsRc.below hb60;replace hBs3x8 := hBs3x8.below hb60;replace hsRu := hsRu.below hb60;replace hCS60 : CoS w60 v60 (ofR ko4) := hCS60;refine SG_call rfl Tryz.call22 rfl (kNext hCS60 (by decide) kc4 (r := ⟨9, 3⟩) (e0 := 0) (by rw [ka4]; rfl) (by rw [ka4]; rfl)) ?_;rintro v61 w61 hb61 rfl;replace hb0 := btr hb0 hb61;replace hsCa := hsCa.below hb61;replace hsOa := hsOa.below hb61;replace hsRa := hsRa.below hb61;replace hBs1x10 := hBs1x10.below hb61;replace hsCb := hsCb.below hb61;replace hsOb := hsOb.below hb61;replace hsRb := hsRb.below hb61;replace hBs2x11 := hBs2x11.below hb61;replace hsCc := hsCc.below hb61;replace hsOc := hsOc.below hb61;replace hsRc := hsRc.below hb61;replace hBs3x8 := hBs3x8.below hb61;replace hsRu := hsRu.below hb61;refine SG_q (Rq_move rfl) rfl ?_;refine SG_q (Rq_extract rfl rfl) rfl ?_;refine SG_q (Rq_extract rfl rfl) rfl ?_;refine SG_alloc Tryz.zeroValue45 rfl rfl ?_;intro w8 b8 e8 hb8 hz8 hB8
 have hle8 : w.heap.size ≤ b8 := by have := hb0.size; omega
 have ne_hsCa_b8 := hsCa.fresh (b := b8) (by omega);have ne_hsOa_b8 := hsOa.fresh (b := b8) (by omega);have ne_hsRa_b8 := hsRa.fresh (b := b8) (by omega)
 have ne_b1_8 : ¬ b1 = b8 := by have := hBs1x10.lt; omega
 have ne_hsCb_b8 := hsCb.fresh (b := b8) (by omega);have ne_hsOb_b8 := hsOb.fresh (b := b8) (by omega);have ne_hsRb_b8 := hsRb.fresh (b := b8) (by omega)
 have ne_b3_8 : ¬ b3 = b8 := by have := hBs2x11.lt; omega
 have ne_hsCc_b8 := hsCc.fresh (b := b8) (by omega);have ne_hsOc_b8 := hsOc.fresh (b := b8) (by omega);have ne_hsRc_b8 := hsRc.fresh (b := b8) (by omega)
 have ne_b5_8 : ¬ b5 = b8 := by have := hBs3x8.lt; omega
 have ne_hsRu_b8 := hsRu.fresh (b := b8) (by omega);replace hb0 := btr hb0 hb8;replace hsCa := hsCa.below hb8;replace hsOa := hsOa.below hb8;replace hsRa := hsRa.below hb8;replace hBs1x10 := hBs1x10.below hb8;replace hsCb := hsCb.below hb8;replace hsOb := hsOb.below hb8;replace hsRb := hsRb.below hb8;replace hBs2x11 := hBs2x11.below hb8;replace hsCc := hsCc.below hb8;replace hsOc := hsOc.below hb8;replace hsRc := hsRc.below hb8;replace hBs3x8 := hBs3x8.below hb8;replace hsRu := hsRu.below hb8;refine SG_storeW (hB8) rfl rfl rfl rfl Tryz.sizeOf45 rfl rfl ?_;intro ws5x11 hchs5x11 hBs5x11;replace hb0 := bchg hb0 hchs5x11 hle8;replace hsCa := hsCa.chg hchs5x11 ne_hsCa_b8;replace hsOa := hsOa.chg hchs5x11 ne_hsOa_b8;replace hsRa := hsRa.chg hchs5x11 ne_hsRa_b8;replace hBs1x10 := hBs1x10.chg hchs5x11 ne_b1_8;replace hsCb := hsCb.chg hchs5x11 ne_hsCb_b8;replace hsOb := hsOb.chg hchs5x11 ne_hsOb_b8;replace hsRb := hsRb.chg hchs5x11 ne_hsRb_b8;replace hBs2x11 := hBs2x11.chg hchs5x11 ne_b3_8;replace hsCc := hsCc.chg hchs5x11 ne_hsCc_b8;replace hsOc := hsOc.chg hchs5x11 ne_hsOc_b8;replace hsRc := hsRc.chg hchs5x11 ne_hsRc_b8;replace hBs3x8 := hBs3x8.chg hchs5x11 ne_b5_8;replace hsRu := hsRu.chg hchs5x11 ne_hsRu_b8;clear hO59;clear hB8;refine SG_q (Rq_assign rfl) rfl (SG_nil (D_then (W_seq (W_region (SG_pure rfl Tryz.call39 rfl (f39_c _ _) ?_)))));intro w65 hb65;replace hb0 := btr hb0 hb65;replace hsCa := hsCa.below hb65;replace hsOa := hsOa.below hb65;replace hsRa := hsRa.below hb65;replace hBs1x10 := hBs1x10.below hb65;replace hsCb := hsCb.below hb65;replace hsOb := hsOb.below hb65;replace hsRb := hsRb.below hb65;replace hBs2x11 := hBs2x11.below hb65;replace hsCc := hsCc.below hb65;replace hsOc := hsOc.below hb65;replace hsRc := hsRc.below hb65;replace hBs3x8 := hBs3x8.below hb65;replace hsRu := hsRu.below hb65;replace hBs5x11 := hBs5x11.below hb65;refine SG_pure rfl Tryz.call37 rfl (f37_c _ _) ?_;intro w66 hb66;replace hb0 := btr hb0 hb66;replace hsCa := hsCa.below hb66;replace hsOa := hsOa.below hb66;replace hsRa := hsRa.below hb66;replace hBs1x10 := hBs1x10.below hb66;replace hsCb := hsCb.below hb66;replace hsOb := hsOb.below hb66;replace hsRb := hsRb.below hb66;replace hBs2x11 := hBs2x11.below hb66;replace hsCc := hsCc.below hb66;replace hsOc := hsOc.below hb66;replace hsRc := hsRc.below hb66;replace hBs3x8 := hBs3x8.below hb66;replace hsRu := hsRu.below hb66;replace hBs5x11 := hBs5x11.below hb66;refine SG_pure rfl Tryz.call37 rfl (f37_c _ _) ?_;intro w67 hb67;replace hb0 := btr hb0 hb67;replace hsCa := hsCa.below hb67;replace hsOa := hsOa.below hb67;replace hsRa := hsRa.below hb67;replace hBs1x10 := hBs1x10.below hb67;replace hsCb := hsCb.below hb67;replace hsOb := hsOb.below hb67;replace hsRb := hsRb.below hb67;replace hBs2x11 := hBs2x11.below hb67;replace hsCc := hsCc.below hb67;replace hsOc := hsOc.below hb67;replace hsRc := hsRc.below hb67;replace hBs3x8 := hBs3x8.below hb67;replace hsRu := hsRu.below hb67;replace hBs5x11 := hBs5x11.below hb67;refine SG_q (Rq_build3 build76_0_2_3 rfl rfl rfl rfl rfl rfl ) rfl (SG_bslice (enc := encO) (val := valO) (os := [.tmp 65, .tmp 66, .tmp 67, .tmp 68]) rfl rfl (MV.cons (x := (⟨3, 0, 0, 0, 0⟩ : Ot)) (MV.cons (x := (⟨1, 0, 0, 0, 1⟩ : Ot)) (MV.cons (x := (⟨1, 0, 0, 0, 0⟩ : Ot)) (MV.cons (x := (⟨17, 0, 1, 2, 0⟩ : Ot)) MV.nil)))) (fun _ => rfl) (fun _ => rfl) Tryz.runUnderlying23 Tryz.sizeOf76 Tryz.zeroValue76 rfl (by decide) (by decide) rfl ?_);intro w69 v69 b69 e69 hb69 hz69 hob69 hO69
 have hle69 : w.heap.size ≤ b69 := by have := hb0.size; omega
 have lt_b1_69 : b1 < b69 := by have := hBs1x10.lt; omega
 have lt_b3_69 : b3 < b69 := by have := hBs2x11.lt; omega
 have lt_b5_69 : b5 < b69 := by have := hBs3x8.lt; omega
 have lt_b8_69 : b8 < b69 := by have := hBs5x11.lt; omega
 replace hb0 := btr hb0 hb69;replace hsCa := hsCa.below hb69;replace hsOa := hsOa.below hb69;replace hsRa := hsRa.below hb69;replace hBs1x10 := hBs1x10.below hb69;replace hsCb := hsCb.below hb69;replace hsOb := hsOb.below hb69;replace hsRb := hsRb.below hb69;replace hBs2x11 := hBs2x11.below hb69;replace hsCc := hsCc.below hb69;replace hsOc := hsOc.below hb69;replace hsRc := hsRc.below hb69;replace hBs3x8 := hBs3x8.below hb69;replace hsRu := hsRu.below hb69;replace hBs5x11 := hBs5x11.below hb69;refine SG_call rfl Tryz.call36 rfl (f36_c (hO69.sl) (by decide)) ?_;rintro v70 w70 hb70 hCS70;replace hb0 := btr hb0 hb70;replace hsCa := hsCa.below hb70;replace hsOa := hsOa.below hb70;replace hsRa := hsRa.below hb70;replace hBs1x10 := hBs1x10.below hb70;replace hsCb := hsCb.below hb70;replace hsOb := hsOb.below hb70;replace hsRb := hsRb.below hb70;replace hBs2x11 := hBs2x11.below hb70;replace hsCc := hsCc.below hb70;replace hsOc := hsOc.below hb70;replace hsRc := hsRc.below hb70;replace hBs3x8 := hBs3x8.below hb70;replace hsRu := hsRu.below hb70;replace hBs5x11 := hBs5x11.below hb70;replace hCS70 : CoS w70 v70 (ofR ko5) := hCS70;refine SG_call rfl Tryz.call22 rfl (kNext hCS70 (by decide) kc5 (r := rw0) (e0 := 7) (by rw [ka5]; rfl) (by rw [ka5]; rfl)) ?_;rintro v71 w71 hb71 rfl;replace hb0 := btr hb0 hb71;replace hsCa := hsCa.below hb71;replace hsOa := hsOa.below hb71;replace hsRa := hsRa.below hb71;replace hBs1x10 := hBs1x10.below hb71;replace hsCb := hsCb.below hb71;replace hsOb := hsOb.below hb71;replace hsRb := hsRb.below hb71;replace hBs2x11 := hBs2x11.below hb71;replace hsCc := hsCc.below hb71;replace hsOc := hsOc.below hb71;replace hsRc := hsRc.below hb71;replace hBs3x8 := hBs3x8.below hb71;replace hsRu := hsRu.below hb71;replace hBs5x11 := hBs5x11.below hb71;refine SG_q (Rq_move rfl) rfl ?_;refine SG_q (Rq_extract rfl rfl) rfl ?_;refine SG_q (Rq_extract rfl rfl) rfl ?_;refine SG_alloc Tryz.zeroValue45 rfl rfl ?_;intro w10 b10 e10 hb10 hz10 hB10
 have hle10 : w.heap.size ≤ b10 := by have := hb0.size; omega
 have ne_hsCa_b10 := hsCa.fresh (b := b10) (by omega);have ne_hsOa_b10 := hsOa.fresh (b := b10) (by omega);have ne_hsRa_b10 := hsRa.fresh (b := b10) (by omega)
 have ne_b1_10 : ¬ b1 = b10 := by have := hBs1x10.lt; omega
 have ne_hsCb_b10 := hsCb.fresh (b := b10) (by omega);have ne_hsOb_b10 := hsOb.fresh (b := b10) (by omega);have ne_hsRb_b10 := hsRb.fresh (b := b10) (by omega)
 have ne_b3_10 : ¬ b3 = b10 := by have := hBs2x11.lt; omega
 have ne_hsCc_b10 := hsCc.fresh (b := b10) (by omega);have ne_hsOc_b10 := hsOc.fresh (b := b10) (by omega);have ne_hsRc_b10 := hsRc.fresh (b := b10) (by omega)
 have ne_b5_10 : ¬ b5 = b10 := by have := hBs3x8.lt; omega
 have ne_hsRu_b10 := hsRu.fresh (b := b10) (by omega)
 have ne_b8_10 : ¬ b8 = b10 := by have := hBs5x11.lt; omega
 replace hb0 := btr hb0 hb10;replace hsCa := hsCa.below hb10;replace hsOa := hsOa.below hb10;replace hsRa := hsRa.below hb10;replace hBs1x10 := hBs1x10.below hb10;replace hsCb := hsCb.below hb10;replace hsOb := hsOb.below hb10;replace hsRb := hsRb.below hb10;replace hBs2x11 := hBs2x11.below hb10;replace hsCc := hsCc.below hb10;replace hsOc := hsOc.below hb10;replace hsRc := hsRc.below hb10;replace hBs3x8 := hBs3x8.below hb10;replace hsRu := hsRu.below hb10;replace hBs5x11 := hBs5x11.below hb10;refine SG_storeW (hB10) rfl rfl rfl rfl Tryz.sizeOf45 rfl rfl ?_;intro ws6x11 hchs6x11 hBs6x11;replace hb0 := bchg hb0 hchs6x11 hle10;replace hsCa := hsCa.chg hchs6x11 ne_hsCa_b10;replace hsOa := hsOa.chg hchs6x11 ne_hsOa_b10;replace hsRa := hsRa.chg hchs6x11 ne_hsRa_b10;replace hBs1x10 := hBs1x10.chg hchs6x11 ne_b1_10;replace hsCb := hsCb.chg hchs6x11 ne_hsCb_b10;replace hsOb := hsOb.chg hchs6x11 ne_hsOb_b10;replace hsRb := hsRb.chg hchs6x11 ne_hsRb_b10;replace hBs2x11 := hBs2x11.chg hchs6x11 ne_b3_10;replace hsCc := hsCc.chg hchs6x11 ne_hsCc_b10;replace hsOc := hsOc.chg hchs6x11 ne_hsOc_b10;replace hsRc := hsRc.chg hchs6x11 ne_hsRc_b10;replace hBs3x8 := hBs3x8.chg hchs6x11 ne_b5_10;replace hsRu := hsRu.chg hchs6x11 ne_hsRu_b10;replace hBs5x11 := hBs5x11.chg hchs6x11 ne_b8_10;clear hO69;clear hB10;refine SG_q (Rq_assign rfl) rfl (SG_nil (D_then (W_seq (W_region (SG_pure rfl Tryz.call39 rfl (f39_c _ _) ?_)))));intro w74 hb74;replace hb0 := btr hb0 hb74;replace hsCa := hsCa.below hb74;replace hsOa := hsOa.below hb74;replace hsRa := hsRa.below hb74;replace hBs1x10 := hBs1x10.below hb74;replace hsCb := hsCb.below hb74;replace hsOb := hsOb.below hb74;replace hsRb := hsRb.below hb74;replace hBs2x11 := hBs2x11.below hb74;replace hsCc := hsCc.below hb74;replace hsOc := hsOc.below hb74;replace hsRc := hsRc.below hb74;replace hBs3x8 := hBs3x8.below hb74;replace hsRu := hsRu.below hb74;replace hBs5x11 := hBs5x11.below hb74;replace hBs6x11 := hBs6x11.below hb74;refine SG_pure rfl Tryz.call38 rfl (f38_c _ _ _ _) ?_;intro w75 hb75;replace hb0 := btr hb0 hb75;replace hsCa := hsCa.below hb75;replace hsOa := hsOa.below hb75;replace hsRa := hsRa.below hb75;replace hBs1x10 := hBs1x10.below hb75;replace hsCb := hsCb.below hb75;replace hsOb := hsOb.below hb75;replace hsRb := hsRb.below hb75;replace hBs2x11 := hBs2x11.below hb75;replace hsCc := hsCc.below hb75;replace hsOc := hsOc.below hb75;replace hsRc := hsRc.below hb75;replace hBs3x8 := hBs3x8.below hb75;replace hsRu := hsRu.below hb75;replace hBs5x11 := hBs5x11.below hb75;replace hBs6x11 := hBs6x11.below hb75;refine SG_pure rfl Tryz.call38 rfl (f38_c _ _ _ _) ?_;intro w76 hb76;replace hb0 := btr hb0 hb76;replace hsCa := hsCa.below hb76;replace hsOa := hsOa.below hb76;replace hsRa := hsRa.below hb76;replace hBs1x10 := hBs1x10.below hb76;replace hsCb := hsCb.below hb76;replace hsOb := hsOb.below hb76;replace hsRb := hsRb.below hb76;replace hBs2x11 := hBs2x11.below hb76;replace hsCc := hsCc.below hb76;replace hsOc := hsOc.below hb76;replace hsRc := hsRc.below hb76;replace hBs3x8 := hBs3x8.below hb76;replace hsRu := hsRu.below hb76;replace hBs5x11 := hBs5x11.below hb76;replace hBs6x11 := hBs6x11.below hb76;refine SG_pure rfl Tryz.call38 rfl (f38_c _ _ _ _) ?_;intro w77 hb77;replace hb0 := btr hb0 hb77;replace hsCa := hsCa.below hb77;replace hsOa := hsOa.below hb77;replace hsRa := hsRa.below hb77;replace hBs1x10 := hBs1x10.below hb77;replace hsCb := hsCb.below hb77;replace hsOb := hsOb.below hb77;replace hsRb := hsRb.below hb77;replace hBs2x11 := hBs2x11.below hb77;replace hsCc := hsCc.below hb77;replace hsOc := hsOc.below hb77;replace hsRc := hsRc.below hb77;replace hBs3x8 := hBs3x8.below hb77;replace hsRu := hsRu.below hb77;replace hBs5x11 := hBs5x11.below hb77;replace hBs6x11 := hBs6x11.below hb77;refine SG_bslice (enc := encO) (val := valO) (os := [.tmp 74, .tmp 75, .tmp 76, .tmp 77]) rfl rfl (MV.cons (x := (⟨3, 0, 0, 0, 0⟩ : Ot)) (MV.cons (x := (⟨5, 0, 0, 0, 0⟩ : Ot)) (MV.cons (x := (⟨5, 0, 0, 0, 0⟩ : Ot)) (MV.cons (x := (⟨7, 1, 2, 0, 0⟩ : Ot)) MV.nil)))) (fun _ => rfl) (fun _ => rfl) Tryz.runUnderlying23 Tryz.sizeOf76 Tryz.zeroValue76 rfl (by decide) (by decide) rfl ?_;intro w78 v78 b78 e78 hb78 hz78 hob78 hO78
 have hle78 : w.heap.size ≤ b78 := by have := hb0.size; omega
 have lt_b1_78 : b1 < b78 := by have := hBs1x10.lt; omega
 have lt_b3_78 : b3 < b78 := by have := hBs2x11.lt; omega
 have lt_b5_78 : b5 < b78 := by have := hBs3x8.lt; omega
 have lt_b8_78 : b8 < b78 := by have := hBs5x11.lt; omega
 have lt_b10_78 : b10 < b78 := by have := hBs6x11.lt; omega
 replace hb0 := btr hb0 hb78;replace hsCa := hsCa.below hb78;replace hsOa := hsOa.below hb78;replace hsRa := hsRa.below hb78;replace hBs1x10 := hBs1x10.below hb78;replace hsCb := hsCb.below hb78;replace hsOb := hsOb.below hb78;replace hsRb := hsRb.below hb78;replace hBs2x11 := hBs2x11.below hb78;replace hsCc := hsCc.below hb78;replace hsOc := hsOc.below hb78;replace hsRc := hsRc.below hb78;replace hBs3x8 := hBs3x8.below hb78;replace hsRu := hsRu.below hb78;replace hBs5x11 := hBs5x11.below hb78;replace hBs6x11 := hBs6x11.below hb78;refine SG_call rfl Tryz.call36 rfl (f36_c (hO78.sl) (by decide)) ?_;rintro v79 w79 hb79 hCS79;replace hb0 := btr hb0 hb79;replace hsCa := hsCa.below hb79;replace hsOa := hsOa.below hb79;replace hsRa := hsRa.below hb79;replace hBs1x10 := hBs1x10.below hb79;replace hsCb := hsCb.below hb79;replace hsOb := hsOb.below hb79;replace hsRb := hsRb.below hb79;replace hBs2x11 := hBs2x11.below hb79;replace hsCc := hsCc.below hb79;replace hsOc := hsOc.below hb79;replace hsRc := hsRc.below hb79;replace hBs3x8 := hBs3x8.below hb79;replace hsRu := hsRu.below hb79;replace hBs5x11 := hBs5x11.below hb79;replace hBs6x11 := hBs6x11.below hb79;replace hCS79 : CoS w79 v79 (ofR ko6) := hCS79;obtain ⟨qCd, qOd, qRd, rfl, hsCd, hsOd, hsRd⟩ := hCS79.ex
 obtain ⟨a_qCd, n_qCd, c_qCd, h_qCd⟩ : ∃ a n c, qCd = Value.slice a n c := by obtain ⟨a, c, h⟩ := (hsCd).len; exact ⟨_, _, _, h⟩
 subst h_qCd
 obtain ⟨a_qOd, n_qOd, c_qOd, h_qOd⟩ : ∃ a n c, qOd = Value.slice a n c := by obtain ⟨a, c, h⟩ := (hsOd).len; exact ⟨_, _, _, h⟩
 subst h_qOd
 obtain ⟨a_qRd, n_qRd, c_qRd, h_qRd⟩ : ∃ a n c, qRd = Value.slice a n c := by obtain ⟨a, c, h⟩ := (hsRd).len; exact ⟨_, _, _, h⟩
 subst h_qRd;refine SG_alloc Tryz.zeroValue26 rfl rfl ?_;intro w12 b12 e12 hb12 hz12 hB12
 have hle12 : w.heap.size ≤ b12 := by have := hb0.size; omega
 have ne_hsCa_b12 := hsCa.fresh (b := b12) (by omega);have ne_hsOa_b12 := hsOa.fresh (b := b12) (by omega);have ne_hsRa_b12 := hsRa.fresh (b := b12) (by omega)
 have ne_b1_12 : ¬ b1 = b12 := by have := hBs1x10.lt; omega
 have ne_hsCb_b12 := hsCb.fresh (b := b12) (by omega);have ne_hsOb_b12 := hsOb.fresh (b := b12) (by omega);have ne_hsRb_b12 := hsRb.fresh (b := b12) (by omega)
 have ne_b3_12 : ¬ b3 = b12 := by have := hBs2x11.lt; omega
 have ne_hsCc_b12 := hsCc.fresh (b := b12) (by omega);have ne_hsOc_b12 := hsOc.fresh (b := b12) (by omega);have ne_hsRc_b12 := hsRc.fresh (b := b12) (by omega)
 have ne_b5_12 : ¬ b5 = b12 := by have := hBs3x8.lt; omega
 have ne_hsRu_b12 := hsRu.fresh (b := b12) (by omega)
 have ne_b8_12 : ¬ b8 = b12 := by have := hBs5x11.lt; omega
 have ne_b10_12 : ¬ b10 = b12 := by have := hBs6x11.lt; omega
 have ne_hsCd_b12 := hsCd.fresh (b := b12) (by omega);have ne_hsOd_b12 := hsOd.fresh (b := b12) (by omega);have ne_hsRd_b12 := hsRd.fresh (b := b12) (by omega);replace hb0 := btr hb0 hb12;replace hsCa := hsCa.below hb12;replace hsOa := hsOa.below hb12;replace hsRa := hsRa.below hb12;replace hBs1x10 := hBs1x10.below hb12;replace hsCb := hsCb.below hb12;replace hsOb := hsOb.below hb12;replace hsRb := hsRb.below hb12;replace hBs2x11 := hBs2x11.below hb12;replace hsCc := hsCc.below hb12;replace hsOc := hsOc.below hb12;replace hsRc := hsRc.below hb12;replace hBs3x8 := hBs3x8.below hb12;replace hsRu := hsRu.below hb12;replace hBs5x11 := hBs5x11.below hb12;replace hBs6x11 := hBs6x11.below hb12;replace hsCd := hsCd.below hb12;replace hsOd := hsOd.below hb12;replace hsRd := hsRd.below hb12;refine SG_storeW (hB12) rfl rfl rfl rfl Tryz.sizeOf26 rfl rfl ?_;intro ws7x7 hchs7x7 hBs7x7;replace hb0 := bchg hb0 hchs7x7 hle12;replace hsCa := hsCa.chg hchs7x7 ne_hsCa_b12;replace hsOa := hsOa.chg hchs7x7 ne_hsOa_b12;replace hsRa := hsRa.chg hchs7x7 ne_hsRa_b12;replace hBs1x10 := hBs1x10.chg hchs7x7 ne_b1_12;replace hsCb := hsCb.chg hchs7x7 ne_hsCb_b12;replace hsOb := hsOb.chg hchs7x7 ne_hsOb_b12;replace hsRb := hsRb.chg hchs7x7 ne_hsRb_b12;replace hBs2x11 := hBs2x11.chg hchs7x7 ne_b3_12;replace hsCc := hsCc.chg hchs7x7 ne_hsCc_b12;replace hsOc := hsOc.chg hchs7x7 ne_hsOc_b12;replace hsRc := hsRc.chg hchs7x7 ne_hsRc_b12;replace hBs3x8 := hBs3x8.chg hchs7x7 ne_b5_12;replace hsRu := hsRu.chg hchs7x7 ne_hsRu_b12;replace hBs5x11 := hBs5x11.chg hchs7x7 ne_b8_12;replace hBs6x11 := hBs6x11.chg hchs7x7 ne_b10_12;clear hO78;replace hsCd := hsCd.chg hchs7x7 ne_hsCd_b12;replace hsOd := hsOd.chg hchs7x7 ne_hsOd_b12;replace hsRd := hsRd.chg hchs7x7 ne_hsRd_b12;clear hB12;refine SG_nil (D_then (W_seq (W_region ?_)))
 first | refine SG_q (Rq_loadBW (hBs7x7) Tryz.isAgg26 Tryz.sizeOf26 rfl rfl) rfl ?_ | refine SG_q (Rq_loadBA (hBs7x7) Tryz.isAgg26 Tryz.sizeOf26 rfl rfl rfl) rfl ?_
 refine SG_call rfl Tryz.call12 rfl (kSteps (⟨⟨_, _, _, rfl, hsCd, hsOd, hsRd⟩⟩ : CoS _ _ (ofR ko6)) (by decide) kc6 ka6) ?_;rintro v82 w82 hb82 ⟨u82, rfl, hsSt⟩;replace hb0 := btr hb0 hb82;replace hsCa := hsCa.below hb82;replace hsOa := hsOa.below hb82;replace hsRa := hsRa.below hb82;replace hBs1x10 := hBs1x10.below hb82;replace hsCb := hsCb.below hb82;replace hsOb := hsOb.below hb82;replace hsRb := hsRb.below hb82;replace hBs2x11 := hBs2x11.below hb82;replace hsCc := hsCc.below hb82;replace hsOc := hsOc.below hb82;replace hsRc := hsRc.below hb82;replace hBs3x8 := hBs3x8.below hb82;replace hsRu := hsRu.below hb82;replace hBs5x11 := hBs5x11.below hb82;replace hBs6x11 := hBs6x11.below hb82;replace hsCd := hsCd.below hb82;replace hsOd := hsOd.below hb82;replace hsRd := hsRd.below hb82;replace hBs7x7 := hBs7x7.below hb82
 obtain ⟨a_u82, n_u82, c_u82, h_u82⟩ : ∃ a n c, u82 = Value.slice a n c := by obtain ⟨a, c, h⟩ := (hsSt).len; exact ⟨_, _, _, h⟩
 subst h_u82;refine SG_q (Rq_move rfl) rfl (SG_q (Rq_extract rfl rfl) rfl (SG_q (Rq_extract rfl rfl) rfl (SG_q (Rq_assign rfl) rfl (SG_q (Rq_assign rfl) rfl (SG_nil (D_then (W_seq (W_region ?_))))))))
 first | refine SG_q (Rq_loadBW (hBs7x7) Tryz.isAgg26 Tryz.sizeOf26 rfl rfl) rfl ?_ | refine SG_q (Rq_loadBA (hBs7x7) Tryz.isAgg26 Tryz.sizeOf26 rfl rfl rfl) rfl ?_
 refine SG_call rfl Tryz.call29 rfl (kCost (⟨⟨_, _, _, rfl, hsCd, hsOd, hsRd⟩⟩ : CoS _ _ (ofR ko6)) (by decide) kc6 ka7) ?_;rintro v87 w87 hb87 rfl;replace hb0 := btr hb0 hb87;replace hsCa := hsCa.below hb87;replace hsOa := hsOa.below hb87;replace hsRa := hsRa.below hb87;replace hBs1x10 := hBs1x10.below hb87;replace hsCb := hsCb.below hb87;replace hsOb := hsOb.below hb87;replace hsRb := hsRb.below hb87;replace hBs2x11 := hBs2x11.below hb87;replace hsCc := hsCc.below hb87;replace hsOc := hsOc.below hb87;replace hsRc := hsRc.below hb87;replace hBs3x8 := hBs3x8.below hb87;replace hsRu := hsRu.below hb87;replace hBs5x11 := hBs5x11.below hb87;replace hBs6x11 := hBs6x11.below hb87;replace hsCd := hsCd.below hb87;replace hsOd := hsOd.below hb87;replace hsRd := hsRd.below hb87;replace hBs7x7 := hBs7x7.below hb87;replace hsSt := hsSt.below hb87;refine SG_q (Rq_move rfl) rfl (SG_q (Rq_extract rfl rfl) rfl (SG_q (Rq_extract rfl rfl) rfl (SG_q (Rq_assign rfl) rfl (SG_q (Rq_assign rfl) rfl (SG_nil (D_then (W_seq (W_region ?_))))))))
 first | refine SG_q (Rq_loadBW (hBs7x7) Tryz.isAgg26 Tryz.sizeOf26 rfl rfl) rfl ?_ | refine SG_q (Rq_loadBA (hBs7x7) Tryz.isAgg26 Tryz.sizeOf26 rfl rfl rfl) rfl ?_
 refine SG_q (Rq_build2 build45_0_1 rfl rfl rfl rfl ) rfl (SG_bslice (enc := encR) (val := valR) (os := [.tmp 92]) rfl rfl (MV.cons (x := (⟨11, 2⟩ : Rw)) MV.nil) (fun _ => rfl) (fun _ => rfl) Tryz.runUnderlying30 Tryz.sizeOf45 Tryz.zeroValue45 rfl (by decide) (by decide) rfl ?_);intro w93 v93 b93 e93 hb93 hz93 hob93 hO93
 have hle93 : w.heap.size ≤ b93 := by have := hb0.size; omega
 have lt_b1_93 : b1 < b93 := by have := hBs1x10.lt; omega
 have lt_b3_93 : b3 < b93 := by have := hBs2x11.lt; omega
 have lt_b5_93 : b5 < b93 := by have := hBs3x8.lt; omega
 have lt_b8_93 : b8 < b93 := by have := hBs5x11.lt; omega
 have lt_b10_93 : b10 < b93 := by have := hBs6x11.lt; omega
 have lt_b12_93 : b12 < b93 := by have := hBs7x7.lt; omega
 replace hb0 := btr hb0 hb93;replace hsCa := hsCa.below hb93;replace hsOa := hsOa.below hb93;replace hsRa := hsRa.below hb93;replace hBs1x10 := hBs1x10.below hb93;replace hsCb := hsCb.below hb93;replace hsOb := hsOb.below hb93;replace hsRb := hsRb.below hb93;replace hBs2x11 := hBs2x11.below hb93;replace hsCc := hsCc.below hb93;replace hsOc := hsOc.below hb93;replace hsRc := hsRc.below hb93;replace hBs3x8 := hBs3x8.below hb93;replace hsRu := hsRu.below hb93;replace hBs5x11 := hBs5x11.below hb93;replace hBs6x11 := hBs6x11.below hb93;replace hsCd := hsCd.below hb93;replace hsOd := hsOd.below hb93;replace hsRd := hsRd.below hb93;replace hBs7x7 := hBs7x7.below hb93;replace hsSt := hsSt.below hb93;refine SG_call rfl Tryz.call19 rfl (kReplay (⟨⟨_, _, _, rfl, hsCd, hsOd, hsRd⟩⟩ : CoS _ _ (ofR ko6)) (by decide) (hO93.sl) ka8) ?_;rintro v94 w94 hb94 ⟨u94, rfl, hU94⟩;replace hb0 := btr hb0 hb94;replace hsCa := hsCa.below hb94;replace hsOa := hsOa.below hb94;replace hsRa := hsRa.below hb94;replace hBs1x10 := hBs1x10.below hb94;replace hsCb := hsCb.below hb94;replace hsOb := hsOb.below hb94;replace hsRb := hsRb.below hb94;replace hBs2x11 := hBs2x11.below hb94;replace hsCc := hsCc.below hb94;replace hsOc := hsOc.below hb94;replace hsRc := hsRc.below hb94;replace hBs3x8 := hBs3x8.below hb94;replace hsRu := hsRu.below hb94;replace hBs5x11 := hBs5x11.below hb94;replace hBs6x11 := hBs6x11.below hb94;replace hsCd := hsCd.below hb94;replace hsOd := hsOd.below hb94;replace hsRd := hsRd.below hb94;replace hBs7x7 := hBs7x7.below hb94;replace hsSt := hsSt.below hb94;obtain ⟨qCe, qOe, qRe, rfl, hsCe, hsOe, hsRe⟩ := hU94.ex
 obtain ⟨a_qCe, n_qCe, c_qCe, h_qCe⟩ : ∃ a n c, qCe = Value.slice a n c := by obtain ⟨a, c, h⟩ := (hsCe).len; exact ⟨_, _, _, h⟩
 subst h_qCe
 obtain ⟨a_qOe, n_qOe, c_qOe, h_qOe⟩ : ∃ a n c, qOe = Value.slice a n c := by obtain ⟨a, c, h⟩ := (hsOe).len; exact ⟨_, _, _, h⟩
 subst h_qOe
 obtain ⟨a_qRe, n_qRe, c_qRe, h_qRe⟩ : ∃ a n c, qRe = Value.slice a n c := by obtain ⟨a, c, h⟩ := (hsRe).len; exact ⟨_, _, _, h⟩
 subst h_qRe;refine SG_q (Rq_move rfl) rfl (SG_q (Rq_extract rfl rfl) rfl (SG_q (Rq_extract rfl rfl) rfl (SG_q (Rq_extract rfl rfl) rfl (SG_alloc Tryz.zeroValue26 rfl rfl ?_))));intro w17 b17 e17 hb17 hz17 hB17
 have hle17 : w.heap.size ≤ b17 := by have := hb0.size; omega
 have ne_hsCa_b17 := hsCa.fresh (b := b17) (by omega);have ne_hsOa_b17 := hsOa.fresh (b := b17) (by omega);have ne_hsRa_b17 := hsRa.fresh (b := b17) (by omega)
 have ne_b1_17 : ¬ b1 = b17 := by have := hBs1x10.lt; omega
 have ne_hsCb_b17 := hsCb.fresh (b := b17) (by omega);have ne_hsOb_b17 := hsOb.fresh (b := b17) (by omega);have ne_hsRb_b17 := hsRb.fresh (b := b17) (by omega)
 have ne_b3_17 : ¬ b3 = b17 := by have := hBs2x11.lt; omega
 have ne_hsCc_b17 := hsCc.fresh (b := b17) (by omega);have ne_hsOc_b17 := hsOc.fresh (b := b17) (by omega);have ne_hsRc_b17 := hsRc.fresh (b := b17) (by omega)
 have ne_b5_17 : ¬ b5 = b17 := by have := hBs3x8.lt; omega
 have ne_hsRu_b17 := hsRu.fresh (b := b17) (by omega)
 have ne_b8_17 : ¬ b8 = b17 := by have := hBs5x11.lt; omega
 have ne_b10_17 : ¬ b10 = b17 := by have := hBs6x11.lt; omega
 have ne_hsCd_b17 := hsCd.fresh (b := b17) (by omega);have ne_hsOd_b17 := hsOd.fresh (b := b17) (by omega);have ne_hsRd_b17 := hsRd.fresh (b := b17) (by omega)
 have ne_b12_17 : ¬ b12 = b17 := by have := hBs7x7.lt; omega
 have ne_hsSt_b17 := hsSt.fresh (b := b17) (by omega);have ne_hsCe_b17 := hsCe.fresh (b := b17) (by omega);have ne_hsOe_b17 := hsOe.fresh (b := b17) (by omega);have ne_hsRe_b17 := hsRe.fresh (b := b17) (by omega);replace hb0 := btr hb0 hb17;replace hsCa := hsCa.below hb17;replace hsOa := hsOa.below hb17;replace hsRa := hsRa.below hb17;replace hBs1x10 := hBs1x10.below hb17;replace hsCb := hsCb.below hb17;replace hsOb := hsOb.below hb17;replace hsRb := hsRb.below hb17;replace hBs2x11 := hBs2x11.below hb17;replace hsCc := hsCc.below hb17;replace hsOc := hsOc.below hb17;replace hsRc := hsRc.below hb17;replace hBs3x8 := hBs3x8.below hb17;replace hsRu := hsRu.below hb17;replace hBs5x11 := hBs5x11.below hb17;replace hBs6x11 := hBs6x11.below hb17;replace hsCd := hsCd.below hb17;replace hsOd := hsOd.below hb17;replace hsRd := hsRd.below hb17;replace hBs7x7 := hBs7x7.below hb17;replace hsSt := hsSt.below hb17;replace hsCe := hsCe.below hb17;replace hsOe := hsOe.below hb17;replace hsRe := hsRe.below hb17;refine SG_storeW (hB17) rfl rfl rfl rfl Tryz.sizeOf26 rfl rfl ?_;intro ws10x9 hchs10x9 hBs10x9;replace hb0 := bchg hb0 hchs10x9 hle17;replace hsCa := hsCa.chg hchs10x9 ne_hsCa_b17;replace hsOa := hsOa.chg hchs10x9 ne_hsOa_b17;replace hsRa := hsRa.chg hchs10x9 ne_hsRa_b17;replace hBs1x10 := hBs1x10.chg hchs10x9 ne_b1_17;replace hsCb := hsCb.chg hchs10x9 ne_hsCb_b17;replace hsOb := hsOb.chg hchs10x9 ne_hsOb_b17;replace hsRb := hsRb.chg hchs10x9 ne_hsRb_b17;replace hBs2x11 := hBs2x11.chg hchs10x9 ne_b3_17;replace hsCc := hsCc.chg hchs10x9 ne_hsCc_b17;replace hsOc := hsOc.chg hchs10x9 ne_hsOc_b17;replace hsRc := hsRc.chg hchs10x9 ne_hsRc_b17;replace hBs3x8 := hBs3x8.chg hchs10x9 ne_b5_17;replace hsRu := hsRu.chg hchs10x9 ne_hsRu_b17;replace hBs5x11 := hBs5x11.chg hchs10x9 ne_b8_17;replace hBs6x11 := hBs6x11.chg hchs10x9 ne_b10_17;replace hsCd := hsCd.chg hchs10x9 ne_hsCd_b17;replace hsOd := hsOd.chg hchs10x9 ne_hsOd_b17;replace hsRd := hsRd.chg hchs10x9 ne_hsRd_b17;replace hBs7x7 := hBs7x7.chg hchs10x9 ne_b12_17;replace hsSt := hsSt.chg hchs10x9 ne_hsSt_b17;clear hO93;replace hsCe := hsCe.chg hchs10x9 ne_hsCe_b17;replace hsOe := hsOe.chg hchs10x9 ne_hsOe_b17;replace hsRe := hsRe.chg hchs10x9 ne_hsRe_b17;clear hB17;refine SG_q (Rq_assign rfl) rfl (SG_q (Rq_assign rfl) rfl (SG_nil (D_then (W_seq (W_region ?_)))))
 first | refine SG_q (Rq_loadBW (hBs7x7) Tryz.isAgg26 Tryz.sizeOf26 rfl rfl) rfl ?_ | refine SG_q (Rq_loadBA (hBs7x7) Tryz.isAgg26 Tryz.sizeOf26 rfl rfl rfl) rfl ?_
 refine SG_q (Rq_build2 build45_0_1 rfl rfl rfl rfl ) rfl (SG_bslice (enc := encR) (val := valR) (os := [.tmp 100]) rfl rfl (MV.cons (x := (⟨11, 1⟩ : Rw)) MV.nil) (fun _ => rfl) (fun _ => rfl) Tryz.runUnderlying30 Tryz.sizeOf45 Tryz.zeroValue45 rfl (by decide) (by decide) rfl ?_);intro w101 v101 b101 e101 hb101 hz101 hob101 hO101
 have hle101 : w.heap.size ≤ b101 := by have := hb0.size; omega
 have lt_b1_101 : b1 < b101 := by have := hBs1x10.lt; omega
 have lt_b3_101 : b3 < b101 := by have := hBs2x11.lt; omega
 have lt_b5_101 : b5 < b101 := by have := hBs3x8.lt; omega
 have lt_b8_101 : b8 < b101 := by have := hBs5x11.lt; omega
 have lt_b10_101 : b10 < b101 := by have := hBs6x11.lt; omega
 have lt_b12_101 : b12 < b101 := by have := hBs7x7.lt; omega
 have lt_b17_101 : b17 < b101 := by have := hBs10x9.lt; omega
 replace hb0 := btr hb0 hb101;replace hsCa := hsCa.below hb101;replace hsOa := hsOa.below hb101;replace hsRa := hsRa.below hb101;replace hBs1x10 := hBs1x10.below hb101;replace hsCb := hsCb.below hb101;replace hsOb := hsOb.below hb101;replace hsRb := hsRb.below hb101;replace hBs2x11 := hBs2x11.below hb101;replace hsCc := hsCc.below hb101;replace hsOc := hsOc.below hb101;replace hsRc := hsRc.below hb101;replace hBs3x8 := hBs3x8.below hb101;replace hsRu := hsRu.below hb101;replace hBs5x11 := hBs5x11.below hb101;replace hBs6x11 := hBs6x11.below hb101;replace hsCd := hsCd.below hb101;replace hsOd := hsOd.below hb101;replace hsRd := hsRd.below hb101;replace hBs7x7 := hBs7x7.below hb101;replace hsSt := hsSt.below hb101;replace hsCe := hsCe.below hb101;replace hsOe := hsOe.below hb101;replace hsRe := hsRe.below hb101;replace hBs10x9 := hBs10x9.below hb101;refine SG_call rfl Tryz.call19 rfl (kReplay (⟨⟨_, _, _, rfl, hsCd, hsOd, hsRd⟩⟩ : CoS _ _ (ofR ko6)) (by decide) (hO101.sl) ka9) ?_;rintro v102 w102 hb102 ⟨u102, rfl, hU102⟩;replace hb0 := btr hb0 hb102;replace hsCa := hsCa.below hb102;replace hsOa := hsOa.below hb102;replace hsRa := hsRa.below hb102;replace hBs1x10 := hBs1x10.below hb102;replace hsCb := hsCb.below hb102;replace hsOb := hsOb.below hb102;replace hsRb := hsRb.below hb102;replace hBs2x11 := hBs2x11.below hb102;replace hsCc := hsCc.below hb102;replace hsOc := hsOc.below hb102;replace hsRc := hsRc.below hb102;replace hBs3x8 := hBs3x8.below hb102;replace hsRu := hsRu.below hb102;replace hBs5x11 := hBs5x11.below hb102;replace hBs6x11 := hBs6x11.below hb102;replace hsCd := hsCd.below hb102;replace hsOd := hsOd.below hb102;replace hsRd := hsRd.below hb102;replace hBs7x7 := hBs7x7.below hb102;replace hsSt := hsSt.below hb102;replace hsCe := hsCe.below hb102;replace hsOe := hsOe.below hb102;replace hsRe := hsRe.below hb102;replace hBs10x9 := hBs10x9.below hb102;obtain ⟨qCf, qOf, qRf, rfl, hsCf, hsOf, hsRf⟩ := hU102.ex
 obtain ⟨a_qCf, n_qCf, c_qCf, h_qCf⟩ : ∃ a n c, qCf = Value.slice a n c := by obtain ⟨a, c, h⟩ := (hsCf).len; exact ⟨_, _, _, h⟩
 subst h_qCf
 obtain ⟨a_qOf, n_qOf, c_qOf, h_qOf⟩ : ∃ a n c, qOf = Value.slice a n c := by obtain ⟨a, c, h⟩ := (hsOf).len; exact ⟨_, _, _, h⟩
 subst h_qOf
 obtain ⟨a_qRf, n_qRf, c_qRf, h_qRf⟩ : ∃ a n c, qRf = Value.slice a n c := by obtain ⟨a, c, h⟩ := (hsRf).len; exact ⟨_, _, _, h⟩
 subst h_qRf;refine SG_q (Rq_move rfl) rfl (SG_q (Rq_extract rfl rfl) rfl (SG_q (Rq_extract rfl rfl) rfl (SG_q (Rq_extract rfl rfl) rfl (SG_alloc Tryz.zeroValue26 rfl rfl ?_))));intro w20 b20 e20 hb20 hz20 hB20
 have hle20 : w.heap.size ≤ b20 := by have := hb0.size; omega
 have ne_hsCa_b20 := hsCa.fresh (b := b20) (by omega);have ne_hsOa_b20 := hsOa.fresh (b := b20) (by omega);have ne_hsRa_b20 := hsRa.fresh (b := b20) (by omega)
 have ne_b1_20 : ¬ b1 = b20 := by have := hBs1x10.lt; omega
 have ne_hsCb_b20 := hsCb.fresh (b := b20) (by omega);have ne_hsOb_b20 := hsOb.fresh (b := b20) (by omega);have ne_hsRb_b20 := hsRb.fresh (b := b20) (by omega)
 have ne_b3_20 : ¬ b3 = b20 := by have := hBs2x11.lt; omega
 have ne_hsCc_b20 := hsCc.fresh (b := b20) (by omega);have ne_hsOc_b20 := hsOc.fresh (b := b20) (by omega);have ne_hsRc_b20 := hsRc.fresh (b := b20) (by omega)
 have ne_b5_20 : ¬ b5 = b20 := by have := hBs3x8.lt; omega
 have ne_hsRu_b20 := hsRu.fresh (b := b20) (by omega)
 have ne_b8_20 : ¬ b8 = b20 := by have := hBs5x11.lt; omega
 have ne_b10_20 : ¬ b10 = b20 := by have := hBs6x11.lt; omega
 have ne_hsCd_b20 := hsCd.fresh (b := b20) (by omega);have ne_hsOd_b20 := hsOd.fresh (b := b20) (by omega);have ne_hsRd_b20 := hsRd.fresh (b := b20) (by omega)
 have ne_b12_20 : ¬ b12 = b20 := by have := hBs7x7.lt; omega
 have ne_hsSt_b20 := hsSt.fresh (b := b20) (by omega);have ne_hsCe_b20 := hsCe.fresh (b := b20) (by omega);have ne_hsOe_b20 := hsOe.fresh (b := b20) (by omega);have ne_hsRe_b20 := hsRe.fresh (b := b20) (by omega)
 have ne_b17_20 : ¬ b17 = b20 := by have := hBs10x9.lt; omega
 have ne_hsCf_b20 := hsCf.fresh (b := b20) (by omega);have ne_hsOf_b20 := hsOf.fresh (b := b20) (by omega);have ne_hsRf_b20 := hsRf.fresh (b := b20) (by omega);replace hb0 := btr hb0 hb20;replace hsCa := hsCa.below hb20;replace hsOa := hsOa.below hb20;replace hsRa := hsRa.below hb20;replace hBs1x10 := hBs1x10.below hb20;replace hsCb := hsCb.below hb20;replace hsOb := hsOb.below hb20;replace hsRb := hsRb.below hb20;replace hBs2x11 := hBs2x11.below hb20;replace hsCc := hsCc.below hb20;replace hsOc := hsOc.below hb20;replace hsRc := hsRc.below hb20;replace hsRu := hsRu.below hb20;replace hBs5x11 := hBs5x11.below hb20;replace hsCd := hsCd.below hb20;replace hsOd := hsOd.below hb20;replace hsRd := hsRd.below hb20;replace hsSt := hsSt.below hb20;replace hsCe := hsCe.below hb20;replace hsOe := hsOe.below hb20;replace hsRe := hsRe.below hb20;replace hBs10x9 := hBs10x9.below hb20;replace hsCf := hsCf.below hb20;replace hsOf := hsOf.below hb20;replace hsRf := hsRf.below hb20;refine SG_storeW (hB20) rfl rfl rfl rfl Tryz.sizeOf26 rfl rfl ?_;intro ws11x9 hchs11x9 hBs11x9;replace hb0 := bchg hb0 hchs11x9 hle20;replace hsCa := hsCa.chg hchs11x9 ne_hsCa_b20;replace hsOa := hsOa.chg hchs11x9 ne_hsOa_b20;replace hsRa := hsRa.chg hchs11x9 ne_hsRa_b20;replace hBs1x10 := hBs1x10.chg hchs11x9 ne_b1_20;replace hsCb := hsCb.chg hchs11x9 ne_hsCb_b20;replace hsOb := hsOb.chg hchs11x9 ne_hsOb_b20;replace hsRb := hsRb.chg hchs11x9 ne_hsRb_b20;replace hBs2x11 := hBs2x11.chg hchs11x9 ne_b3_20;replace hsCc := hsCc.chg hchs11x9 ne_hsCc_b20;replace hsOc := hsOc.chg hchs11x9 ne_hsOc_b20;replace hsRc := hsRc.chg hchs11x9 ne_hsRc_b20;replace hsRu := hsRu.chg hchs11x9 ne_hsRu_b20;replace hBs5x11 := hBs5x11.chg hchs11x9 ne_b8_20;replace hsCd := hsCd.chg hchs11x9 ne_hsCd_b20;replace hsOd := hsOd.chg hchs11x9 ne_hsOd_b20;replace hsRd := hsRd.chg hchs11x9 ne_hsRd_b20;replace hsSt := hsSt.chg hchs11x9 ne_hsSt_b20;replace hsCe := hsCe.chg hchs11x9 ne_hsCe_b20;replace hsOe := hsOe.chg hchs11x9 ne_hsOe_b20;replace hsRe := hsRe.chg hchs11x9 ne_hsRe_b20;replace hBs10x9 := hBs10x9.chg hchs11x9 ne_b17_20;clear hO101;replace hsCf := hsCf.chg hchs11x9 ne_hsCf_b20;replace hsOf := hsOf.chg hchs11x9 ne_hsOf_b20;replace hsRf := hsRf.chg hchs11x9 ne_hsRf_b20;clear hB20;refine SG_q (Rq_assign rfl) rfl ?_;refine SG_q (Rq_assign rfl) rfl ?_;refine SG_nil ?_;refine D_then ?_;refine W_seq ?_;refine W_seq ?_;refine W_region ?_;refine SG_q (Rq_move rfl) rfl ?_;refine SG_q (Rq_neq rfl rfl) rfl ?_;refine SG_q (Rq_move rfl) rfl ?_;refine SG_or (r := ?r108n1) 3 111 108 rfl ?_ ?_ ?_; rotate_left
 ·intro g108 K108
  have g108' := g108; try simp only [dd] at g108'
  have hm108 := Below.refl (ws11x9).heap.size ws11x9;refine SG_yes 108 rfl rfl g108 (SG_q (Rq_move rfl) rfl (SG_yes 108 rfl rfl g108 (SG_q (Rq_neq rfl rfl) rfl (SG_q (Rq_pick rfl (fun h => absurd (g108.symm.trans h) (by decide)) (fun _ => rfl)) rfl ?_))));exact K108 _ _ hm108 (by repeat (first | exact Sub.refl | refine Sub.shadow ?_ | refine Sub.same ?_ | refine Sub.push rfl ?_))
 ·intro g108 K108
  have g108' := g108; try simp only [dd] at g108'
  have hm108 := Below.refl (ws11x9).heap.size ws11x9;refine SG_no 108 rfl rfl g108 rfl (SG_no 108 rfl rfl g108 rfl (SG_q (Rq_pick rfl (fun _ => rfl) (fun h => absurd (g108.symm.trans h) (by decide))) rfl ?_));exact K108 _ _ hm108 (by repeat (first | exact Sub.refl | refine Sub.shadow ?_ | refine Sub.same ?_ | refine Sub.push rfl ?_))
 intro wm108 hbm108;replace hb0 := btr hb0 hbm108;replace hsCa := hsCa.below hbm108;replace hsOa := hsOa.below hbm108;replace hsRa := hsRa.below hbm108;replace hBs1x10 := hBs1x10.below hbm108;replace hsCb := hsCb.below hbm108;replace hsOb := hsOb.below hbm108;replace hsRb := hsRb.below hbm108;replace hBs2x11 := hBs2x11.below hbm108;replace hsCc := hsCc.below hbm108;replace hsOc := hsOc.below hbm108;replace hsRc := hsRc.below hbm108;replace hsRu := hsRu.below hbm108;replace hBs5x11 := hBs5x11.below hbm108;replace hsCd := hsCd.below hbm108;replace hsOd := hsOd.below hbm108;replace hsRd := hsRd.below hbm108;replace hsSt := hsSt.below hbm108;replace hsCe := hsCe.below hbm108;replace hsOe := hsOe.below hbm108;replace hsRe := hsRe.below hbm108;replace hBs10x9 := hBs10x9.below hbm108;replace hsCf := hsCf.below hbm108;replace hsOf := hsOf.below hbm108;replace hsRf := hsRf.below hbm108
 simp only [List.drop_succ_cons, List.drop_zero]
 refine SG_q (Rq_move rfl) rfl ?_;refine SG_or (r := ?r112n2) 3 115 112 rfl ?_ ?_ ?_; rotate_left
 ·intro g112 K112
  have g112' := g112; try simp only [dd] at g112'
  have hm112 := Below.refl (wm108).heap.size wm108;refine SG_yes 112 rfl rfl g112 (SG_q (Rq_move rfl) rfl (SG_yes 112 rfl rfl g112 (SG_q (Rq_neq rfl rfl) rfl (SG_q (Rq_pick rfl (fun h => absurd (g112.symm.trans h) (by decide)) (fun _ => rfl)) rfl ?_))));exact K112 _ _ hm112 (by repeat (first | exact Sub.refl | refine Sub.shadow ?_ | refine Sub.same ?_ | refine Sub.push rfl ?_))
 ·intro g112 K112
  have g112' := g112; try simp only [dd] at g112'
  have hm112 := Below.refl (wm108).heap.size wm108;refine SG_no 112 rfl rfl g112 rfl (SG_no 112 rfl rfl g112 rfl (SG_q (Rq_pick rfl (fun _ => rfl) (fun h => absurd (g112.symm.trans h) (by decide))) rfl ?_));exact K112 _ _ hm112 (by repeat (first | exact Sub.refl | refine Sub.shadow ?_ | refine Sub.same ?_ | refine Sub.push rfl ?_))
 intro wm112 hbm112;replace hb0 := btr hb0 hbm112;replace hsCa := hsCa.below hbm112;replace hsOa := hsOa.below hbm112;replace hsRa := hsRa.below hbm112;replace hBs1x10 := hBs1x10.below hbm112;replace hsCb := hsCb.below hbm112;replace hsOb := hsOb.below hbm112;replace hsRb := hsRb.below hbm112;replace hBs2x11 := hBs2x11.below hbm112;replace hsCc := hsCc.below hbm112;replace hsOc := hsOc.below hbm112;replace hsRc := hsRc.below hbm112;replace hsRu := hsRu.below hbm112;replace hBs5x11 := hBs5x11.below hbm112;replace hsCd := hsCd.below hbm112;replace hsOd := hsOd.below hbm112;replace hsRd := hsRd.below hbm112;replace hsSt := hsSt.below hbm112;replace hsCe := hsCe.below hbm112;replace hsOe := hsOe.below hbm112;replace hsRe := hsRe.below hbm112;replace hBs10x9 := hBs10x9.below hbm112;replace hsCf := hsCf.below hbm112;replace hsOf := hsOf.below hbm112;replace hsRf := hsRf.below hbm112
 simp only [List.drop_succ_cons, List.drop_zero]
 refine SG_q (Rq_move rfl) rfl ?_;refine SG_or (r := ?r116n3) 3 119 116 rfl ?_ ?_ ?_; rotate_left
 ·intro g116 K116
  have g116' := g116; try simp only [dd] at g116'
  have hm116 := Below.refl (wm112).heap.size wm112;refine SG_yes 116 rfl rfl g116 (SG_q (Rq_move rfl) rfl (SG_yes 116 rfl rfl g116 (SG_q (Rq_neq rfl rfl) rfl (SG_q (Rq_pick rfl (fun h => absurd (g116.symm.trans h) (by decide)) (fun _ => rfl)) rfl ?_))));exact K116 _ _ hm116 (by repeat (first | exact Sub.refl | refine Sub.shadow ?_ | refine Sub.same ?_ | refine Sub.push rfl ?_))
 ·intro g116 K116
  have g116' := g116; try simp only [dd] at g116'
  have hm116 := Below.refl (wm112).heap.size wm112;refine SG_no 116 rfl rfl g116 rfl (SG_no 116 rfl rfl g116 rfl (SG_q (Rq_pick rfl (fun _ => rfl) (fun h => absurd (g116.symm.trans h) (by decide))) rfl ?_));exact K116 _ _ hm116 (by repeat (first | exact Sub.refl | refine Sub.shadow ?_ | refine Sub.same ?_ | refine Sub.push rfl ?_))
 intro wm116 hbm116;replace hb0 := btr hb0 hbm116;replace hsCa := hsCa.below hbm116;replace hsOa := hsOa.below hbm116;replace hsRa := hsRa.below hbm116;replace hBs1x10 := hBs1x10.below hbm116;replace hsCb := hsCb.below hbm116;replace hsOb := hsOb.below hbm116;replace hsRb := hsRb.below hbm116;replace hBs2x11 := hBs2x11.below hbm116;replace hsCc := hsCc.below hbm116;replace hsOc := hsOc.below hbm116;replace hsRc := hsRc.below hbm116;replace hsRu := hsRu.below hbm116;replace hBs5x11 := hBs5x11.below hbm116;replace hsCd := hsCd.below hbm116;replace hsOd := hsOd.below hbm116;replace hsRd := hsRd.below hbm116;replace hsSt := hsSt.below hbm116;replace hsCe := hsCe.below hbm116;replace hsOe := hsOe.below hbm116;replace hsRe := hsRe.below hbm116;replace hBs10x9 := hBs10x9.below hbm116;replace hsCf := hsCf.below hbm116;replace hsOf := hsOf.below hbm116;replace hsRf := hsRf.below hbm116
 simp only [List.drop_succ_cons, List.drop_zero]
 refine SG_q (Rq_move rfl) rfl ?_;refine SG_or (r := ?r120n4) 3 123 120 rfl ?_ ?_ ?_; rotate_left
 ·intro g120 K120
  have g120' := g120; try simp only [dd] at g120'
  have hm120 := Below.refl (wm116).heap.size wm116;refine SG_yes 120 rfl rfl g120 (SG_q (Rq_move rfl) rfl (SG_yes 120 rfl rfl g120 (SG_q (Rq_neq rfl rfl) rfl (SG_q (Rq_pick rfl (fun h => absurd (g120.symm.trans h) (by decide)) (fun _ => rfl)) rfl ?_))));exact K120 _ _ hm120 (by repeat (first | exact Sub.refl | refine Sub.shadow ?_ | refine Sub.same ?_ | refine Sub.push rfl ?_))
 ·intro g120 K120
  have g120' := g120; try simp only [dd] at g120'
  have hm120 := Below.refl (wm116).heap.size wm116;refine SG_no 120 rfl rfl g120 rfl (SG_no 120 rfl rfl g120 rfl (SG_q (Rq_pick rfl (fun _ => rfl) (fun h => absurd (g120.symm.trans h) (by decide))) rfl ?_));exact K120 _ _ hm120 (by repeat (first | exact Sub.refl | refine Sub.shadow ?_ | refine Sub.same ?_ | refine Sub.push rfl ?_))
 intro wm120 hbm120;replace hb0 := btr hb0 hbm120;replace hsCa := hsCa.below hbm120;replace hsOa := hsOa.below hbm120;replace hsRa := hsRa.below hbm120;replace hBs1x10 := hBs1x10.below hbm120;replace hsCb := hsCb.below hbm120;replace hsOb := hsOb.below hbm120;replace hsRb := hsRb.below hbm120;replace hBs2x11 := hBs2x11.below hbm120;replace hsCc := hsCc.below hbm120;replace hsOc := hsOc.below hbm120;replace hsRc := hsRc.below hbm120;replace hsRu := hsRu.below hbm120;replace hBs5x11 := hBs5x11.below hbm120;replace hsCd := hsCd.below hbm120;replace hsOd := hsOd.below hbm120;replace hsRd := hsRd.below hbm120;replace hsSt := hsSt.below hbm120;replace hsCe := hsCe.below hbm120;replace hsOe := hsOe.below hbm120;replace hsRe := hsRe.below hbm120;replace hBs10x9 := hBs10x9.below hbm120;replace hsCf := hsCf.below hbm120;replace hsOf := hsOf.below hbm120;replace hsRf := hsRf.below hbm120
 simp only [List.drop_succ_cons, List.drop_zero]
 refine SG_q (Rq_move rfl) rfl ?_;refine SG_or (r := ?r124n5) 3 127 124 rfl ?_ ?_ ?_; rotate_left
 ·intro g124 K124
  have g124' := g124; try simp only [dd] at g124'
  have hm124 := Below.refl (wm120).heap.size wm120;refine SG_yes 124 rfl rfl g124 (SG_q (Rq_move rfl) rfl (SG_yes 124 rfl rfl g124 (SG_q (Rq_neq rfl rfl) rfl (SG_q (Rq_pick rfl (fun h => absurd (g124.symm.trans h) (by decide)) (fun _ => rfl)) rfl ?_))));exact K124 _ _ hm124 (by repeat (first | exact Sub.refl | refine Sub.shadow ?_ | refine Sub.same ?_ | refine Sub.push rfl ?_))
 ·intro g124 K124
  have g124' := g124; try simp only [dd] at g124'
  have hm124 := Below.refl (wm120).heap.size wm120;refine SG_no 124 rfl rfl g124 rfl (SG_no 124 rfl rfl g124 rfl (SG_q (Rq_pick rfl (fun _ => rfl) (fun h => absurd (g124.symm.trans h) (by decide))) rfl ?_));exact K124 _ _ hm124 (by repeat (first | exact Sub.refl | refine Sub.shadow ?_ | refine Sub.same ?_ | refine Sub.push rfl ?_))
 intro wm124 hbm124;replace hb0 := btr hb0 hbm124;replace hsCa := hsCa.below hbm124;replace hsOa := hsOa.below hbm124;replace hsRa := hsRa.below hbm124;replace hBs1x10 := hBs1x10.below hbm124;replace hsCb := hsCb.below hbm124;replace hsOb := hsOb.below hbm124;replace hsRb := hsRb.below hbm124;replace hBs2x11 := hBs2x11.below hbm124;replace hsCc := hsCc.below hbm124;replace hsOc := hsOc.below hbm124;replace hsRc := hsRc.below hbm124;replace hsRu := hsRu.below hbm124;replace hBs5x11 := hBs5x11.below hbm124;replace hsCd := hsCd.below hbm124;replace hsOd := hsOd.below hbm124;replace hsRd := hsRd.below hbm124;replace hsSt := hsSt.below hbm124;replace hsCe := hsCe.below hbm124;replace hsOe := hsOe.below hbm124;replace hsRe := hsRe.below hbm124;replace hBs10x9 := hBs10x9.below hbm124;replace hsCf := hsCf.below hbm124;replace hsOf := hsOf.below hbm124;replace hsRf := hsRf.below hbm124
 simp only [List.drop_succ_cons, List.drop_zero]
 refine SG_q (Rq_move rfl) rfl ?_;refine SG_or (r := ?r128n6) 3 131 128 rfl ?_ ?_ ?_; rotate_left
 ·intro g128 K128
  have g128' := g128; try simp only [dd] at g128'
  have hm128 := Below.refl (wm124).heap.size wm124;refine SG_yes 128 rfl rfl g128 (SG_q (Rq_move rfl) rfl (SG_yes 128 rfl rfl g128 (SG_q (Rq_neq rfl rfl) rfl (SG_q (Rq_pick rfl (fun h => absurd (g128.symm.trans h) (by decide)) (fun _ => rfl)) rfl ?_))));exact K128 _ _ hm128 (by repeat (first | exact Sub.refl | refine Sub.shadow ?_ | refine Sub.same ?_ | refine Sub.push rfl ?_))
 ·intro g128 K128
  have g128' := g128; try simp only [dd] at g128'
  have hm128 := Below.refl (wm124).heap.size wm124;refine SG_no 128 rfl rfl g128 rfl (SG_no 128 rfl rfl g128 rfl (SG_q (Rq_pick rfl (fun _ => rfl) (fun h => absurd (g128.symm.trans h) (by decide))) rfl ?_));exact K128 _ _ hm128 (by repeat (first | exact Sub.refl | refine Sub.shadow ?_ | refine Sub.same ?_ | refine Sub.push rfl ?_))
 intro wm128 hbm128;replace hb0 := btr hb0 hbm128;replace hsCa := hsCa.below hbm128;replace hsOa := hsOa.below hbm128;replace hsRa := hsRa.below hbm128;replace hBs1x10 := hBs1x10.below hbm128;replace hsCb := hsCb.below hbm128;replace hsOb := hsOb.below hbm128;replace hsRb := hsRb.below hbm128;replace hBs2x11 := hBs2x11.below hbm128;replace hsCc := hsCc.below hbm128;replace hsOc := hsOc.below hbm128;replace hsRc := hsRc.below hbm128;replace hsRu := hsRu.below hbm128;replace hBs5x11 := hBs5x11.below hbm128;replace hsCd := hsCd.below hbm128;replace hsOd := hsOd.below hbm128;replace hsRd := hsRd.below hbm128;replace hsSt := hsSt.below hbm128;replace hsCe := hsCe.below hbm128;replace hsOe := hsOe.below hbm128;replace hsRe := hsRe.below hbm128;replace hBs10x9 := hBs10x9.below hbm128;replace hsCf := hsCf.below hbm128;replace hsOf := hsOf.below hbm128;replace hsRf := hsRf.below hbm128
 simp only [List.drop_succ_cons, List.drop_zero]
 refine SG_q (Rq_move rfl) rfl ?_;refine SG_or (r := ?r132n7) 3 135 132 rfl ?_ ?_ ?_; rotate_left
 ·intro g132 K132
  have g132' := g132; try simp only [dd] at g132'
  have hm132 := Below.refl (wm128).heap.size wm128;refine SG_yes 132 rfl rfl g132 (SG_q (Rq_move rfl) rfl (SG_yes 132 rfl rfl g132 (SG_q (Rq_neq rfl rfl) rfl (SG_q (Rq_pick rfl (fun h => absurd (g132.symm.trans h) (by decide)) (fun _ => rfl)) rfl ?_))));exact K132 _ _ hm132 (by repeat (first | exact Sub.refl | refine Sub.shadow ?_ | refine Sub.same ?_ | refine Sub.push rfl ?_))
 ·intro g132 K132
  have g132' := g132; try simp only [dd] at g132'
  have hm132 := Below.refl (wm128).heap.size wm128;refine SG_no 132 rfl rfl g132 rfl (SG_no 132 rfl rfl g132 rfl (SG_q (Rq_pick rfl (fun _ => rfl) (fun h => absurd (g132.symm.trans h) (by decide))) rfl ?_));exact K132 _ _ hm132 (by repeat (first | exact Sub.refl | refine Sub.shadow ?_ | refine Sub.same ?_ | refine Sub.push rfl ?_))
 intro wm132 hbm132;replace hb0 := btr hb0 hbm132;replace hsCa := hsCa.below hbm132;replace hsOa := hsOa.below hbm132;replace hsRa := hsRa.below hbm132;replace hBs1x10 := hBs1x10.below hbm132;replace hsCb := hsCb.below hbm132;replace hsOb := hsOb.below hbm132;replace hsRb := hsRb.below hbm132;replace hBs2x11 := hBs2x11.below hbm132;replace hsCc := hsCc.below hbm132;replace hsOc := hsOc.below hbm132;replace hsRc := hsRc.below hbm132;replace hsRu := hsRu.below hbm132;replace hBs5x11 := hBs5x11.below hbm132;replace hsCd := hsCd.below hbm132;replace hsOd := hsOd.below hbm132;replace hsRd := hsRd.below hbm132;replace hsSt := hsSt.below hbm132;replace hsCe := hsCe.below hbm132;replace hsOe := hsOe.below hbm132;replace hsRe := hsRe.below hbm132;replace hBs10x9 := hBs10x9.below hbm132;replace hsCf := hsCf.below hbm132;replace hsOf := hsOf.below hbm132;replace hsRf := hsRf.below hbm132
 simp only [List.drop_succ_cons, List.drop_zero]
 refine SG_q (Rq_move rfl) rfl ?_;refine SG_or (r := ?r136n8) 3 139 136 rfl ?_ ?_ ?_; rotate_left
 ·intro g136 K136
  have g136' := g136; try simp only [dd] at g136'
  have hm136 := Below.refl (wm132).heap.size wm132;refine SG_yes 136 rfl rfl g136 (SG_q (Rq_move rfl) rfl (SG_yes 136 rfl rfl g136 (SG_q (Rq_neq rfl rfl) rfl (SG_q (Rq_pick rfl (fun h => absurd (g136.symm.trans h) (by decide)) (fun _ => rfl)) rfl ?_))));exact K136 _ _ hm136 (by repeat (first | exact Sub.refl | refine Sub.shadow ?_ | refine Sub.same ?_ | refine Sub.push rfl ?_))
 ·intro g136 K136
  have g136' := g136; try simp only [dd] at g136'
  have hm136 := Below.refl (wm132).heap.size wm132;refine SG_no 136 rfl rfl g136 rfl (SG_no 136 rfl rfl g136 rfl (SG_q (Rq_pick rfl (fun _ => rfl) (fun h => absurd (g136.symm.trans h) (by decide))) rfl ?_));exact K136 _ _ hm136 (by repeat (first | exact Sub.refl | refine Sub.shadow ?_ | refine Sub.same ?_ | refine Sub.push rfl ?_))
 intro wm136 hbm136;replace hb0 := btr hb0 hbm136;replace hsCa := hsCa.below hbm136;replace hsOa := hsOa.below hbm136;replace hsRa := hsRa.below hbm136;replace hBs1x10 := hBs1x10.below hbm136;replace hsCb := hsCb.below hbm136;replace hsOb := hsOb.below hbm136;replace hsRb := hsRb.below hbm136;replace hBs2x11 := hBs2x11.below hbm136;replace hsCc := hsCc.below hbm136;replace hsOc := hsOc.below hbm136;replace hsRc := hsRc.below hbm136;replace hsRu := hsRu.below hbm136;replace hBs5x11 := hBs5x11.below hbm136;replace hsCd := hsCd.below hbm136;replace hsOd := hsOd.below hbm136;replace hsRd := hsRd.below hbm136;replace hsSt := hsSt.below hbm136;replace hsCe := hsCe.below hbm136;replace hsOe := hsOe.below hbm136;replace hsRe := hsRe.below hbm136;replace hBs10x9 := hBs10x9.below hbm136;replace hsCf := hsCf.below hbm136;replace hsOf := hsOf.below hbm136;replace hsRf := hsRf.below hbm136
 simp only [List.drop_succ_cons, List.drop_zero]
 refine SG_q (Rq_move rfl) rfl ?_;refine SG_or (r := ?r140n9) 5 145 140 rfl ?_ ?_ ?_; rotate_left
 ·intro g140 K140
  have g140' := g140; try simp only [dd] at g140'
  have hm140 := Below.refl (wm136).heap.size wm136;refine SG_yes 140 rfl rfl g140 (SG_q (Rq_fieldAddr fa26_1 rfl) rfl (SG_yes 140 rfl rfl g140 (SG_q (Rq_loadB (hBs10x9) Tryz.isAgg23 rfl rfl) rfl (SG_yes 140 rfl rfl g140 ?_))))
  first | refine SG_q (Rq_len (hsCa) Tryz.runUnderlying23 rfl) rfl ?_ | refine SG_q (Rq_len (hsOa) Tryz.runUnderlying23 rfl) rfl ?_ | refine SG_q (Rq_len (hsRa) Tryz.runUnderlying23 rfl) rfl ?_ | refine SG_q (Rq_len (hsCb) Tryz.runUnderlying23 rfl) rfl ?_ | refine SG_q (Rq_len (hsOb) Tryz.runUnderlying23 rfl) rfl ?_ | refine SG_q (Rq_len (hsRb) Tryz.runUnderlying23 rfl) rfl ?_ | refine SG_q (Rq_len (hsCc) Tryz.runUnderlying23 rfl) rfl ?_ | refine SG_q (Rq_len (hsOc) Tryz.runUnderlying23 rfl) rfl ?_ | refine SG_q (Rq_len (hsRc) Tryz.runUnderlying23 rfl) rfl ?_ | refine SG_q (Rq_len (hsRu) Tryz.runUnderlying23 rfl) rfl ?_ | refine SG_q (Rq_len (hsCd) Tryz.runUnderlying23 rfl) rfl ?_ | refine SG_q (Rq_len (hsOd) Tryz.runUnderlying23 rfl) rfl ?_ | refine SG_q (Rq_len (hsRd) Tryz.runUnderlying23 rfl) rfl ?_ | refine SG_q (Rq_len (hsSt) Tryz.runUnderlying23 rfl) rfl ?_ | refine SG_q (Rq_len (hsCe) Tryz.runUnderlying23 rfl) rfl ?_ | refine SG_q (Rq_len (hsOe) Tryz.runUnderlying23 rfl) rfl ?_ | refine SG_q (Rq_len (hsRe) Tryz.runUnderlying23 rfl) rfl ?_ | refine SG_q (Rq_len (hsCf) Tryz.runUnderlying23 rfl) rfl ?_ | refine SG_q (Rq_len (hsOf) Tryz.runUnderlying23 rfl) rfl ?_ | refine SG_q (Rq_len (hsRf) Tryz.runUnderlying23 rfl) rfl ?_
  refine SG_yes 140 rfl rfl g140 (SG_q (Rq_neq rfl rfl) rfl (SG_q (Rq_pick rfl (fun h => absurd (g140.symm.trans h) (by decide)) (fun _ => rfl)) rfl ?_));exact K140 _ _ hm140 (by repeat (first | exact Sub.refl | refine Sub.shadow ?_ | refine Sub.same ?_ | refine Sub.push rfl ?_))
 ·intro g140 K140
  have g140' := g140; try simp only [dd] at g140'
  have hm140 := Below.refl (wm136).heap.size wm136;refine SG_no 140 rfl rfl g140 rfl (SG_no 140 rfl rfl g140 rfl (SG_no 140 rfl rfl g140 rfl (SG_no 140 rfl rfl g140 rfl (SG_q (Rq_pick rfl (fun _ => rfl) (fun h => absurd (g140.symm.trans h) (by decide))) rfl ?_))));exact K140 _ _ hm140 (by repeat (first | exact Sub.refl | refine Sub.shadow ?_ | refine Sub.same ?_ | refine Sub.push rfl ?_))
 intro wm140 hbm140;replace hb0 := btr hb0 hbm140;replace hsCa := hsCa.below hbm140;replace hsOa := hsOa.below hbm140;replace hsRa := hsRa.below hbm140;replace hBs1x10 := hBs1x10.below hbm140;replace hsCb := hsCb.below hbm140;replace hsOb := hsOb.below hbm140;replace hsRb := hsRb.below hbm140;replace hBs2x11 := hBs2x11.below hbm140;replace hsCc := hsCc.below hbm140;replace hsOc := hsOc.below hbm140;replace hsRc := hsRc.below hbm140;replace hsRu := hsRu.below hbm140;replace hBs5x11 := hBs5x11.below hbm140;replace hsCd := hsCd.below hbm140;replace hsOd := hsOd.below hbm140;replace hsRd := hsRd.below hbm140;replace hsSt := hsSt.below hbm140;replace hsCe := hsCe.below hbm140;replace hsOe := hsOe.below hbm140;replace hsRe := hsRe.below hbm140;replace hBs10x9 := hBs10x9.below hbm140;replace hsCf := hsCf.below hbm140;replace hsOf := hsOf.below hbm140;replace hsRf := hsRf.below hbm140
 simp only [List.drop_succ_cons, List.drop_zero]
 refine SG_nil (D_then ?_);refine W_cond rfl ?_ ?_
 ·intro g145; exfalso; (try simp only [dd] at g145); (first | (revert g145; decide) | (simp [ofR, kr6] at g145))
 ·intro g145
  try simp only [dd] at g145
  refine W_skip ?_;refine D_then ?_;refine W_seq ?_;refine W_anyT 53 [[], [], [1], [2], [0, 3], [4], [], [], [], [7, 8], [9], [6, 10], [5, 11], [12], [], [14], [], [16], [15, 17], [13, 18], [19], [], [], [21, 22], [20, 23], [24], [], [26], [27], [25, 28], [29], [], [31], [32], [], [33, 34], [30, 35], [36], [], [38], [37, 39], [40], [], [42], [41, 43], [44], [], [46], [47], [48], [], [49, 50], [45, 51]] [det [] ?a14_0n10, det [] ?a14_1n10, frs [1] (SlR 0 5 encO [(⟨1, 0, 0, 0, 5⟩ : Ot)]), frs [2] (fun v w _ _ => CoS w v (ofR kr1)), det [0, 3] (.bool true), det [4] (.bool true), det [] ?a14_6n10, det [] ?a14_7n10, det [] ?a14_8n10, frs [7, 8] (SlR 0 5 encO [(⟨3, 0, 0, 0, 0⟩ : Ot), (⟨9, 0, 0, 0, 0⟩ : Ot)]), frs [9] (fun v w _ _ => CoS w v (ofR kr2)), det [6, 10] (.bool true), det [5, 11] (.bool true), det [12] (.bool true), det [] ?a14_14n10, det [14] ?a14_15n10, frs [] (SlR 0 1 encU [(7 : Int)]), det [16] ?a14_17n10, det [15, 17] (.bool true), det [13, 18] (.bool true), det [19] (.bool true), det [] ?a14_21n10, det [] ?a14_22n10, det [21, 22] (.bool true), det [20, 23] (.bool true), det [24] (.bool true), det [] ?a14_26n10, det [26] ?a14_27n10, det [27] (.bool true), det [25, 28] (.bool true), det [29] (.bool true), det [] ?a14_31n10, det [31] ?a14_32n10, det [32] ?a14_33n10, det [] ?a14_34n10, det [33, 34] (.bool true), det [30, 35] (.bool true), det [36] (.bool true), det [] ?a14_38n10, det [38] (.bool true), det [37, 39] (.bool true), det [40] (.bool true), det [] ?a14_42n10, det [42] (.bool true), det [41, 43] (.bool true), det [44] (.bool true), det [] ?a14_46n10, det [46] ?a14_47n10, det [47] ?a14_48n10, det [48] ?a14_49n10, det [] ?a14_50n10, det [49, 50] (.bool true), det [45, 51] (.bool true)] Tryz.mixed (by kernel_rfl) rfl ⟨.inl rfl, .inl rfl, .inl rfl, .inl rfl, .inl rfl, .inl rfl, .inr ⟨5, true, _, 151, rfl, rfl, rfl, by kernel_rfl, fun _ _ _ _ h => h⟩, .inr ⟨5, true, _, 151, rfl, rfl, rfl, by kernel_rfl, fun _ _ _ _ h => h⟩, .inr ⟨5, true, _, 151, rfl, rfl, rfl, by kernel_rfl, fun _ _ _ _ h => h⟩, .inr ⟨5, true, _, 151, rfl, rfl, rfl, by kernel_rfl, fun _ _ _ _ h => h⟩, .inr ⟨5, true, _, 151, rfl, rfl, rfl, by kernel_rfl, fun _ _ _ _ h => h⟩, .inr ⟨5, true, _, 151, rfl, rfl, rfl, by kernel_rfl, fun _ _ _ _ h => h⟩, .inl rfl, .inl rfl, .inr ⟨13, true, _, 159, rfl, rfl, rfl, by kernel_rfl, fun _ _ _ _ h => h⟩, .inr ⟨13, true, _, 159, rfl, rfl, rfl, by kernel_rfl, fun _ _ _ _ h => h⟩, .inr ⟨13, true, _, 159, rfl, rfl, rfl, by kernel_rfl, fun _ _ _ _ h => h⟩, .inr ⟨13, true, _, 159, rfl, rfl, rfl, by kernel_rfl, fun _ _ _ _ h => h⟩, .inr ⟨13, true, _, 159, rfl, rfl, rfl, by kernel_rfl, fun _ _ _ _ h => h⟩, .inl rfl, .inl rfl, .inr ⟨20, true, _, 166, rfl, rfl, rfl, by kernel_rfl, fun _ _ _ _ h => h⟩, .inr ⟨20, true, _, 166, rfl, rfl, rfl, by kernel_rfl, fun _ _ _ _ h => h⟩, .inr ⟨20, true, _, 166, rfl, rfl, rfl, by kernel_rfl, fun _ _ _ _ h => h⟩, .inl rfl, .inl rfl, .inr ⟨25, true, _, 171, rfl, rfl, rfl, by kernel_rfl, fun _ _ _ _ h => h⟩, .inr ⟨25, true, _, 171, rfl, rfl, rfl, by kernel_rfl, fun _ _ _ _ h => h⟩, .inr ⟨25, true, _, 171, rfl, rfl, rfl, by kernel_rfl, fun _ _ _ _ h => h⟩, .inl rfl, .inl rfl, .inr ⟨30, true, _, 176, rfl, rfl, rfl, by kernel_rfl, fun _ _ _ _ h => h⟩, .inr ⟨30, true, _, 176, rfl, rfl, rfl, by kernel_rfl, fun _ _ _ _ h => h⟩, .inr ⟨30, true, _, 176, rfl, rfl, rfl, by kernel_rfl, fun _ _ _ _ h => h⟩, .inr ⟨30, true, _, 176, rfl, rfl, rfl, by kernel_rfl, fun _ _ _ _ h => h⟩, .inr ⟨30, true, _, 176, rfl, rfl, rfl, by kernel_rfl, fun _ _ _ _ h => h⟩, .inl rfl, .inl rfl, .inr ⟨37, true, _, 183, rfl, rfl, rfl, by kernel_rfl, fun _ _ _ _ h => h⟩, .inr ⟨37, true, _, 183, rfl, rfl, rfl, by kernel_rfl, fun _ _ _ _ h => h⟩, .inl rfl, .inl rfl, .inr ⟨41, true, _, 187, rfl, rfl, rfl, by kernel_rfl, fun _ _ _ _ h => h⟩, .inr ⟨41, true, _, 187, rfl, rfl, rfl, by kernel_rfl, fun _ _ _ _ h => h⟩, .inl rfl, .inl rfl, .inr ⟨45, true, _, 191, rfl, rfl, rfl, by kernel_rfl, fun _ _ _ _ h => h⟩, .inr ⟨45, true, _, 191, rfl, rfl, rfl, by kernel_rfl, fun _ _ _ _ h => h⟩, .inr ⟨45, true, _, 191, rfl, rfl, rfl, by kernel_rfl, fun _ _ _ _ h => h⟩, .inr ⟨45, true, _, 191, rfl, rfl, rfl, by kernel_rfl, fun _ _ _ _ h => h⟩, .inr ⟨45, true, _, 191, rfl, rfl, rfl, by kernel_rfl, fun _ _ _ _ h => h⟩, .inr ⟨45, true, _, 191, rfl, rfl, rfl, by kernel_rfl, fun _ _ _ _ h => h⟩, .inl rfl, trivial⟩ ⟨det_stab _ _, det_stab _ _, SlR.stab, (fun _ _ _ _ _ hb _ h => CoS.below h hb), det_stab _ _, det_stab _ _, det_stab _ _, det_stab _ _, det_stab _ _, SlR.stab, (fun _ _ _ _ _ hb _ h => CoS.below h hb), det_stab _ _, det_stab _ _, det_stab _ _, det_stab _ _, det_stab _ _, SlR.stab, det_stab _ _, det_stab _ _, det_stab _ _, det_stab _ _, det_stab _ _, det_stab _ _, det_stab _ _, det_stab _ _, det_stab _ _, det_stab _ _, det_stab _ _, det_stab _ _, det_stab _ _, det_stab _ _, det_stab _ _, det_stab _ _, det_stab _ _, det_stab _ _, det_stab _ _, det_stab _ _, det_stab _ _, det_stab _ _, det_stab _ _, det_stab _ _, det_stab _ _, det_stab _ _, det_stab _ _, det_stab _ _, det_stab _ _, det_stab _ _, det_stab _ _, det_stab _ _, det_stab _ _, det_stab _ _, det_stab _ _, det_stab _ _, trivial⟩ ?_ ?_; rotate_left 23
  ·refine Obls_cons ?_ ?_
   ·intro wq hbq
    refine Obl_nil ?_
    first | (refine Ex_q2 (Rq_loadBW ((hBs1x10).below hbq) Tryz.isAgg26 Tryz.sizeOf26 rfl rfl) ?_; first | exact rfl | rfl) | (refine Ex_q2 (Rq_loadBA ((hBs1x10).below hbq) Tryz.isAgg26 Tryz.sizeOf26 rfl rfl rfl) ?_; first | exact rfl | rfl)
   refine Obls_cons ?_ ?_
   ·intro wq hbq
    refine Obl_nil ?_
    refine Ex_call rfl Tryz.call37 (fn_det2 (f37_c _ _) ?_); first | exact rfl | rfl
   refine Obls_cons ?_ ?_
   ·intro wq hbq
    refine Obl_det rfl rfl (Obl_nil ?_);exact Ex_bslice (enc := encO) (val := valO) (os := [.tmp 147]) (Nat.zero_le _) rfl rfl (MV.cons (x := (⟨1, 0, 0, 0, 5⟩ : Ot)) MV.nil) (fun _ => rfl) (fun _ => rfl) Tryz.runUnderlying23 Tryz.sizeOf76 Tryz.zeroValue76 rfl (by decide) (by decide)
   refine Obls_cons ?_ ?_
   ·intro wq hbq
    refine Obl_frs rfl rfl ?_; intro v148 lo148 hi148 hle148 hR148;refine Obl_nil ?_;refine Ex_call rfl Tryz.call36 (Fn.mono (f36_c hR148.1 (by decide)) fun v w' hb h => h)
   refine Obls_cons ?_ ?_
   ·intro wq hbq
    refine Obl_det rfl rfl (Obl_frs rfl rfl ?_); intro v149 lo149 hi149 hle149 hR149;refine Obl_nil (Ex_call rfl Tryz.call14 (fn_det2 (f14_c (⟨⟨_, _, _, rfl, hsCa.below hbq, hsOa.below hbq, hsRa.below hbq⟩⟩ : CoS _ _ (ofR kr1)) hR149 (by decide) (by decide) (by decide) (by decide) (by decide) (by decide)) ?_));exact congrArg Value.bool (decide_eq_true rfl).symm
   refine Obls_cons ?_ ?_
   ·intro wq hbq
    refine Obl_det rfl rfl (Obl_nil ?_)
    refine Ex_q2 (Rq_move rfl) ?_; first | exact rfl | rfl
   refine Obls_cons ?_ ?_
   ·intro wq hbq
    refine Obl_nil ?_
    first | (refine Ex_q2 (Rq_loadBW ((hBs2x11).below hbq) Tryz.isAgg26 Tryz.sizeOf26 rfl rfl) ?_; first | exact rfl | rfl) | (refine Ex_q2 (Rq_loadBA ((hBs2x11).below hbq) Tryz.isAgg26 Tryz.sizeOf26 rfl rfl rfl) ?_; first | exact rfl | rfl)
   refine Obls_cons ?_ ?_
   ·intro wq hbq
    refine Obl_nil ?_
    refine Ex_call rfl Tryz.call39 (fn_det2 (f39_c _ _) ?_); first | exact rfl | rfl
   refine Obls_cons ?_ ?_
   ·intro wq hbq
    refine Obl_nil ?_
    refine Ex_call rfl Tryz.call38 (fn_det2 (f38_c _ _ _ _) ?_); first | exact rfl | rfl
   refine Obls_cons ?_ ?_
   ·intro wq hbq
    refine Obl_det rfl rfl (Obl_det rfl rfl (Obl_nil ?_));exact Ex_bslice (enc := encO) (val := valO) (os := [.tmp 153, .tmp 154]) (Nat.zero_le _) rfl rfl (MV.cons (x := (⟨3, 0, 0, 0, 0⟩ : Ot)) (MV.cons (x := (⟨9, 0, 0, 0, 0⟩ : Ot)) MV.nil)) (fun _ => rfl) (fun _ => rfl) Tryz.runUnderlying23 Tryz.sizeOf76 Tryz.zeroValue76 rfl (by decide) (by decide)
   refine Obls_cons ?_ ?_
   ·intro wq hbq
    refine Obl_frs rfl rfl ?_; intro v155 lo155 hi155 hle155 hR155;refine Obl_nil ?_;refine Ex_call rfl Tryz.call36 (Fn.mono (f36_c hR155.1 (by decide)) fun v w' hb h => h)
   refine Obls_cons ?_ ?_
   ·intro wq hbq
    refine Obl_det rfl rfl (Obl_frs rfl rfl ?_); intro v156 lo156 hi156 hle156 hR156;refine Obl_nil (Ex_call rfl Tryz.call14 (fn_det2 (f14_c (⟨⟨_, _, _, rfl, hsCb.below hbq, hsOb.below hbq, hsRb.below hbq⟩⟩ : CoS _ _ (ofR kr2)) hR156 (by decide) (by decide) (by decide) (by decide) (by decide) (by decide)) ?_));exact congrArg Value.bool (decide_eq_true rfl).symm
   refine Obls_cons ?_ ?_
   ·intro wq hbq
    refine Obl_det rfl rfl (Obl_det rfl rfl (Obl_nil ?_))
    refine Ex_q2 (Rq_pick rfl (fun _ => rfl) (fun h => by cases h)) ?_; first | exact rfl | rfl
   refine Obls_cons ?_ ?_
   ·intro wq hbq
    refine Obl_det rfl rfl (Obl_nil ?_)
    refine Ex_q2 (Rq_move rfl) ?_; first | exact rfl | rfl
   refine Obls_cons ?_ ?_
   ·intro wq hbq
    refine Obl_nil ?_
    refine Ex_q2 (Rq_move rfl) ?_; first | exact rfl | rfl
   refine Obls_cons ?_ ?_
   ·intro wq hbq
    refine Obl_det rfl rfl (Obl_nil ?_)
    refine Ex_q2 (Rq_bytes Tryz.underlying57 Tryz.underlying5 Tryz.underlying9 (hsRu.below hbq) rfl) ?_; first | exact rfl | rfl
   refine Obls_cons ?_ ?_
   ·intro wq hbq
    refine Obl_nil ?_;exact Ex_bslice (enc := encU) (val := (fun n : Int => .int .u8 n)) (os := [.const (.int .u8 7)]) (Nat.zero_le _) rfl rfl (MV.cons (x := (7 : Int)) MV.nil) (fun _ => rfl) (fun _ => rfl) Tryz.runUnderlying57 Tryz.sizeOf5 Tryz.zeroValue5 rfl (by decide) (by decide)
   refine Obls_cons ?_ ?_
   ·intro wq hbq
    refine Obl_frs rfl rfl ?_; intro v162 lo162 hi162 hle162 hR162;refine Obl_nil ?_
    refine Ex_q2 (Rq_bytes Tryz.underlying57 Tryz.underlying5 Tryz.underlying9 hR162.1 rfl) ?_; first | exact rfl | rfl
   refine Obls_cons ?_ ?_
   ·intro wq hbq
    refine Obl_det rfl rfl (Obl_det rfl rfl (Obl_nil (Ex_q2 (Rq_eql_str rfl rfl) ?_)));exact congrArg Value.bool (bytes_self _).symm
   refine Obls_cons ?_ ?_
   ·intro wq hbq
    refine Obl_det rfl rfl (Obl_det rfl rfl (Obl_nil ?_))
    refine Ex_q2 (Rq_pick rfl (fun _ => rfl) (fun h => by cases h)) ?_; first | exact rfl | rfl
   refine Obls_cons ?_ ?_
   ·intro wq hbq
    refine Obl_det rfl rfl (Obl_nil ?_)
    refine Ex_q2 (Rq_move rfl) ?_; first | exact rfl | rfl
   refine Obls_cons ?_ ?_
   ·intro wq hbq
    refine Obl_nil ?_
    first | (refine Ex_q2 (Rq_loadBW ((hBs5x11).below hbq) Tryz.isAgg45 Tryz.sizeOf45 rfl rfl) ?_; first | exact rfl | rfl) | (refine Ex_q2 (Rq_loadBA ((hBs5x11).below hbq) Tryz.isAgg45 Tryz.sizeOf45 rfl rfl rfl) ?_; first | exact rfl | rfl)
   refine Obls_cons ?_ ?_
   ·intro wq hbq
    refine Obl_nil ?_
    refine Ex_q2 (Rq_build2 build45_0_1 rfl rfl rfl rfl ) ?_; first | exact rfl | rfl
   refine Obls_cons ?_ ?_
   ·intro wq hbq
    refine Obl_det rfl rfl (Obl_det rfl rfl (Obl_nil (Ex_q2 (Rq_eqlS (fun w => eq45 ⟨9, 3⟩ ⟨9, 3⟩ w) eg45 rfl rfl) ?_)));exact congrArg Value.bool (decide_eq_true rfl).symm
   refine Obls_cons ?_ ?_
   ·intro wq hbq
    refine Obl_det rfl rfl (Obl_det rfl rfl (Obl_nil ?_))
    refine Ex_q2 (Rq_pick rfl (fun _ => rfl) (fun h => by cases h)) ?_; first | exact rfl | rfl
   refine Obls_cons ?_ ?_
   ·intro wq hbq
    refine Obl_det rfl rfl (Obl_nil ?_)
    refine Ex_q2 (Rq_move rfl) ?_; first | exact rfl | rfl
   refine Obls_cons ?_ ?_
   ·intro wq hbq
    refine Obl_nil ?_
    refine Ex_q2 (Rq_move rfl) ?_; first | exact rfl | rfl
   refine Obls_cons ?_ ?_
   ·intro wq hbq
    refine Obl_det rfl rfl (Obl_nil ?_)
    first | (refine Ex_q2 (Rq_len ((hsCa).below hbq) Tryz.runUnderlying30 rfl) ?_; first | exact rfl | rfl) | (refine Ex_q2 (Rq_len ((hsOa).below hbq) Tryz.runUnderlying30 rfl) ?_; first | exact rfl | rfl) | (refine Ex_q2 (Rq_len ((hsRa).below hbq) Tryz.runUnderlying30 rfl) ?_; first | exact rfl | rfl) | (refine Ex_q2 (Rq_len ((hsCb).below hbq) Tryz.runUnderlying30 rfl) ?_; first | exact rfl | rfl) | (refine Ex_q2 (Rq_len ((hsOb).below hbq) Tryz.runUnderlying30 rfl) ?_; first | exact rfl | rfl) | (refine Ex_q2 (Rq_len ((hsRb).below hbq) Tryz.runUnderlying30 rfl) ?_; first | exact rfl | rfl) | (refine Ex_q2 (Rq_len ((hsCc).below hbq) Tryz.runUnderlying30 rfl) ?_; first | exact rfl | rfl) | (refine Ex_q2 (Rq_len ((hsOc).below hbq) Tryz.runUnderlying30 rfl) ?_; first | exact rfl | rfl) | (refine Ex_q2 (Rq_len ((hsRc).below hbq) Tryz.runUnderlying30 rfl) ?_; first | exact rfl | rfl) | (refine Ex_q2 (Rq_len ((hsRu).below hbq) Tryz.runUnderlying30 rfl) ?_; first | exact rfl | rfl) | (refine Ex_q2 (Rq_len ((hsCd).below hbq) Tryz.runUnderlying30 rfl) ?_; first | exact rfl | rfl) | (refine Ex_q2 (Rq_len ((hsOd).below hbq) Tryz.runUnderlying30 rfl) ?_; first | exact rfl | rfl) | (refine Ex_q2 (Rq_len ((hsRd).below hbq) Tryz.runUnderlying30 rfl) ?_; first | exact rfl | rfl) | (refine Ex_q2 (Rq_len ((hsSt).below hbq) Tryz.runUnderlying30 rfl) ?_; first | exact rfl | rfl) | (refine Ex_q2 (Rq_len ((hsCe).below hbq) Tryz.runUnderlying30 rfl) ?_; first | exact rfl | rfl) | (refine Ex_q2 (Rq_len ((hsOe).below hbq) Tryz.runUnderlying30 rfl) ?_; first | exact rfl | rfl) | (refine Ex_q2 (Rq_len ((hsRe).below hbq) Tryz.runUnderlying30 rfl) ?_; first | exact rfl | rfl) | (refine Ex_q2 (Rq_len ((hsCf).below hbq) Tryz.runUnderlying30 rfl) ?_; first | exact rfl | rfl) | (refine Ex_q2 (Rq_len ((hsOf).below hbq) Tryz.runUnderlying30 rfl) ?_; first | exact rfl | rfl) | (refine Ex_q2 (Rq_len ((hsRf).below hbq) Tryz.runUnderlying30 rfl) ?_; first | exact rfl | rfl)
   refine Obls_cons ?_ ?_
   ·intro wq hbq
    refine Obl_det rfl rfl (Obl_nil (Ex_q2 (Rq_eql rfl rfl) ?_));exact congrArg Value.bool (decide_eq_true rfl).symm
   refine Obls_cons ?_ ?_
   ·intro wq hbq
    refine Obl_det rfl rfl (Obl_det rfl rfl (Obl_nil ?_))
    refine Ex_q2 (Rq_pick rfl (fun _ => rfl) (fun h => by cases h)) ?_; first | exact rfl | rfl
   refine Obls_cons ?_ ?_
   ·intro wq hbq
    refine Obl_det rfl rfl (Obl_nil ?_)
    refine Ex_q2 (Rq_move rfl) ?_; first | exact rfl | rfl
   refine Obls_cons ?_ ?_
   ·intro wq hbq
    refine Obl_nil ?_
    refine Ex_q2 (Rq_move rfl) ?_; first | exact rfl | rfl
   refine Obls_cons ?_ ?_
   ·intro wq hbq
    refine Obl_det rfl rfl (Obl_nil ?_)
    refine Ex_q2 (Rq_index (hsSt.below hbq) Tryz.runUnderlying30 Tryz.sizeOf45 rfl rfl (by decide) (by decide)) ?_; first | exact rfl | rfl
   refine Obls_cons ?_ ?_
   ·intro wq hbq
    refine Obl_det rfl rfl (Obl_nil ?_)
    refine Ex_q2 (Rq_loadA Tryz.isAgg45 Tryz.sizeOf45 rfl ((hsSt.cells 0 _ rfl).below hbq) rfl) ?_; first | exact rfl | rfl
   refine Obls_cons ?_ ?_
   ·intro wq hbq
    refine Obl_nil ?_
    refine Ex_q2 (Rq_build2 build45_0_1 rfl rfl rfl rfl ) ?_; first | exact rfl | rfl
   refine Obls_cons ?_ ?_
   ·intro wq hbq
    refine Obl_det rfl rfl (Obl_det rfl rfl (Obl_nil (Ex_q2 (Rq_eqlS (fun w => eq45 ⟨11, 2⟩ ⟨11, 2⟩ w) eg45 rfl rfl) ?_)));exact congrArg Value.bool (decide_eq_true rfl).symm
   refine Obls_cons ?_ ?_
   ·intro wq hbq
    refine Obl_det rfl rfl (Obl_det rfl rfl (Obl_nil ?_))
    refine Ex_q2 (Rq_pick rfl (fun _ => rfl) (fun h => by cases h)) ?_; first | exact rfl | rfl
   refine Obls_cons ?_ ?_
   ·intro wq hbq
    refine Obl_det rfl rfl (Obl_nil ?_)
    refine Ex_q2 (Rq_move rfl) ?_; first | exact rfl | rfl
   refine Obls_cons ?_ ?_
   ·intro wq hbq
    refine Obl_nil ?_
    refine Ex_q2 (Rq_move rfl) ?_; first | exact rfl | rfl
   refine Obls_cons ?_ ?_
   ·intro wq hbq
    refine Obl_det rfl rfl (Obl_nil (Ex_q2 (Rq_eql rfl rfl) ?_));exact congrArg Value.bool (decide_eq_true rfl).symm
   refine Obls_cons ?_ ?_
   ·intro wq hbq
    refine Obl_det rfl rfl (Obl_det rfl rfl (Obl_nil ?_))
    refine Ex_q2 (Rq_pick rfl (fun _ => rfl) (fun h => by cases h)) ?_; first | exact rfl | rfl
   refine Obls_cons ?_ ?_
   ·intro wq hbq
    refine Obl_det rfl rfl (Obl_nil ?_)
    refine Ex_q2 (Rq_move rfl) ?_; first | exact rfl | rfl
   refine Obls_cons ?_ ?_
   ·intro wq hbq
    refine Obl_nil ?_
    refine Ex_q2 (Rq_move rfl) ?_; first | exact rfl | rfl
   refine Obls_cons ?_ ?_
   ·intro wq hbq
    refine Obl_det rfl rfl (Obl_nil (Ex_q2 (Rq_eql rfl rfl) ?_));exact congrArg Value.bool (decide_eq_true rfl).symm
   refine Obls_cons ?_ ?_
   ·intro wq hbq
    refine Obl_det rfl rfl (Obl_det rfl rfl (Obl_nil ?_))
    refine Ex_q2 (Rq_pick rfl (fun _ => rfl) (fun h => by cases h)) ?_; first | exact rfl | rfl
   refine Obls_cons ?_ ?_
   ·intro wq hbq
    refine Obl_det rfl rfl (Obl_nil ?_)
    refine Ex_q2 (Rq_move rfl) ?_; first | exact rfl | rfl
   refine Obls_cons ?_ ?_
   ·intro wq hbq
    refine Obl_nil ?_
    refine Ex_q2 (Rq_fieldAddr fa26_1 rfl) ?_; first | exact rfl | rfl
   refine Obls_cons ?_ ?_
   ·intro wq hbq
    refine Obl_det rfl rfl (Obl_nil ?_)
    refine Ex_q2 (Rq_loadB ((hBs10x9).below hbq) Tryz.isAgg23 rfl rfl) ?_; first | exact rfl | rfl
   refine Obls_cons ?_ ?_
   ·intro wq hbq
    refine Obl_det rfl rfl (Obl_nil ?_)
    refine Ex_q2 (Rq_index (hsOe.below hbq) Tryz.runUnderlying23 Tryz.sizeOf76 rfl rfl (by decide) (by decide)) ?_; first | exact rfl | rfl
   refine Obls_cons ?_ ?_
   ·intro wq hbq
    refine Obl_det rfl rfl (Obl_nil ?_)
    refine Ex_q2 (Rq_loadA Tryz.isAgg76 Tryz.sizeOf76 rfl ((hsOe.cells 3 _ rfl).below hbq) rfl) ?_; first | exact rfl | rfl
   refine Obls_cons ?_ ?_
   ·intro wq hbq
    refine Obl_nil ?_
    refine Ex_call rfl Tryz.call38 (fn_det2 (f38_c _ _ _ _) ?_); first | exact rfl | rfl
   refine Obls_cons ?_ ?_
   ·intro wq hbq
    refine Obl_det rfl rfl (Obl_det rfl rfl (Obl_nil (Ex_q2 (Rq_eqlS (fun w => eq76 ⟨7, 1, 1, 0, 0⟩ ⟨7, 1, 1, 0, 0⟩ w) eg76 rfl rfl) ?_)));exact congrArg Value.bool (decide_eq_true rfl).symm
   refine Obls_cons ?_ ?_
   ·intro wq hbq
    refine Obl_det rfl rfl (Obl_det rfl rfl (Obl_nil ?_))
    refine Ex_q2 (Rq_pick rfl (fun _ => rfl) (fun h => by cases h)) ?_; first | exact rfl | rfl
   exact Obls_nil
  ·intro wa14 hba14
   replace hb0 := btr hb0 hba14;refine Fin_det rfl (Fin_det rfl (Fin_frs rfl ?_)); intro v148 lo148 hi148 hR148 hlB148 hlh148 hhw148 hdj148;refine Fin_frs rfl ?_; intro v149 lo149 hi149 hR149 hlB149 hlh149 hhw149 hdj149;refine Fin_det rfl (Fin_det rfl (Fin_det rfl (Fin_det rfl (Fin_det rfl (Fin_frs rfl ?_))))); intro v155 lo155 hi155 hR155 hlB155 hlh155 hhw155 hdj155;refine Fin_frs rfl ?_; intro v156 lo156 hi156 hR156 hlB156 hlh156 hhw156 hdj156;refine Fin_det rfl (Fin_det rfl (Fin_det rfl (Fin_det rfl (Fin_det rfl (Fin_frs rfl ?_))))); intro v162 lo162 hi162 hR162 hlB162 hlh162 hhw162 hdj162;refine Fin_det rfl (Fin_det rfl (Fin_det rfl (Fin_det rfl (Fin_det rfl (Fin_det rfl (Fin_det rfl (Fin_det rfl (Fin_det rfl (Fin_det rfl (Fin_det rfl (Fin_det rfl (Fin_det rfl (Fin_det rfl (Fin_det rfl (Fin_det rfl (Fin_det rfl (Fin_det rfl (Fin_det rfl (Fin_det rfl (Fin_det rfl (Fin_det rfl (Fin_det rfl (Fin_det rfl (Fin_det rfl (Fin_det rfl (Fin_det rfl (Fin_det rfl (Fin_det rfl (Fin_det rfl (Fin_det rfl (Fin_det rfl (Fin_det rfl (Fin_det rfl (Fin_det rfl (Fin_det rfl (Fin_nil ?_))))))))))))))))))))))))))))))))))))
   simp only [List.drop_succ_cons, List.drop_zero]
   refine SG_q (Rq_assign rfl) rfl (SG_nil (D_then (W_ret (D_body1 rfl rfl rfl ?_))));exact ⟨rfl, hb0⟩
end Go.Proofs.YtphmoebiobjfhaaGreat
