/- Walks of functions, printed by a program of the author. -/
import Derived.Test.YtphmoebiobjfhaaGreatT5
set_option linter.all false
namespace Go.Proofs.YtphmoebiobjfhaaGreat
open Go Go.Mi Go.RowKit
theorem info4 : (Tryz.prog.info? 4).map (fun i => (i.zero, i.size, i.bytes)) = some (some (Value.bool false), 1, 1) := by kernel_rfl
theorem f60_c (p : Value) (h1 : one1 p = true) (w : World) : Mi.Fn Tryz.prog 60 #[p] w (fun v w' => ∃ c, v = .func (.func 74) #[] #[.pointer (some ⟨c, 0, none⟩)] ∧ Blk w' c [p] 113 ∧ w.heap.size ≤ c) := by
 have hb0 := Below.refl w.heap.size w;refine calls_of_W Tryz.func60 rfl Tryz.ntmps60 rfl ?_;refine W_seq (W_region (SG_box rfl (cells_one h1) rfl ?_));intro w1 b1 e1 hb1 hz1 hB1
 have hle1 : w.heap.size ≤ b1 := by have := hb0.size; omega
 replace hb0 := btr hb0 hb1;refine SG_q (Rq_assign rfl) rfl (SG_nil (D_then (W_seq (W_region (SG_q (Rq_makeFunc rfl) rfl (SG_q (Rq_assign rfl) rfl (SG_nil (D_then (W_ret (D_body1 rfl rfl rfl ?_))))))))));exact ⟨_, rfl, hb0, _, rfl, hB1, hle1⟩
set_option maxHeartbeats 1000000 in
theorem f59_c {bs : Nat} {vC vO vR u0 t0 m0 : Value} {C : Co} {w : World} (hSt : Blk w bs [vC, vO, vR, u0, t0, m0] 92) (hO : SL w vO 5 encO C.ops) (hR : SL w vR 1 encI C.roots) (hck : checkR C = 0) (nO : 0 < C.ops.length → sb vO ≠ bs) (nR : 0 < C.roots.length → sb vR ≠ bs) :
  Calls Tryz.prog 59 #[.pointer (some ⟨bs, 0, none⟩)] w fun e w' => ∃ rM vU vT, e = .returned (.tuple #[]) ∧ Chg (· = bs) w w' ∧ Blk w' bs [vC, vO, vR, vU, vT, .map (some rM)] 92 ∧ OS w' vU 4 1 encB (usedR C) w.heap.size ∧ OS w' vT 4 1 encB (truthsR C.ops) w.heap.size ∧ Mp w' rM valO valI (firstR C.ops) ∧ w.heap.size ≤ rM ∧ (∀ b, vU.ownBlock = some b → vT.ownBlock ≠ some b) := by
 obtain ⟨⟨hl1, hl2, hl3⟩, hroots, hops⟩ := check_ok hck;have hbs0 := hSt.lt;have hb0 := Below.refl w.heap.size w;refine calls_of_WM Tryz.func59 rfl Tryz.ntmps59 rfl ?_;refine W_seq (W_region (SG_box rfl rfl rfl ?_));intro w1 b1 e1 hb1 hz1 hB1
 have hle1 : w.heap.size ≤ b1 := by have := hb0.size; omega
 replace hb0 := btr hb0 hb1;refine SG_nil (D_then (W_seq ?_));have hSt1 := hSt.below hb0;have hbsl := hSt1.lt
 have hne1 : ¬ b1 = bs := by omega
 have hO1 := hO.below hb0;have hR1 := hR.below hb0
 refine W_anyG 27 [[], [], [], [], [3], [4], [5], [6], [7], [8], [], [10], [11], [12], [13], [14], [15], [], [0], [18], [19, 9], [1], [21], [22, 16], [2], [24], [25, 17]] [StE bs 3 92, StE bs 4 92, StE bs 5 92] (fun w' => Chg (· = bs) w1 w' ∧ ∃ u t m, Blk w' bs [vC, vO, vR, u, t, m] 92) [gdet [] ?a1_0n1, gdet [] ?a1_1n1, gdet [] ?a1_2n1, gdet [] ?a1_3n1, gdet [3] ?a1_4n1, gdet [4] ?a1_5n1, gdet [5] ?a1_6n1, gdet [6] ?a1_7n1, gdet [7] ?a1_8n1, gfrs [8] (OsR w1.heap.size 4 1 encB (List.replicate C.ops.length false)), gdet [] ?a1_10n1, gdet [10] ?a1_11n1, gdet [11] ?a1_12n1, gdet [12] ?a1_13n1, gdet [13] ?a1_14n1, gdet [14] ?a1_15n1, gfrs [15] (OsR w1.heap.size 4 1 encB (List.replicate C.ops.length false)), gfrs [] (MpR valO valI ([] : List (Ot × Int))), gdet [0] ?a1_18n1, gdet [18] ?a1_19n1, gst 0 [19, 9] (fun vs w' => w'.cell? ⟨bs, 3, none⟩ = vs[1]?), gdet [1] ?a1_21n1, gdet [21] ?a1_22n1, gst 1 [22, 16] (fun vs w' => w'.cell? ⟨bs, 4, none⟩ = vs[1]?), gdet [2] ?a1_24n1, gdet [24] ?a1_25n1, gst 2 [25, 17] (fun vs w' => w'.cell? ⟨bs, 5, none⟩ = vs[1]?)] Tryz.mixed (by kernel_rfl) (by kernel_rfl) rfl rfl (fun k w w' hb he => by
   obtain ⟨hcb, uq, tq, mq, hStb⟩ := hb
   match k, he with
   | 0, he => exact ⟨⟨hcb.trans (Chg.of_below _ he), _, _, _, hStb.below he⟩, he.size⟩
   | 1, ⟨h1, h2, cs, v, h3, h4⟩ =>
    obtain rfl := h3.inj hStb;exact ⟨⟨hcb.trans h1, _, _, _, h4⟩, Nat.le_of_eq h2.symm⟩
   | 2, ⟨h1, h2, cs, v, h3, h4⟩ =>
    obtain rfl := h3.inj hStb;exact ⟨⟨hcb.trans h1, _, _, _, h4⟩, Nat.le_of_eq h2.symm⟩
   | 3, ⟨h1, h2, cs, v, h3, h4⟩ =>
    obtain rfl := h3.inj hStb
    exact ⟨⟨hcb.trans h1, _, _, _, h4⟩, Nat.le_of_eq h2.symm⟩) (GStab.of rfl ?_) ⟨Chg.refl _ _, _, _, _, hSt1⟩ (fun h => by obtain ⟨hcb, uq, tq, mq, hStb⟩ := h; exact ⟨⟨hcb.os, hcb.tape, hcb.output, hcb.size, hcb.block⟩, uq, tq, mq, hStb⟩) ?_ ?_; rotate_left 21
 ·skip
  refine AllSt_det ?_;refine AllSt_det ?_;refine AllSt_det ?_;refine AllSt_det ?_;refine AllSt_det ?_;refine AllSt_det ?_;refine AllSt_det ?_;refine AllSt_det ?_;refine AllSt_det ?_
  refine AllSt_frs (fun k u w w' lo hi hb he hl hr => by
   obtain ⟨hcb, uq, tq, mq, hStb⟩ := hb;obtain ⟨r1, r2, r3⟩ := hr;have hlt1 := hSt1.lt
   match k, he with
   | 0, he => exact ⟨r1.below he, r2, r3⟩
   | 1, he => exact ⟨r1.chg he.1 (fun b e ee => by have := (r1.lt e).1; omega), r2, r3⟩
   | 2, he => exact ⟨r1.chg he.1 (fun b e ee => by have := (r1.lt e).1; omega), r2, r3⟩
   | 3, he => exact ⟨r1.chg he.1 (fun b e ee => by have := (r1.lt e).1; omega), r2, r3⟩) ?_
  refine AllSt_det ?_;refine AllSt_det ?_;refine AllSt_det ?_;refine AllSt_det ?_;refine AllSt_det ?_;refine AllSt_det ?_
  refine AllSt_frs (fun k u w w' lo hi hb he hl hr => by
   obtain ⟨hcb, uq, tq, mq, hStb⟩ := hb;obtain ⟨r1, r2, r3⟩ := hr;have hlt1 := hSt1.lt
   match k, he with
   | 0, he => exact ⟨r1.below he, r2, r3⟩
   | 1, he => exact ⟨r1.chg he.1 (fun b e ee => by have := (r1.lt e).1; omega), r2, r3⟩
   | 2, he => exact ⟨r1.chg he.1 (fun b e ee => by have := (r1.lt e).1; omega), r2, r3⟩
   | 3, he => exact ⟨r1.chg he.1 (fun b e ee => by have := (r1.lt e).1; omega), r2, r3⟩) ?_
  refine AllSt_frs (fun k u w w' lo hi hb he hl hr => by
   obtain ⟨hcb, uq, tq, mq, hStb⟩ := hb;obtain ⟨r, r1, r2, r3⟩ := hr
   match k, he with
   | 0, he => exact ⟨r, r1, r2.below he, r3⟩
   | 1, he => exact ⟨r, r1, r2.chg he.1 (fun e => r2.ne hStb e), r3⟩
   | 2, he => exact ⟨r, r1, r2.chg he.1 (fun e => r2.ne hStb e), r3⟩
   | 3, he => exact ⟨r, r1, r2.chg he.1 (fun e => r2.ne hStb e), r3⟩) ?_
  refine AllSt_det ?_;refine AllSt_det ?_
  refine AllSt_st (fun k vs w w' hk hb he hr => by
   obtain ⟨hcb, uq, tq, mq, hStb⟩ := hb
   match k, he with
   | 0, he => rw [(hStb.below he).cell]; rw [hStb.cell] at hr; exact hr
   | 1, he => omega
   | 2, he => exact he.cell (by decide) hr
   | 3, he => exact he.cell (by decide) hr) ?_
  refine AllSt_det ?_;refine AllSt_det ?_
  refine AllSt_st (fun k vs w w' hk hb he hr => by
   obtain ⟨hcb, uq, tq, mq, hStb⟩ := hb
   match k, he with
   | 0, he => rw [(hStb.below he).cell]; rw [hStb.cell] at hr; exact hr
   | 1, he => exact he.cell (by decide) hr
   | 2, he => omega
   | 3, he => exact he.cell (by decide) hr) ?_
  refine AllSt_det ?_;refine AllSt_det ?_
  refine AllSt_st (fun k vs w w' hk hb he hr => by
   obtain ⟨hcb, uq, tq, mq, hStb⟩ := hb
   match k, he with
   | 0, he => rw [(hStb.below he).cell]; rw [hStb.cell] at hr; exact hr
   | 1, he => exact he.cell (by decide) hr
   | 2, he => exact he.cell (by decide) hr
   | 3, he => omega) ?_
  exact AllSt_nil
 ·refine GObls_cons ?_ ?_
  ·intro wq hq hzq
   obtain ⟨hcq, uq, tq, mq, hStq⟩ := hq;have hB1q := hB1.chg hcq hne1;have hOq := hO1.chg hcq nO;refine GObl_nil ?_
   refine GEx_q2 (Rq_loadB (hB1q) Tryz.isAgg79 rfl rfl) ?_; first | exact rfl | rfl
  refine GObls_cons ?_ ?_
  ·intro wq hq hzq
   obtain ⟨hcq, uq, tq, mq, hStq⟩ := hq;have hB1q := hB1.chg hcq hne1;have hOq := hO1.chg hcq nO;refine GObl_nil ?_
   refine GEx_q2 (Rq_loadB (hB1q) Tryz.isAgg79 rfl rfl) ?_; first | exact rfl | rfl
  refine GObls_cons ?_ ?_
  ·intro wq hq hzq
   obtain ⟨hcq, uq, tq, mq, hStq⟩ := hq;have hB1q := hB1.chg hcq hne1;have hOq := hO1.chg hcq nO;refine GObl_nil ?_
   refine GEx_q2 (Rq_loadB (hB1q) Tryz.isAgg79 rfl rfl) ?_; first | exact rfl | rfl
  refine GObls_cons ?_ ?_
  ·intro wq hq hzq
   obtain ⟨hcq, uq, tq, mq, hStq⟩ := hq;have hB1q := hB1.chg hcq hne1;have hOq := hO1.chg hcq nO;refine GObl_nil ?_
   refine GEx_q2 (Rq_loadB (hB1q) Tryz.isAgg79 rfl rfl) ?_; first | exact rfl | rfl
  refine GObls_cons ?_ ?_
  ·intro wq hq hzq
   obtain ⟨hcq, uq, tq, mq, hStq⟩ := hq;have hB1q := hB1.chg hcq hne1;have hOq := hO1.chg hcq nO;refine GObl_det rfl rfl rfl (GObl_nil ?_)
   refine GEx_q2 (Rq_nilCheck rfl) ?_; first | exact rfl | rfl
  refine GObls_cons ?_ ?_
  ·intro wq hq hzq
   obtain ⟨hcq, uq, tq, mq, hStq⟩ := hq;have hB1q := hB1.chg hcq hne1;have hOq := hO1.chg hcq nO;refine GObl_det rfl rfl rfl (GObl_nil ?_)
   refine GEx_q2 (Rq_fieldAddr fa92_0 rfl) ?_; first | exact rfl | rfl
  refine GObls_cons ?_ ?_
  ·intro wq hq hzq
   obtain ⟨hcq, uq, tq, mq, hStq⟩ := hq;have hB1q := hB1.chg hcq hne1;have hOq := hO1.chg hcq nO;refine GObl_det rfl rfl rfl (GObl_nil ?_)
   refine GEx_q2 (Rq_fieldAddr fa26_1 rfl) ?_; first | exact rfl | rfl
  refine GObls_cons ?_ ?_
  ·intro wq hq hzq
   obtain ⟨hcq, uq, tq, mq, hStq⟩ := hq;have hB1q := hB1.chg hcq hne1;have hOq := hO1.chg hcq nO;refine GObl_det rfl rfl rfl (GObl_nil ?_)
   refine GEx_q2 (Rq_loadB (hStq) Tryz.isAgg23 rfl rfl) ?_; first | exact rfl | rfl
  refine GObls_cons ?_ ?_
  ·intro wq hq hzq
   obtain ⟨hcq, uq, tq, mq, hStq⟩ := hq;have hB1q := hB1.chg hcq hne1;have hOq := hO1.chg hcq nO;refine GObl_det rfl rfl rfl (GObl_nil ?_)
   first | (refine GEx_q2 (Rq_len ((hL.sO).below (btr hb0 hq)) Tryz.runUnderlying23 rfl) ?_; first | exact rfl | rfl) | (refine GEx_q2 (Rq_len ((hL.sR).below (btr hb0 hq)) Tryz.runUnderlying23 rfl) ?_; first | exact rfl | rfl) | (refine GEx_q2 (Rq_len (hOq) Tryz.runUnderlying23 rfl) ?_; first | exact rfl | rfl) | (refine GEx_q2 (Rq_len (hRq) Tryz.runUnderlying23 rfl) ?_; first | exact rfl | rfl)
  refine GObls_cons ?_ ?_
  ·intro wq hq hzq
   obtain ⟨hcq, uq, tq, mq, hStq⟩ := hq;have hB1q := hB1.chg hcq hne1;have hOq := hO1.chg hcq nO;refine GObl_det rfl rfl rfl (GObl_nil ?_);exact GEx.of (Ex_make1 (ds := []) hzq Tryz.underlying54 info4 rfl rfl (by omega) (by omega) rfl (fun _ => rfl))
  refine GObls_cons ?_ ?_
  ·intro wq hq hzq
   obtain ⟨hcq, uq, tq, mq, hStq⟩ := hq;have hB1q := hB1.chg hcq hne1;have hOq := hO1.chg hcq nO;refine GObl_nil ?_
   refine GEx_q2 (Rq_loadB (hB1q) Tryz.isAgg79 rfl rfl) ?_; first | exact rfl | rfl
  refine GObls_cons ?_ ?_
  ·intro wq hq hzq
   obtain ⟨hcq, uq, tq, mq, hStq⟩ := hq;have hB1q := hB1.chg hcq hne1;have hOq := hO1.chg hcq nO;refine GObl_det rfl rfl rfl (GObl_nil ?_)
   refine GEx_q2 (Rq_nilCheck rfl) ?_; first | exact rfl | rfl
  refine GObls_cons ?_ ?_
  ·intro wq hq hzq
   obtain ⟨hcq, uq, tq, mq, hStq⟩ := hq;have hB1q := hB1.chg hcq hne1;have hOq := hO1.chg hcq nO;refine GObl_det rfl rfl rfl (GObl_nil ?_)
   refine GEx_q2 (Rq_fieldAddr fa92_0 rfl) ?_; first | exact rfl | rfl
  refine GObls_cons ?_ ?_
  ·intro wq hq hzq
   obtain ⟨hcq, uq, tq, mq, hStq⟩ := hq;have hB1q := hB1.chg hcq hne1;have hOq := hO1.chg hcq nO;refine GObl_det rfl rfl rfl (GObl_nil ?_)
   refine GEx_q2 (Rq_fieldAddr fa26_1 rfl) ?_; first | exact rfl | rfl
  refine GObls_cons ?_ ?_
  ·intro wq hq hzq
   obtain ⟨hcq, uq, tq, mq, hStq⟩ := hq;have hB1q := hB1.chg hcq hne1;have hOq := hO1.chg hcq nO;refine GObl_det rfl rfl rfl (GObl_nil ?_)
   refine GEx_q2 (Rq_loadB (hStq) Tryz.isAgg23 rfl rfl) ?_; first | exact rfl | rfl
  refine GObls_cons ?_ ?_
  ·intro wq hq hzq
   obtain ⟨hcq, uq, tq, mq, hStq⟩ := hq;have hB1q := hB1.chg hcq hne1;have hOq := hO1.chg hcq nO;refine GObl_det rfl rfl rfl (GObl_nil ?_)
   first | (refine GEx_q2 (Rq_len ((hL.sO).below (btr hb0 hq)) Tryz.runUnderlying23 rfl) ?_; first | exact rfl | rfl) | (refine GEx_q2 (Rq_len ((hL.sR).below (btr hb0 hq)) Tryz.runUnderlying23 rfl) ?_; first | exact rfl | rfl) | (refine GEx_q2 (Rq_len (hOq) Tryz.runUnderlying23 rfl) ?_; first | exact rfl | rfl) | (refine GEx_q2 (Rq_len (hRq) Tryz.runUnderlying23 rfl) ?_; first | exact rfl | rfl)
  refine GObls_cons ?_ ?_
  ·intro wq hq hzq
   obtain ⟨hcq, uq, tq, mq, hStq⟩ := hq;have hB1q := hB1.chg hcq hne1;have hOq := hO1.chg hcq nO;refine GObl_det rfl rfl rfl (GObl_nil ?_);exact GEx.of (Ex_make1 (ds := []) hzq Tryz.underlying54 info4 rfl rfl (by omega) (by omega) rfl (fun _ => rfl))
  refine GObls_cons ?_ ?_
  ·intro wq hq hzq
   obtain ⟨hcq, uq, tq, mq, hStq⟩ := hq;have hB1q := hB1.chg hcq hne1;have hOq := hO1.chg hcq nO;refine GObl_nil ?_;exact GEx.of (Ex_makeMap (ds := []))
  refine GObls_cons ?_ ?_
  ·intro wq hq hzq
   obtain ⟨hcq, uq, tq, mq, hStq⟩ := hq;have hB1q := hB1.chg hcq hne1;have hOq := hO1.chg hcq nO;refine GObl_det rfl rfl rfl (GObl_nil ?_)
   refine GEx_q2 (Rq_nilCheck rfl) ?_; first | exact rfl | rfl
  refine GObls_cons ?_ ?_
  ·intro wq hq hzq
   obtain ⟨hcq, uq, tq, mq, hStq⟩ := hq;have hB1q := hB1.chg hcq hne1;have hOq := hO1.chg hcq nO;refine GObl_det rfl rfl rfl (GObl_nil ?_)
   refine GEx_q2 (Rq_fieldAddr fa92_1 rfl) ?_; first | exact rfl | rfl
  refine GObls_cons ?_ ?_
  ·intro wq hq hzq
   obtain ⟨hcq, uq, tq, mq, hStq⟩ := hq;have hB1q := hB1.chg hcq hne1;have hOq := hO1.chg hcq nO;refine GObl_det rfl rfl rfl ?_;refine GObl_frs rfl rfl rfl ?_; intro v18 lo18 hi18 hle18 hR18;refine GObl_nil ?_;obtain ⟨hO18, hb18, a18, n18, c18, rfl⟩ := hR18;exact GEx_st1 hStq rfl rfl rfl Tryz.sizeOf54 rfl rfl (fun w' h => by rw [h.cell]; rfl)
  refine GObls_cons ?_ ?_
  ·intro wq hq hzq
   obtain ⟨hcq, uq, tq, mq, hStq⟩ := hq;have hB1q := hB1.chg hcq hne1;have hOq := hO1.chg hcq nO;refine GObl_det rfl rfl rfl (GObl_nil ?_)
   refine GEx_q2 (Rq_nilCheck rfl) ?_; first | exact rfl | rfl
  refine GObls_cons ?_ ?_
  ·intro wq hq hzq
   obtain ⟨hcq, uq, tq, mq, hStq⟩ := hq;have hB1q := hB1.chg hcq hne1;have hOq := hO1.chg hcq nO;refine GObl_det rfl rfl rfl (GObl_nil ?_)
   refine GEx_q2 (Rq_fieldAddr fa92_2 rfl) ?_; first | exact rfl | rfl
  refine GObls_cons ?_ ?_
  ·intro wq hq hzq
   obtain ⟨hcq, uq, tq, mq, hStq⟩ := hq;have hB1q := hB1.chg hcq hne1;have hOq := hO1.chg hcq nO;refine GObl_det rfl rfl rfl ?_;refine GObl_frs rfl rfl rfl ?_; intro v25 lo25 hi25 hle25 hR25;refine GObl_nil ?_;obtain ⟨hO25, hb25, a25, n25, c25, rfl⟩ := hR25;exact GEx_st1 hStq rfl rfl rfl Tryz.sizeOf54 rfl rfl (fun w' h => by rw [h.cell]; rfl)
  refine GObls_cons ?_ ?_
  ·intro wq hq hzq
   obtain ⟨hcq, uq, tq, mq, hStq⟩ := hq;have hB1q := hB1.chg hcq hne1;have hOq := hO1.chg hcq nO;refine GObl_det rfl rfl rfl (GObl_nil ?_)
   refine GEx_q2 (Rq_nilCheck rfl) ?_; first | exact rfl | rfl
  refine GObls_cons ?_ ?_
  ·intro wq hq hzq
   obtain ⟨hcq, uq, tq, mq, hStq⟩ := hq;have hB1q := hB1.chg hcq hne1;have hOq := hO1.chg hcq nO;refine GObl_det rfl rfl rfl (GObl_nil ?_)
   refine GEx_q2 (Rq_fieldAddr fa92_3 rfl) ?_; first | exact rfl | rfl
  refine GObls_cons ?_ ?_
  ·intro wq hq hzq
   obtain ⟨hcq, uq, tq, mq, hStq⟩ := hq;have hB1q := hB1.chg hcq hne1;have hOq := hO1.chg hcq nO;refine GObl_det rfl rfl rfl ?_;refine GObl_frs rfl rfl rfl ?_; intro v26 lo26 hi26 hle26 hR26;refine GObl_nil ?_;obtain ⟨r26, rfl, hM26, hr26⟩ := hR26;exact GEx_st1 hStq rfl rfl rfl Tryz.sizeOf90 rfl rfl (fun w' h => by rw [h.cell]; rfl)
  exact GObls_nil
 ·intro wa1 hba1 hzz1
  refine GFin_det rfl ?_;refine GFin_det rfl ?_;refine GFin_det rfl ?_;refine GFin_det rfl ?_;refine GFin_det rfl ?_;refine GFin_det rfl ?_;refine GFin_det rfl ?_;refine GFin_det rfl ?_;refine GFin_det rfl ?_;refine GFin_frs rfl ?_; intro v18 lo18 hi18 hR18 hlB18 hlh18 hhw18 hdj18;refine GFin_det rfl ?_;refine GFin_det rfl ?_;refine GFin_det rfl ?_;refine GFin_det rfl ?_;refine GFin_det rfl ?_;refine GFin_det rfl ?_;refine GFin_frs rfl ?_; intro v25 lo25 hi25 hR25 hlB25 hlh25 hhw25 hdj25;refine GFin_frs rfl ?_; intro v26 lo26 hi26 hR26 hlB26 hlh26 hhw26 hdj26;refine GFin_det rfl ?_;refine GFin_det rfl ?_;refine GFin_st rfl ?_; intro hs1x20 _; simp only [List.nil_append, List.cons_append, List.map_cons, List.map_nil, List.getD_cons_succ, List.getD_cons_zero, List.getElem?_cons_succ, List.getElem?_cons_zero] at hs1x20;refine GFin_det rfl ?_;refine GFin_det rfl ?_;refine GFin_st rfl ?_; intro hs1x23 _; simp only [List.nil_append, List.cons_append, List.map_cons, List.map_nil, List.getD_cons_succ, List.getD_cons_zero, List.getElem?_cons_succ, List.getElem?_cons_zero] at hs1x23;refine GFin_det rfl ?_;refine GFin_det rfl ?_;refine GFin_st rfl ?_; intro hs1x26 _; simp only [List.nil_append, List.cons_append, List.map_cons, List.map_nil, List.getD_cons_succ, List.getD_cons_zero, List.getElem?_cons_succ, List.getElem?_cons_zero] at hs1x26;refine GFin_nil ?_
  simp only [List.drop_succ_cons, List.drop_zero]
  obtain ⟨hch1, uq, tq, mq, hSq⟩ := hba1;have e18 : uq = v18 := Option.some.inj ((Blk.cell (o := 3) hSq).symm.trans hs1x20);have e25 : tq = v25 := Option.some.inj ((Blk.cell (o := 4) hSq).symm.trans hs1x23);have e26 : mq = v26 := Option.some.inj ((Blk.cell (o := 5) hSq).symm.trans hs1x26);obtain ⟨r26, hv26, hM26, hr26, hq26⟩ := hR26;rw [e18, e25, e26, hv26] at hSq;have hw1 := hb0.size;have hlb1 := hB1.lt
  have hL : Lk (⟨84, 76, 3, 4, 92⟩ : StTy) w wa1 wa1.heap.size bs b1 r26 79 vC vO vR v18 v25 C (List.replicate C.ops.length false) (List.replicate C.ops.length false) [] [] := ⟨(Chg.of_below _ hb0).trans (hch1.mono fun k _ e => .inr e), hSq, hB1.chg hch1 hne1, hO1.chg hch1 nO, hR1.chg hch1 nR, hR18.1.le hw1, hR25.1.le hw1, hM26, Marks.nil _, hbs0, hle1, by omega, (fun D hD => by simp at hD), by omega, hM26.lt, (fun b e => ⟨(hR18.1.lt e).2, by have := (hR18.1.lt e).1; omega⟩), (fun b e => ⟨(hR25.1.lt e).2, by have := (hR25.1.lt e).1; omega⟩), (fun b e e2 => by have h1 := hR18.2.1 b e; have h2 := hR25.2.1 b e2; have h3 := hdj25 _ (List.mem_cons_self ..); dsimp only at h3; omega), (fun hp => ⟨hO.lt hp, nO hp⟩), (fun hp => ⟨hR.lt hp, nR hp⟩), by omega, Nat.le_refl _⟩
  clear hb0;have hb0 := Below.refl wa1.heap.size wa1;refine SG_nil (D_then (W_seq (W_seq (W_region (SG_q (Rq_loadB (hL.bx) Tryz.isAgg79 rfl rfl) rfl (SG_q (Rq_nilCheck rfl) rfl (SG_q (Rq_fieldAddr fa92_0 rfl) rfl (SG_q (Rq_fieldAddr fa26_1 rfl) rfl (SG_q (Rq_loadB (hL.blk) Tryz.isAgg23 rfl rfl) rfl ?_)))))))))
  first | refine SG_q (Rq_len (hL.sO) Tryz.runUnderlying23 rfl) rfl ?_ | refine SG_q (Rq_len (hL.sR) Tryz.runUnderlying23 rfl) rfl ?_ | refine SG_q (Rq_len ((hO).below hb0) Tryz.runUnderlying23 rfl) rfl ?_ | refine SG_q (Rq_len ((hR).below hb0) Tryz.runUnderlying23 rfl) rfl ?_
  refine SG_q (Rq_move rfl) rfl (SG_nil (D_then (W_block ?_)));refine W_loopD (α := Nat × List Nat × Nat) (fun x => [(39, .int .i64 (x.1 : Nat)), (38, .int .i64 (C.ops.length : Nat)), (1, .pointer (some ⟨b1, 0, none⟩))]) (fun x => marks x.2.1) (fun x w' => x.1 ≤ C.ops.length ∧ Lk (⟨84, 76, 3, 4, 92⟩ : StTy) w w' x.2.2 bs b1 r26 79 vC vO vR v18 v25 C (usI C x.1) (trI C x.1) (kvI C x.1) x.2.1) (fun x => C.ops.length - x.1) ((0, [], wa1.heap.size)) (by repeat (first | exact Sub.nil | refine Sub.cons rfl ?_)) (by rfl) ⟨Nat.zero_le _, hL⟩ ?_;clear hb0;clear hL;rintro x wl0 ⟨hx, hL⟩;have hb0 := Below.refl wl0.heap.size wl0;refine W_seq (W_region (SG_q (Rq_lss rfl rfl) rfl (SG_nil (D_then (W_seq ?_)))));refine W_cond rfl ?_ ?_
  ·intro g40
   try simp only [dd] at g40
   have hxl : x.1 < C.ops.length := by omega
   obtain ⟨y, hel⟩ : ∃ y, C.ops[x.1]? = some y := ⟨_, List.getElem?_eq_getElem hxl⟩
   have hbd := isOpB_bd (hops _ _ hel) hxl;refine W_skip (D_then (W_seq (W_block (W_seq (W_region (SG_q (Rq_move rfl) rfl (SG_q (Rq_assign rfl) rfl (SG_nil (D_then (W_seq (W_region (SG_q (Rq_loadB (hL.bx) Tryz.isAgg79 rfl rfl) rfl (SG_q (Rq_nilCheck rfl) rfl (SG_q (Rq_fieldAddr fa92_0 rfl) rfl (SG_q (Rq_fieldAddr fa26_1 rfl) rfl (SG_q (Rq_loadB (hL.blk) Tryz.isAgg23 rfl rfl) rfl (SG_q (Rq_move rfl) rfl ?_)))))))))))))))))
   first | refine SG_index (hL.sO) Tryz.runUnderlying23 Tryz.sizeOf76 rfl rfl ?_ ?_ rfl ?_ | refine SG_index (hL.sR) Tryz.runUnderlying23 Tryz.sizeOf76 rfl rfl ?_ ?_ rfl ?_ | refine SG_index ((hO).below hb0) Tryz.runUnderlying23 Tryz.sizeOf76 rfl rfl ?_ ?_ rfl ?_ | refine SG_index ((hR).below hb0) Tryz.runUnderlying23 Tryz.sizeOf76 rfl rfl ?_ ?_ rfl ?_
   ·omega
   ·omega
   intro x48 hx48 hc48;have ex48 := Option.some.inj ((hel).symm.trans hx48); subst ex48;refine SG_q (Rq_loadA Tryz.isAgg76 Tryz.sizeOf76 rfl ((hc48)) rfl) rfl (SG_alloc Tryz.zeroValue76 rfl rfl ?_);intro w3 b3 e3 hb3 hz3 hB3
   have hle3 : wl0.heap.size ≤ b3 := by have := hb0.size; omega
   have lt_hL_3 : x.2.2 ≤ b3 := by have := hL.topw; omega
   replace hb0 := btr hb0 hb3;replace hL := hL.below hb3;refine SG_storeW (hB3) rfl rfl rfl rfl Tryz.sizeOf76 rfl rfl ?_;intro ws5x9 hchs5x9 hBs5x9;replace hb0 := bchg hb0 hchs5x9 hle3;replace hL := hL.own hchs5x9 lt_hL_3;clear hc48;clear hB3;refine SG_nil ?_;refine D_then ?_;refine W_seq ?_;refine W_seq ?_;refine W_region ?_;refine SG_call rfl Tryz.call60 rfl (f60_c _ rfl _) ?_;rintro v50 w50 hb50 ⟨c50, rfl, hK50, hkl50⟩;replace hb0 := btr hb0 hb50;replace hL := hL.below hb50;replace hBs5x9 := hBs5x9.below hb50;refine SG_nil ?_;refine D_then ?_;refine W_block ?_;refine W_range rfl rfl Tryz.call74 (fun w' hb => f74_it (hK50.below hb) ((hBs5x9.below hb).cells rfl)) (fun k h => h.elim) (σ := List Bool) (fun pre us w' => Lk (⟨84, 76, 3, 4, 92⟩ : StTy) w w' x.2.2 bs b1 r26 79 vC vO vR v18 v25 C us (trI C x.1) (kvI C x.1) x.2.1 ∧ us = usedK (usI C x.1) y pre ∧ Blk w' b3 (encO y) 76) (fun _ _ _ _ => False) (fun _ k => v18.ownBlock = some k) (usI C x.1) (fun pre us w1 w2 h hc => ⟨h.1.chg hc (fun k hk e => e (.inl (by have := hL.topw; omega))) (fun k e => .inl (by have h1 : ¬ k < w50.heap.size := fun h => e (.inl h); have := hL.topw; have := hL.top0; omega)), h.2.1, h.2.2.chg hc (fun e => e (.inl hBs5x9.lt))⟩) (fun _ _ _ _ _ h _ => h) (fun pre us w1 k h hm => .inl ⟨by have := (hL.ut k hm).1; have := hL.topw; omega, fun h => h⟩) (fun _ _ _ _ _ h _ => h.elim) ⟨hL, rfl, hBs5x9⟩ ?_ ?_ ?_
   ·rintro pre j post us w6 hsp ⟨hL6, hus6, hB6⟩ hsz6
    have hb0 := Below.refl w6.heap.size w6;refine W_region ?_;refine SG_q (Rq_assign rfl) rfl ?_;refine SG_nil ?_;refine D_as ?_;rintro w7 ⟨⟨hL7, hus7, hB7⟩, hsz7, hrec7⟩;have hj : j < arN y.code := List.mem_range.1 (by rw [hsp]; exact List.mem_append_right _ (List.mem_cons_self ..))
    have hj3 : j < 3 := by have := arN_le y.code; omega
    have hob := opnd_bd hbd hj3
    have hul7 : us.length = C.ops.length := by rw [hus7, usedK, foldl_setB_length, usI_length]
    have hgu := getB_some hob.1 (show _ < (us.length : Int) by rw [hul7]; exact hob.2);have hb0 := Below.refl w7.heap.size w7;refine W_block ?_;refine W_any 8 [[], [0], [1], [2], [], [4], [5], [3, 6]] [det [] ?a8_0n2, det [0] ?a8_1n2, det [1] ?a8_2n2, det [2] ?a8_3n2, det [] ?a8_4n2, det [4] ?a8_5n2, det [5] ?a8_6n2, det [3, 6] ?a8_7n2] Tryz.mixed (by kernel_rfl) rfl ⟨det_stab _ _, det_stab _ _, det_stab _ _, det_stab _ _, det_stab _ _, det_stab _ _, det_stab _ _, det_stab _ _, trivial⟩ ?_ ?_; rotate_left 8
    ·refine Obls_cons ?_ ?_
     ·intro wq hbq
      refine Obl_nil ?_
      refine Ex_q2 (Rq_loadB ((hL7.bx).below hbq) Tryz.isAgg79 rfl rfl) ?_; first | exact rfl | rfl
     refine Obls_cons ?_ ?_
     ·intro wq hbq
      refine Obl_det rfl rfl (Obl_nil ?_)
      refine Ex_q2 (Rq_nilCheck rfl) ?_; first | exact rfl | rfl
     refine Obls_cons ?_ ?_
     ·intro wq hbq
      refine Obl_det rfl rfl (Obl_nil ?_)
      refine Ex_q2 (Rq_fieldAddr fa92_1 rfl) ?_; first | exact rfl | rfl
     refine Obls_cons ?_ ?_
     ·intro wq hbq
      refine Obl_det rfl rfl (Obl_nil ?_)
      refine Ex_q2 (Rq_loadB ((hL7.blk).below hbq) Tryz.isAgg54 rfl rfl) ?_; first | exact rfl | rfl
     refine Obls_cons ?_ ?_
     ·intro wq hbq
      refine Obl_nil ?_
      refine Ex_q2 (Rq_move rfl) ?_; first | exact rfl | rfl
     refine Obls_cons ?_ ?_
     ·intro wq hbq
      refine Obl_det rfl rfl (Obl_nil ?_)
      refine Ex_q2 (Rq_nilCheck rfl) ?_; first | exact rfl | rfl
     refine Obls_cons ?_ ?_
     ·intro wq hbq
      refine Obl_det rfl rfl (Obl_nil ?_)
      refine Ex_q2 (Rq_load Tryz.isAgg3 rfl (opnd_cell (hB7.below hbq) hj3)) ?_; first | exact rfl | rfl
     refine Obls_cons ?_ ?_
     ·intro wq hbq
      refine Obl_det rfl rfl (Obl_det rfl rfl (Obl_nil ?_))
      refine Ex_q2 (Rq_index (hL7.oU.sl.below hbq) Tryz.runUnderlying54 Tryz.sizeOf4 rfl rfl hob.1 (by rw [hul7]; exact hob.2)) ?_; first | exact rfl | rfl
     exact Obls_nil
    ·intro wa8 hba8
     replace hb0 := btr hb0 hba8;replace hL7 := hL7.below hba8;replace hB7 := hB7.below hba8;refine Fin_det rfl (Fin_det rfl (Fin_det rfl (Fin_det rfl (Fin_det rfl (Fin_det rfl (Fin_det rfl (Fin_det rfl (Fin_nil ?_))))))))
     simp only [List.drop_succ_cons, List.drop_zero]
     refine SG_storeE (n := 1) (o := 0) (elt := getB us ((opndR y).getD j 0)) (elt' := true) hL7.oU rfl rfl rfl rfl Tryz.sizeOf4 rfl hgu (Nat.le_refl 1) rfl ?_;intro ws8 hcs8 hOs8;have hcc8 := (Chg.of_below (fun b => v18.ownBlock = some b) hb0).trans hcs8;replace hL7 := hL7.setU hcs8 hOs8;replace hB7 := hB7.chg hcs8 (fun e => by have := (hL7.ut _ e).1; omega);clear hb0;have hb0 := Below.refl ws8.heap.size ws8;refine SG_nil ?_;refine D_block ?_
     exact fun a _ => ⟨setB us ((opndR y).getD j 0), ⟨hL7, by rw [hus7, usedK, usedK, List.foldl_append]; rfl, hB7⟩, hcc8, fun k _ h => h⟩
   ·rintro us w8 ⟨hL8, hus8, hB8⟩ hsz8 hmk8
    have hus9 : us = usI C (x.1 + 1) := by rw [hus8, usedK_range, usI_succ hel]
    subst hus9;clear hus8;replace hL8 := hL8.mark hmk8 (by have := hL.topw; omega);have hb0 := Below.refl w8.heap.size w8;refine D_block ?_;refine D_then ?_;refine W_seq ?_;refine W_any 9 [[], [0], [1], [2], [], [], [], [5, 6], [3, 4]] [det [] ?a9_0n3, det [0] ?a9_1n3, det [1] ?a9_2n3, det [2] ?a9_3n3, det [] ?a9_4n3, det [] ?a9_5n3, det [] ?a9_6n3, det [5, 6] ?a9_7n3, det [3, 4] ?a9_8n3] Tryz.mixed (by kernel_rfl) rfl ⟨det_stab _ _, det_stab _ _, det_stab _ _, det_stab _ _, det_stab _ _, det_stab _ _, det_stab _ _, det_stab _ _, det_stab _ _, trivial⟩ ?_ ?_; rotate_left 9
    ·refine Obls_cons ?_ ?_
     ·intro wq hbq
      refine Obl_nil ?_
      refine Ex_q2 (Rq_loadB ((hL8.bx).below hbq) Tryz.isAgg79 rfl rfl) ?_; first | exact rfl | rfl
     refine Obls_cons ?_ ?_
     ·intro wq hbq
      refine Obl_det rfl rfl (Obl_nil ?_)
      refine Ex_q2 (Rq_nilCheck rfl) ?_; first | exact rfl | rfl
     refine Obls_cons ?_ ?_
     ·intro wq hbq
      refine Obl_det rfl rfl (Obl_nil ?_)
      refine Ex_q2 (Rq_fieldAddr fa92_2 rfl) ?_; first | exact rfl | rfl
     refine Obls_cons ?_ ?_
     ·intro wq hbq
      refine Obl_det rfl rfl (Obl_nil ?_)
      refine Ex_q2 (Rq_loadB ((hL8.blk).below hbq) Tryz.isAgg54 rfl rfl) ?_; first | exact rfl | rfl
     refine Obls_cons ?_ ?_
     ·intro wq hbq
      refine Obl_nil ?_
      refine Ex_q2 (Rq_move rfl) ?_; first | exact rfl | rfl
     refine Obls_cons ?_ ?_
     ·intro wq hbq
      refine Obl_nil ?_
      refine Ex_q2 (Rq_loadB ((hL8.bx).below hbq) Tryz.isAgg79 rfl rfl) ?_; first | exact rfl | rfl
     refine Obls_cons ?_ ?_
     ·intro wq hbq
      refine Obl_nil ?_
      first | (refine Ex_q2 (Rq_loadBW ((hB8).below hbq) Tryz.isAgg76 Tryz.sizeOf76 rfl rfl) ?_; first | exact rfl | rfl) | (refine Ex_q2 (Rq_loadBA ((hB8).below hbq) Tryz.isAgg76 Tryz.sizeOf76 rfl rfl rfl) ?_; first | exact rfl | rfl)
     refine Obls_cons ?_ ?_
     ·intro wq hbq
      refine Obl_det rfl rfl (Obl_det rfl rfl (Obl_nil ?_))
      refine Ex_call rfl Tryz.call73 (fn_det2 (f73_c ((hL8.blk).below hbq) ((hL8.oT.sl).below hbq) hbd.b0 (by rw [trI_length (by omega)]; exact hbd.b1) hbd.c0 (by rw [trI_length (by omega)]; exact hbd.c1)) ?_); first | exact rfl | rfl
     refine Obls_cons ?_ ?_
     ·intro wq hbq
      refine Obl_det rfl rfl (Obl_det rfl rfl (Obl_nil ?_))
      refine Ex_q2 (Rq_index (hL8.oT.sl.below hbq) Tryz.runUnderlying54 Tryz.sizeOf4 rfl rfl (by omega) (by rw [trI_length (by omega)]; omega)) ?_; first | exact rfl | rfl
     exact Obls_nil
    ·intro wa9 hba9
     replace hb0 := btr hb0 hba9;replace hL8 := hL8.below hba9;replace hB8 := hB8.below hba9;refine Fin_det rfl (Fin_det rfl (Fin_det rfl (Fin_det rfl (Fin_det rfl (Fin_det rfl (Fin_det rfl (Fin_det rfl (Fin_det rfl (Fin_nil ?_)))))))))
     simp only [List.drop_succ_cons, List.drop_zero]
     have hgt := getB_some (l := trI C x.1) (i := (x.1 : Int)) (by omega) (by rw [trI_length (by omega)]; omega);refine SG_storeE (n := 1) (o := 0) (elt := getB (trI C x.1) (x.1 : Int)) (elt' := truthB (trI C x.1) y) hL8.oT rfl rfl rfl rfl Tryz.sizeOf4 rfl hgt (Nat.le_refl 1) rfl ?_;intro ws9 hcs9 hOs9;replace hL8 := hL8.setT (tr' := trI C (x.1 + 1)) hcs9 (by rw [trI_succ hel]; exact hOs9);replace hB8 := hB8.chg hcs9 (fun e => by have := (hL.tt _ e).1; omega);clear hb0;have hb0 := Below.refl ws9.heap.size ws9;refine SG_nil ?_;refine D_then ?_;refine W_seq ?_;refine W_quiet (Tryz.mixed) (by kernel_rfl) ?_;refine QS_q (Rq_loadB (hL8.bx) Tryz.isAgg79 rfl rfl) rfl ?_;refine QS_q (Rq_nilCheck rfl) rfl ?_;refine QS_q (Rq_fieldAddr fa92_3 rfl) rfl ?_;refine QS_q (Rq_loadB (hL8.blk) Tryz.isAgg90 rfl rfl) rfl ?_
     first | refine QS_q (Rq_loadBW (hB8) Tryz.isAgg76 Tryz.sizeOf76 rfl rfl) rfl ?_ | refine QS_q (Rq_loadBA (hB8) Tryz.isAgg76 Tryz.sizeOf76 rfl rfl rfl) rfl ?_
     refine QS_q (Rq_lookupI2 key76 Tryz.runUnderlying90 (hL8.mp) y Tryz.zeroValue3 rfl rfl) rfl (QS_q (Rq_move rfl) rfl (QS_q (Rq_extract rfl rfl) rfl (QS_q (Rq_extract rfl rfl) rfl (QS_q (Rq_assign rfl) rfl (QS_q (Rq_assign rfl) rfl (QS_nil ?_))))));intro wr10 hbr10;replace hb0 := btr hb0 hbr10;replace hL8 := hL8.below hbr10;replace hB8 := hB8.below hbr10;refine D_then (W_seq (W_region (SG_q (Rq_move rfl) rfl (SG_q (Rq_not rfl) rfl (SG_nil (D_then ?_))))));refine W_cond rfl ?_ ?_
     ·intro g79
      try simp only [dd] at g79
      have hkv : kvI C (x.1 + 1) = kvI C x.1 ++ [(y, (x.1 : Int))] := by rw [kvI_succ hel, if_neg (by simp [g79])]
      refine W_any 6 [[], [0], [1], [2], [], []] [det [] ?a12_0n4, det [0] ?a12_1n4, det [1] ?a12_2n4, det [2] ?a12_3n4, det [] ?a12_4n4, det [] ?a12_5n4] Tryz.mixed (by kernel_rfl) rfl ⟨det_stab _ _, det_stab _ _, det_stab _ _, det_stab _ _, det_stab _ _, det_stab _ _, trivial⟩ ?_ ?_; rotate_left 6
      ·refine Obls_cons ?_ ?_
       ·intro wq hbq
        refine Obl_nil ?_
        refine Ex_q2 (Rq_loadB ((hL8.bx).below hbq) Tryz.isAgg79 rfl rfl) ?_; first | exact rfl | rfl
       refine Obls_cons ?_ ?_
       ·intro wq hbq
        refine Obl_det rfl rfl (Obl_nil ?_)
        refine Ex_q2 (Rq_nilCheck rfl) ?_; first | exact rfl | rfl
       refine Obls_cons ?_ ?_
       ·intro wq hbq
        refine Obl_det rfl rfl (Obl_nil ?_)
        refine Ex_q2 (Rq_fieldAddr fa92_3 rfl) ?_; first | exact rfl | rfl
       refine Obls_cons ?_ ?_
       ·intro wq hbq
        refine Obl_det rfl rfl (Obl_nil ?_)
        refine Ex_q2 (Rq_loadB ((hL8.blk).below hbq) Tryz.isAgg90 rfl rfl) ?_; first | exact rfl | rfl
       refine Obls_cons ?_ ?_
       ·intro wq hbq
        refine Obl_nil ?_
        first | (refine Ex_q2 (Rq_loadBW ((hB8).below hbq) Tryz.isAgg76 Tryz.sizeOf76 rfl rfl) ?_; first | exact rfl | rfl) | (refine Ex_q2 (Rq_loadBA ((hB8).below hbq) Tryz.isAgg76 Tryz.sizeOf76 rfl rfl rfl) ?_; first | exact rfl | rfl)
       refine Obls_cons ?_ ?_
       ·intro wq hbq
        refine Obl_nil ?_
        refine Ex_q2 (Rq_move rfl) ?_; first | exact rfl | rfl
       exact Obls_nil
      ·intro wa12 hba12
       replace hb0 := btr hb0 hba12;replace hL8 := hL8.below hba12;refine Fin_det rfl (Fin_det rfl (Fin_det rfl (Fin_det rfl (Fin_det rfl (Fin_det rfl (Fin_nil ?_))))))
       simp only [List.drop_succ_cons, List.drop_zero]
       refine SG_mapUpdate (X := ⟨none, Tryz.prog, 104, marks (w50.heap.size :: x.2.1)⟩) (kt := 76) (et := 3) (key := valO) (val := valI) key76 Tryz.runUnderlying90 hL8.mp y (x.1 : Int) rfl rfl rfl (Option.not_isSome_iff_eq_none.1 (by simp [g79])) ?_;intro ws12 hcs12 hsz12 hMs12;replace hL8 := hL8.put (kv' := kvI C (x.1 + 1)) hcs12 (by rw [hkv]; exact hMs12);clear hB8;clear hb0;have hb0 := Below.refl ws12.heap.size ws12;refine SG_nil ?_;refine D_block ?_;refine D_then ?_;refine W_region ?_;refine SG_q (Rq_add rfl rfl (wrap_i64 (by omega) (by omega))) rfl ?_;refine SG_q (Rq_move rfl) rfl ?_;refine SG_nil ?_;refine D_loopD ((x.1 + 1, w50.heap.size :: x.2.1, w8.heap.size)) (by repeat (first | exact Sub.nil | refine Sub.cons rfl ?_)) (by rfl) ⟨by dsimp only; omega, hL8⟩ (by dsimp only; omega)
     ·intro g79
      try simp only [dd] at g79
      have hkv : kvI C (x.1 + 1) = kvI C x.1 := by rw [kvI_succ hel, if_pos (by simpa using g79)]
      rw [← hkv] at hL8;clear hB8;refine W_skip ?_;refine D_block ?_;refine D_then ?_;refine W_region ?_;refine SG_q (Rq_add rfl rfl (wrap_i64 (by omega) (by omega))) rfl ?_;refine SG_q (Rq_move rfl) rfl ?_;refine SG_nil ?_;refine D_loopD ((x.1 + 1, w50.heap.size :: x.2.1, w8.heap.size)) (by repeat (first | exact Sub.nil | refine Sub.cons rfl ?_)) (by rfl) ⟨by dsimp only; omega, hL8⟩ (by dsimp only; omega)
   ·rintro c pre s w9 hx; exact hx.elim
  ·intro g40
   try simp only [dd] at g40
   have hxe : x.1 = C.ops.length := by omega
   refine W_exit (D_then_exit (D_loopD_exit ?_));refine D_block_exit (D_then (W_seq (W_region (SG_q (Rq_loadB (hL.bx) Tryz.isAgg79 rfl rfl) rfl (SG_q (Rq_nilCheck rfl) rfl (SG_q (Rq_fieldAddr fa92_0 rfl) rfl (SG_q (Rq_fieldAddr fa26_2 rfl) rfl (SG_q (Rq_loadB (hL.blk) Tryz.isAgg24 rfl rfl) rfl ?_))))))))
   first | refine SG_q (Rq_len (hL.sO) Tryz.runUnderlying24 rfl) rfl ?_ | refine SG_q (Rq_len (hL.sR) Tryz.runUnderlying24 rfl) rfl ?_ | refine SG_q (Rq_len ((hO).below hb0) Tryz.runUnderlying24 rfl) rfl ?_ | refine SG_q (Rq_len ((hR).below hb0) Tryz.runUnderlying24 rfl) rfl ?_
   refine SG_q (Rq_move rfl) rfl ?_;refine SG_nil ?_;refine D_then ?_;refine W_block ?_;refine W_loop (α := Nat) (fun z => [(93, .int .i64 (z : Nat)), (92, .int .i64 (C.roots.length : Nat)), (91, vR), (1, .pointer (some ⟨b1, 0, none⟩))]) (fun z w' => z ≤ C.roots.length ∧ Lk (⟨84, 76, 3, 4, 92⟩ : StTy) w w' x.2.2 bs b1 r26 79 vC vO vR v18 v25 C ((C.roots.take z).foldl setB (usI C C.ops.length)) (trI C x.1) (kvI C x.1) x.2.1) (fun z => C.roots.length - z) (0) (by repeat (first | exact Sub.nil | refine Sub.cons rfl ?_)) ⟨Nat.zero_le _, by rw [← hxe]; exact hL⟩ ?_;clear hb0;clear hL;rintro z wl1 ⟨hz, hL⟩;have hb0 := Below.refl wl1.heap.size wl1
   have hulr : ((C.roots.take z).foldl setB (usI C C.ops.length)).length = C.ops.length := by rw [show setB = (fun us a => setB us (id a)) from rfl, foldl_setB_length id, usI_length]
   refine W_seq (W_region (SG_q (Rq_lss rfl rfl) rfl (SG_nil (D_then (W_seq ?_)))));refine W_cond rfl ?_ ?_
   ·intro g94
    try simp only [dd] at g94
    refine W_skip (D_then (W_seq (W_block (W_seq (W_region ?_)))))
    first | refine SG_index (hL.sO) Tryz.runUnderlying24 Tryz.sizeOf3 rfl rfl ?_ ?_ rfl ?_ | refine SG_index (hL.sR) Tryz.runUnderlying24 Tryz.sizeOf3 rfl rfl ?_ ?_ rfl ?_ | refine SG_index ((hO).below hb0) Tryz.runUnderlying24 Tryz.sizeOf3 rfl rfl ?_ ?_ rfl ?_ | refine SG_index ((hR).below hb0) Tryz.runUnderlying24 Tryz.sizeOf3 rfl rfl ?_ ?_ rfl ?_
    ·omega
    ·omega
    intro x95 hx95 hc95;refine SG_q (Rq_load Tryz.isAgg3 rfl ((hc95).cell 0 rfl)) rfl ?_;refine SG_q (Rq_assign rfl) rfl ?_;refine SG_nil ?_;refine D_then ?_;refine W_region ?_;refine SG_q (Rq_loadB (hL.bx) Tryz.isAgg79 rfl rfl) rfl ?_;refine SG_q (Rq_nilCheck rfl) rfl ?_;refine SG_q (Rq_fieldAddr fa92_1 rfl) rfl ?_;refine SG_q (Rq_loadB (hL.blk) Tryz.isAgg54 rfl rfl) rfl ?_;refine SG_q (Rq_move rfl) rfl ?_;have hr0 := (hroots _ (List.mem_of_getElem? hx95)).1;have hr1 := (hroots _ (List.mem_of_getElem? hx95)).2;refine SG_q (Rq_index hL.oU.sl Tryz.runUnderlying54 Tryz.sizeOf4 rfl rfl hr0 (by rw [hulr]; exact hr1)) rfl ?_;refine SG_storeE (n := 1) (o := 0) (elt := getB _ x95) (elt' := true) hL.oU rfl rfl rfl rfl Tryz.sizeOf4 rfl (getB_some hr0 (by rw [hulr]; exact hr1)) (Nat.le_refl 1) rfl ?_;intro ws17 hcs17 hOs17;replace hL := hL.setU hcs17 hOs17;clear hc95;clear hb0;have hb0 := Below.refl ws17.heap.size ws17;refine SG_nil ?_;refine D_block ?_;refine D_then ?_;refine W_region ?_;refine SG_q (Rq_add rfl rfl (wrap_i64 (by omega) (by omega))) rfl ?_;refine SG_q (Rq_move rfl) rfl ?_;refine SG_nil ?_;refine D_loop (z + 1) (by repeat (first | exact Sub.nil | refine Sub.cons rfl ?_)) ⟨by omega, by rw [take_succ_get (show C.roots[z]? = some x95 from hx95), List.foldl_append]; exact hL⟩ (by omega)
   ·intro g94
    try simp only [dd] at g94
    refine W_exit (D_then_exit (D_loop_exit ?_));refine D_block_exit (D_bodyM0 rfl rfl hL.mks (fun w9 hc9 => ?_));obtain ⟨d1, d2, d3, d4, d5, d6, d7⟩ := hL.done hc9;refine ⟨r26, v18, v25, rfl, d1, d2, ?_, ?_, ?_, d6, d7⟩
    ·rw [usedR_eq, ← List.take_length (l := C.roots), show C.roots.length = z by omega]; exact d3
    ·rw [← trI_end, ← hxe]; exact d4
    ·rw [← kvI_end, ← hxe]; exact d5
end Go.Proofs.YtphmoebiobjfhaaGreat
