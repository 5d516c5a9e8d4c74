/- Walks of functions, printed by a program of the author. -/
import Derived.Test.YtphmoebiobjfhaaGreatSw
import Derived.Test.YtphmoebiobjfhaaGreatT6
set_option linter.all false
namespace Go.Proofs.YtphmoebiobjfhaaGreat
open Go Go.Mi Go.RowKit
theorem build26_0_1_2 (v u t : Value) (w : World) (hv : one1 v = true) (hu : one1 u = true) (ht : one1 t = true) : (Instr.build 26 #[(0, v), (1, u), (2, t)]).run Tryz.prog w = .ok (.agg [v, u, t].toArray) w := by
 unfold Instr.build
 simp [Sem.run_bind, Tryz.zeroValue26, Tryz.runUnderlying26, Tryz.sizeOf22, Tryz.sizeOf23, Tryz.sizeOf24, Instr.fill, cells_one hv, cells_one hu, cells_one ht, Result.andThen, cells_agg]
theorem build92_S (a b c : Value) (w : World) : (Instr.build 92 #[(0, .agg #[a, b, c])]).run Tryz.prog w = .ok (.agg #[a, b, c, .slice none 0 0, .slice none 0 0, .map none]) w := by
 unfold Instr.build
 simp [Sem.run_bind, Tryz.zeroValue92, Tryz.runUnderlying92, Tryz.sizeOf26, Tryz.sizeOf54, Tryz.sizeOf90, Instr.fill, Value.cells, Result.andThen]
set_option maxHeartbeats 1000000 in
theorem f40_c {vC vO vR : Value} {C : Co} {w : World} (hC : SL w vC 3 encC C.ch) (hO : SL w vO 5 encO C.ops) (hR : SL w vR 1 encI C.roots) (h1 : C.ch.length ≤ 100000) (h2 : C.ops.length ≤ 100000) (h3 : C.roots.length ≤ 100000) :
  Calls Tryz.prog 40 #[.agg [vC, vO, vR].toArray] w fun e w' => Below w.heap.size w w' ∧ ((checkR C ≠ 0 ∧ e = .returned (.tuple #[.pointer none, .int .i64 (checkR C)])) ∨ (checkR C = 0 ∧ ∃ bs rM uC uO uR uU uT, e = .returned (.tuple #[.pointer (some ⟨bs, 0, none⟩), .int .i64 0]) ∧ StF (⟨84, 76, 3, 4, 92⟩ : StTy) w.heap.size w' bs rM uC uO uR uU uT C)) := by
 have hb0 := Below.refl w.heap.size w;refine calls_of_W Tryz.func40 rfl Tryz.ntmps40 rfl ?_;refine W_seq (W_region (SG_box rfl rfl rfl ?_));intro w1 b1 e1 hb1 hz1 hB1
 have hle1 : w.heap.size ≤ b1 := by have := hb0.size; omega
 replace hb0 := btr hb0 hb1;refine SG_q (Rq_assign rfl) rfl (SG_q (Rq_assign rfl) rfl (SG_nil (D_then (W_seq (W_seq (W_region ?_))))))
 first | refine SG_q (Rq_loadBW (hB1) Tryz.isAgg26 Tryz.sizeOf26 rfl rfl) rfl ?_ | refine SG_q (Rq_loadBA (hB1) Tryz.isAgg26 Tryz.sizeOf26 rfl rfl rfl) rfl ?_
 refine SG_pure rfl Tryz.call55 rfl (f55_c ((hC).below hb0) ((hO).below hb0) ((hR).below hb0) (by omega) (by omega) (by omega)) ?_;intro w7 hb7;replace hb0 := btr hb0 hb7;replace hB1 := hB1.below hb7;refine SG_q (Rq_assign rfl) rfl (SG_nil (D_then (W_seq (W_region (SG_q (Rq_move rfl) rfl (SG_q (Rq_neq rfl rfl) rfl (SG_nil (D_then ?_))))))));refine W_cond rfl ?_ ?_
 ·intro g9
  try simp only [dd] at g9
  refine W_seq (W_region (SG_q (Rq_move rfl) rfl (SG_q (Rq_assign rfl) rfl (SG_q (Rq_assign rfl) rfl (SG_nil (D_then (W_ret (D_then_ret (D_body2 rfl rfl rfl rfl ?_)))))))));exact ⟨hb0, .inl ⟨by simpa using g9, rfl⟩⟩
 ·intro g9
  try simp only [dd] at g9
  refine W_skip (D_then (W_seq ?_))
  refine W_anyG 12 [[], [0], [1], [], [3], [4], [], [6], [7], [2, 5, 8], [9], [10]] [] (fun w' => Below w7.heap.size w7 w') [gdet [] ?a4_0n1, gdet [0] ?a4_1n1, gfrs [1] (OsR w7.heap.size 84 3 encC C.ch), gdet [] ?a4_3n1, gdet [3] ?a4_4n1, gfrs [4] (OsR w7.heap.size 76 5 encO C.ops), gdet [] ?a4_6n1, gdet [6] ?a4_7n1, gfrs [7] (OsR w7.heap.size 3 1 encI C.roots), gfun [2, 5, 8] (fun vs => .agg #[vs.getD 0 undef, vs.getD 1 undef, vs.getD 2 undef]), gfun [9] (fun vs => .agg ((vs.getD 0 undef).cells ++ #[.slice none 0 0, .slice none 0 0, .map none])), gfrv [10] (fun vs => AllocR (vs.getD 0 undef).cells.toList 92)] Tryz.mixed (by kernel_rfl) (by kernel_rfl) rfl rfl (fun k w w' hb he => by
   match k, he with
   | 0, he => exact ⟨btr hb he, he.size⟩) (GStab.of rfl ?_) (Below.refl _ _) (fun h => h.drew) ?_ ?_; rotate_left 6
  ·skip
   refine AllSt_det ?_;refine AllSt_det ?_
   refine AllSt_frs (fun k u w w' lo hi hb he hl hr => by
   obtain ⟨r1, r2, r3⟩ := hr
   match k, he with
   | 0, he => exact ⟨r1.below he, r2, r3⟩) ?_
   refine AllSt_det ?_;refine AllSt_det ?_
   refine AllSt_frs (fun k u w w' lo hi hb he hl hr => by
   obtain ⟨r1, r2, r3⟩ := hr
   match k, he with
   | 0, he => exact ⟨r1.below he, r2, r3⟩) ?_
   refine AllSt_det ?_;refine AllSt_det ?_
   refine AllSt_frs (fun k u w w' lo hi hb he hl hr => by
   obtain ⟨r1, r2, r3⟩ := hr
   match k, he with
   | 0, he => exact ⟨r1.below he, r2, r3⟩) ?_
   refine AllSt_fun ?_;refine AllSt_fun ?_
   refine AllSt_frv (fun k vs u w w' lo hi hb he hl hr => by
   obtain ⟨b, r1, r2, r3⟩ := hr
   match k, he with
   | 0, he => exact ⟨b, r1, r2.below he, r3⟩) ?_
   exact AllSt_nil
  ·refine GObls_cons ?_ ?_
   ·intro wq hq hzq
    have hq' := btr hb0 hq;refine GObl_nil ?_
    refine GEx_q2 (Rq_fieldAddr fa26_0 rfl) ?_; first | exact rfl | rfl
   refine GObls_cons ?_ ?_
   ·intro wq hq hzq
    have hq' := btr hb0 hq;refine GObl_det rfl rfl rfl (GObl_nil ?_)
    refine GEx_q2 (Rq_loadB ((hB1.below hq)) Tryz.isAgg22 rfl rfl) ?_; first | exact rfl | rfl
   refine GObls_cons ?_ ?_
   ·intro wq hq hzq
    have hq' := btr hb0 hq;refine GObl_det rfl rfl rfl (GObl_nil (GEx.of (Ex_call rfl Tryz.call56 (Fn.mono (f56_c (by omega) (hC.below hq')) fun v w' hb ho => ?_))));obtain ⟨av, cv, hv⟩ := ho.sl.len;exact ⟨ho.le hzq, fun b e => ho.lt e, _, _, _, hv⟩
   refine GObls_cons ?_ ?_
   ·intro wq hq hzq
    have hq' := btr hb0 hq;refine GObl_nil ?_
    refine GEx_q2 (Rq_fieldAddr fa26_1 rfl) ?_; first | exact rfl | rfl
   refine GObls_cons ?_ ?_
   ·intro wq hq hzq
    have hq' := btr hb0 hq;refine GObl_det rfl rfl rfl (GObl_nil ?_)
    refine GEx_q2 (Rq_loadB ((hB1.below hq)) Tryz.isAgg23 rfl rfl) ?_; first | exact rfl | rfl
   refine GObls_cons ?_ ?_
   ·intro wq hq hzq
    have hq' := btr hb0 hq;refine GObl_det rfl rfl rfl (GObl_nil (GEx.of (Ex_call rfl Tryz.call57 (Fn.mono (f57_c (by omega) (hO.below hq')) fun v w' hb ho => ?_))));obtain ⟨av, cv, hv⟩ := ho.sl.len;exact ⟨ho.le hzq, fun b e => ho.lt e, _, _, _, hv⟩
   refine GObls_cons ?_ ?_
   ·intro wq hq hzq
    have hq' := btr hb0 hq;refine GObl_nil ?_
    refine GEx_q2 (Rq_fieldAddr fa26_2 rfl) ?_; first | exact rfl | rfl
   refine GObls_cons ?_ ?_
   ·intro wq hq hzq
    have hq' := btr hb0 hq;refine GObl_det rfl rfl rfl (GObl_nil ?_)
    refine GEx_q2 (Rq_loadB ((hB1.below hq)) Tryz.isAgg24 rfl rfl) ?_; first | exact rfl | rfl
   refine GObls_cons ?_ ?_
   ·intro wq hq hzq
    have hq' := btr hb0 hq;refine GObl_det rfl rfl rfl (GObl_nil (GEx.of (Ex_call rfl Tryz.call58 (Fn.mono (f58_c (by omega) (hR.below hq')) fun v w' hb ho => ?_))));obtain ⟨av, cv, hv⟩ := ho.sl.len;exact ⟨ho.le hzq, fun b e => ho.lt e, _, _, _, hv⟩
   refine GObls_cons ?_ ?_
   ·intro wq hq hzq
    have hq' := btr hb0 hq;refine GObl_frs rfl rfl rfl ?_; intro v13 lo13 hi13 hle13 hR13;refine GObl_frs rfl rfl rfl ?_; intro v16 lo16 hi16 hle16 hR16;refine GObl_frs rfl rfl rfl ?_; intro v19 lo19 hi19 hle19 hR19;refine GObl_nil ?_;obtain ⟨_, _, a13, n13, c13, rfl⟩ := hR13;obtain ⟨_, _, a16, n16, c16, rfl⟩ := hR16;obtain ⟨_, _, a19, n19, c19, rfl⟩ := hR19;exact GEx_fun (Rq_build3 build26_0_1_2 rfl rfl rfl rfl rfl rfl) rfl
   refine GObls_cons ?_ ?_
   ·intro wq hq hzq
    have hq' := btr hb0 hq;refine GObl_fun rfl rfl rfl ?_; intro vs20;refine GObl_nil ?_;exact GEx_fun (Rq_buildG (vs := [(0, .agg #[vs20.getD 0 undef, vs20.getD 1 undef, vs20.getD 2 undef])]) (build92_S _ _ _) rfl) (by simp [Value.cells])
   refine GObls_cons ?_ ?_
   ·intro wq hq hzq
    have hq' := btr hb0 hq;refine GObl_fun rfl rfl rfl ?_; intro vs21;refine GObl_nil ?_;exact GEx_box rfl rfl
   exact GObls_nil
  ·intro wa4 hba4 hzz4
   refine GFin_det rfl ?_;refine GFin_det rfl ?_;refine GFin_frs rfl ?_; intro v13 lo13 hi13 hR13 hlB13 hlh13 hhw13 hdj13;refine GFin_det rfl ?_;refine GFin_det rfl ?_;refine GFin_frs rfl ?_; intro v16 lo16 hi16 hR16 hlB16 hlh16 hhw16 hdj16;refine GFin_det rfl ?_;refine GFin_det rfl ?_;refine GFin_frs rfl ?_; intro v19 lo19 hi19 hR19 hlB19 hlh19 hhw19 hdj19;refine GFin_fun rfl ?_; intro v20 hf20; simp only [List.nil_append, List.cons_append, List.map_cons, List.map_nil, List.getD_cons_succ, List.getD_cons_zero, List.getElem?_cons_succ, List.getElem?_cons_zero] at hf20;refine GFin_fun rfl ?_; intro v21 hf21; simp only [List.nil_append, List.cons_append, List.map_cons, List.map_nil, List.getD_cons_succ, List.getD_cons_zero, List.getElem?_cons_succ, List.getElem?_cons_zero] at hf21;refine GFin_frv rfl ?_; intro v22 lo22 hi22 hR22 hlB22 hlh22 hhw22 hdj22; simp only [List.nil_append, List.cons_append, List.map_cons, List.map_nil, List.getD_cons_succ, List.getD_cons_zero, List.getElem?_cons_succ, List.getElem?_cons_zero] at hR22;refine GFin_nil ?_
   simp only [List.drop_succ_cons, List.drop_zero]
   obtain ⟨b22, rfl, hB22, hlb22, hhb22⟩ := hR22;rw [hf21, hf20] at hB22
   replace hB22 : Blk wa4 b22 [v13, v16, v19, .slice none 0 0, .slice none 0 0, .map none] 92 := by simpa [Value.cells] using hB22
   replace hb0 := btr hb0 hba4;refine SG_q (Rq_assign rfl) rfl (SG_nil (D_then (W_seq (W_region (SG_q (Rq_move rfl) rfl ?_)))));obtain ⟨hOc, hiC, hsC⟩ := hR13; obtain ⟨hOo, hiO, hsO⟩ := hR16; obtain ⟨hOr, hiR, hsR⟩ := hR19
   have hck0 : checkR C = 0 := by simpa using g9
   simp only [List.mem_cons, List.mem_nil_iff, or_false, forall_eq_or_imp, forall_eq] at hdj16 hdj19 hdj22
   refine SG_callC rfl Tryz.call59 rfl (K := fun v w' => ∃ rM vU vT, Chg (· = b22) wa4 w' ∧ Blk w' b22 [v13, v16, v19, vU, vT, .map (some rM)] 92 ∧ OS w' vU 4 1 encB (usedR C) wa4.heap.size ∧ OS w' vT 4 1 encB (truthsR C.ops) wa4.heap.size ∧ Mp w' rM valO valI (firstR C.ops) ∧ wa4.heap.size ≤ rM ∧ (∀ b, vU.ownBlock = some b → vT.ownBlock ≠ some b)) (Calls.mono (f59_c hB22 hOo.sl hOr.sl hck0 ?n16 ?n19) ?mo) ?kk
   case mo => rintro e w' ⟨rM, vU, vT, rfl, h1, h2, h3, h4, h5, h6, h7⟩; exact ⟨_, rfl, rM, vU, vT, h1, h2, h3, h4, h5, h6, h7⟩
   case n16 => intro hp; have := hiO _ (sb_own hOo.sl hp); omega
   case n19 => intro hp; have := hiR _ (sb_own hOr.sl hp); omega
   rintro v24 w24 ⟨rM, vU, vT, hc24, hB24, hOU, hOT, hM, hrM, hUT⟩;have hz0 := hb0.size; have hz7 := hba4.size; have hblt := hB22.lt; have hz24 := hc24.size; have hzb := hb7.size
   have hSt : StF (⟨84, 76, 3, 4, 92⟩ : StTy) w.heap.size w24 b22 rM v13 v16 v19 vU vT C := ⟨hB24, (hOc.chg hc24 (fun b e h => by have := hiC b e; omega)).le (by omega), (hOo.chg hc24 (fun b e h => by have := hiO b e; omega)).le (by omega), (hOr.chg hc24 (fun b e h => by have := hiR b e; omega)).le (by omega), hOU.le (by omega), hOT.le (by omega), hM, by omega, by omega, dis7 (B := wa4.heap.size) hblt hrM (fun k e => by have := hOc.lt e; have := hiC k e; omega) (fun k e => by have := hOo.lt e; have := hiO k e; omega) (fun k e => by have := hOr.lt e; have := hiR k e; omega) (fun k e e2 => by have := hiC k e; have := hiO k e2; omega) (fun k e e2 => by have := hiC k e; have := hiR k e2; omega) (fun k e e2 => by have := hiO k e; have := hiR k e2; omega) (fun k e => ⟨(hOU.lt e).1, hOU.ne_map hM e⟩) (fun k e => ⟨(hOT.lt e).1, hOT.ne_map hM e⟩) hUT⟩
   replace hb0 : Below w.heap.size w w24 := bchg hb0 hc24 (by omega);refine SG_nil (D_then (W_seq (W_region (SG_q (Rq_move rfl) rfl (SG_q (Rq_assign rfl) rfl (SG_q (Rq_assign rfl) rfl (SG_nil (D_then (W_ret (D_body2 rfl rfl rfl rfl ?_))))))))));exact ⟨hb0, .inr ⟨hck0, b22, rM, v13, v16, v19, vU, vT, rfl, hSt⟩⟩
end Go.Proofs.YtphmoebiobjfhaaGreat
