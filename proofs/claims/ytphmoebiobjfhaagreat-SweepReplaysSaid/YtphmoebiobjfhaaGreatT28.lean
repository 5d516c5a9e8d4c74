/- Walks of functions, printed by a program of the author. -/
import Derived.Test.YtphmoebiobjfhaaGreatT27
set_option linter.all false
namespace Go.Proofs.YtphmoebiobjfhaaGreat
open Go Go.Mi Go.RowKit
theorem build95_ (w : World) : (Instr.build 95 #[]).run Tryz.prog w = .ok (.agg [(.int .i64 0), (.int .u8 0), (.int .i64 0), (.int .i64 0), (.int .i64 0), (.int .i64 0)].toArray) w := by
 unfold Instr.build
 simp [Sem.run_bind, Tryz.zeroValue95, Tryz.runUnderlying95, Tryz.sizeOf3, Tryz.sizeOf76, Instr.fill, Result.andThen, cells_agg]
theorem info106 : (Tryz.prog.info? 106).map (fun i => (i.zero, i.size, i.bytes)) = some (some (Value.agg #[(Value.int IntKind.u8 0), (Value.int IntKind.i64 0)]), 2, 16) := by kernel_rfl
theorem build95_A (n : Int) (x : Ot) (w : World) : (Instr.build 95 #[(0, .int .i64 n), (1, valO x)]).run Tryz.prog w = .ok (valD ⟨true, n, x⟩) w := by
 unfold Instr.build
 simp [Sem.run_bind, Tryz.zeroValue95, Tryz.runUnderlying95, Tryz.sizeOf76, Tryz.sizeOf3, Instr.fill, Value.cells, Result.andThen, valO, encO, valD, encD]
set_option maxHeartbeats 2000000 in
theorem f64_c {v : Value} {C : Co} {w : World} (hC : CoS w v C) (hck : checkR C = 0) {x : Ot} {i : Int} (h0 : 0 ≤ i) (h1 : i < C.ops.length) (hx : getO C.ops i = x) (hc1 : 5 ≤ x.code) (hc2 : x.code ≤ 16) : Pure Tryz.prog 64 #[v, valO x] w (.tuple #[valD (wrkR C.ops x), .bool (wrkR C.ops x).ap]) := by
 obtain ⟨uC, uO, uR, rfl, hu1, hu2, hu3⟩ := hC.ex;have hlo2w := hu2.lt;have hop := ops_at hck h0 h1;rw [hx] at hop;have hbd := opsOf_bd hck h0 h1;rw [hx] at hbd;have hlen : (opsOf x).length = arN x.code := opsOf_len x;have har := arN_case (by omega : 1 ≤ x.code) (by omega);have hb0 := Below.refl w.heap.size w;refine calls_of_W Tryz.func64 rfl Tryz.ntmps64 rfl ?_;refine W_seq (W_region (SG_box rfl rfl rfl ?_));intro w2 b2 e2 hb2 hz2 hB2
 have hle2 : w.heap.size ≤ b2 := by have := hb0.size; omega
 replace hb0 := btr hb0 hb2;replace hu2 := hu2.below hb2;refine SG_box rfl rfl rfl ?_;intro w3 b3 e3 hb3 hz3 hB3
 have hle3 : w.heap.size ≤ b3 := by have := hb0.size; omega
 have ne_b2_3 : ¬ b2 = b3 := by have := hB2.lt; omega
 replace hb0 := btr hb0 hb3;replace hu2 := hu2.below hb3;replace hB2 := hB2.below hb3;refine SG_alloc Tryz.zeroValue95 rfl rfl ?_;intro w4 b4 e4 hb4 hz4 hB4
 have hle4 : w.heap.size ≤ b4 := by have := hb0.size; omega
 have ne_b2_4 : ¬ b2 = b4 := by have := hB2.lt; omega
 have ne_b3_4 : ¬ b3 = b4 := by have := hB3.lt; omega
 replace hb0 := btr hb0 hb4;replace hu2 := hu2.below hb4;replace hB2 := hB2.below hb4;replace hB3 := hB3.below hb4;refine SG_q (Rq_assign rfl) rfl (SG_nil (D_then (W_seq (W_region ?_))))
 first | refine SG_q (Rq_loadBW (hB3) Tryz.isAgg76 Tryz.sizeOf76 rfl rfl) rfl ?_ | refine SG_q (Rq_loadBA (hB3) Tryz.isAgg76 Tryz.sizeOf76 rfl rfl rfl) rfl ?_
 refine SG_call rfl Tryz.call46 rfl (f46_c _ _ (isOpB_spec hop).1.1 (isOpB_spec hop).1.2.1) ?_;rintro v12 w12 hb12 ⟨hL, _⟩;replace hb0 := btr hb0 hb12;replace hu2 := hu2.below hb12;replace hB2 := hB2.below hb12;replace hB3 := hB3.below hb12;replace hB4 := hB4.below hb12;have hz2 := hB2.lt; have hz3 := hB3.lt; have hz4 := hB4.lt; have hLl := hL.lt;have hlo2 := hu2.lt;refine SG_bslice (enc := encV) (val := valV) (os := []) rfl rfl MV.nil (fun _ => rfl) (fun _ => rfl) Tryz.runUnderlying69 Tryz.sizeOf106 Tryz.zeroValue106 rfl (by decide) (by decide) rfl ?_;intro w13 v13 b13 e13 hb13 hz13 hob13 hO13
 have hle13 : w.heap.size ≤ b13 := by have := hb0.size; omega
 have lt_b2_13 : b2 < b13 := by have := hB2.lt; omega
 have lt_b3_13 : b3 < b13 := by have := hB3.lt; omega
 have lt_b4_13 : b4 < b13 := by have := hB4.lt; omega
 replace hb0 := btr hb0 hb13;replace hu2 := hu2.below hb13;replace hB2 := hB2.below hb13;replace hB3 := hB3.below hb13;replace hB4 := hB4.below hb13;replace hL := hL.below hb13;refine SG_q (Rq_assign rfl) rfl ?_;refine SG_q (Rq_assign rfl) rfl ?_;refine SG_nil ?_;refine D_then ?_;refine W_seq ?_;refine W_seq ?_;refine W_region ?_;refine SG_q (Rq_assign rfl) rfl ?_;refine SG_nil ?_;refine D_then ?_;refine W_block ?_;refine W_loop (α := Nat × Value) (fun z => [(8, .int .i64 (z.1 : Nat)), (6, v12), (7, z.2), (2, .pointer (some ⟨b2, 0, none⟩)), (3, .pointer (some ⟨b3, 0, none⟩)), (4, .pointer (some ⟨b4, 0, none⟩))]) (fun z w' => z.1 ≤ (opsOf x).length ∧ (∀ (j : Nat) (q : Int), j < z.1 → (opsOf x)[j]? = some q → isKon (getO C.ops q) = true) ∧ Below w.heap.size w w' ∧ Blk w' b2 [uC, uO, uR] 26 ∧ Blk w' b3 (encO x) 76 ∧ Blk w' b4 [.int .i64 0, .int .u8 0, .int .i64 0, .int .i64 0, .int .i64 0, .int .i64 0] 95 ∧ SL w' uO 5 encO C.ops ∧ SL w' v12 1 encI (opsOf x) ∧ OS w' z.2 106 2 encV (((opsOf x).take z.1).map fun n => cell1 (getO C.ops n)) w12.heap.size ∧ w12.heap.size ≤ w'.heap.size) (fun z => (opsOf x).length - z.1) ((0, v13)) (by repeat (first | exact Sub.nil | refine Sub.cons rfl ?_)) ⟨Nat.zero_le _, (fun j q h => by simp at h), hb0, hB2, hB3, hB4, hu2, hL, by dsimp only; rw [List.take_zero, List.map_nil]; exact hO13.le (by omega), by have := hb13.size; omega⟩ ?_;clear hb0;clear hu2;clear hB2;clear hB3;clear hB4;clear hL;clear hO13;rintro z wl0 ⟨hzi, hkon, hbw, hB2, hB3, hB4, hu2, hL, hW, hz12⟩;have hb0 := Below.refl wl0.heap.size wl0
 have hWl : ∀ k, z.2.ownBlock = some k → w12.heap.size ≤ k := fun k e => (hW.lt e).1
 have hWu : ∀ k, z.2.ownBlock = some k → k < wl0.heap.size := fun k e => (hW.lt e).2
 refine W_seq (W_seq (W_region (SG_q (Rq_move rfl) rfl (SG_q (Rq_move rfl) rfl ?_))))
 first | refine SG_q (Rq_len (hu2) Tryz.runUnderlying24 rfl) rfl ?_ | refine SG_q (Rq_len (hL) Tryz.runUnderlying24 rfl) rfl ?_ | refine SG_q (Rq_len (hW.sl) Tryz.runUnderlying24 rfl) rfl ?_
 refine SG_q (Rq_lss rfl rfl) rfl (SG_nil (D_then ?_));refine W_cond rfl ?_ ?_
 ·intro g17
  try simp only [dd] at g17
  have hxl : z.1 < (opsOf x).length := by omega
  obtain ⟨m, hm⟩ : ∃ m, (opsOf x)[z.1]? = some m := ⟨_, List.getElem?_eq_getElem hxl⟩
  have hmb := hbd m (List.mem_of_getElem? hm)
  have hm1 : m < C.ops.length := by omega
  obtain ⟨y, hy⟩ : ∃ y, getO C.ops m = y := ⟨_, rfl⟩
  have hym := getO_some hmb.1 hm1;rw [hy] at hym
  have hpl : (((opsOf x).take z.1).map fun n => cell1 (getO C.ops n)).length = z.1 := by rw [List.length_map, List.length_take]; omega
  refine W_skip ?_;refine D_then ?_;refine W_seq ?_;refine W_block ?_;refine W_seq ?_;refine W_any 9 [[], [0], [], [], [2, 3], [4], [1, 5], [6], []] [det [] ?a5_0n1, det [0] ?a5_1n1, det [] ?a5_2n1, det [] ?a5_3n1, det [2, 3] ?a5_4n1, det [4] ?a5_5n1, det [1, 5] ?a5_6n1, det [6] ?a5_7n1, frs [] (AllocR [.int .u8 0, .int .i64 0, .int .i64 0, .int .i64 0, .int .i64 0] 76)] Tryz.mixed (by kernel_rfl) rfl ⟨det_stab _ _, det_stab _ _, det_stab _ _, det_stab _ _, det_stab _ _, det_stab _ _, det_stab _ _, det_stab _ _, AllocR.stab _ _ _, trivial⟩ ?_ ?_; rotate_left 8
  ·refine Obls_cons ?_ ?_
   ·intro wq hbq
    refine Obl_nil ?_
    refine Ex_q2 (Rq_fieldAddr fa26_1 rfl) ?_; first | exact rfl | rfl
   refine Obls_cons ?_ ?_
   ·intro wq hbq
    refine Obl_det rfl rfl (Obl_nil ?_)
    refine Ex_q2 (Rq_loadB ((hB2).below hbq) Tryz.isAgg23 rfl rfl) ?_; first | exact rfl | rfl
   refine Obls_cons ?_ ?_
   ·intro wq hbq
    refine Obl_nil ?_
    refine Ex_q2 (Rq_move rfl) ?_; first | exact rfl | rfl
   refine Obls_cons ?_ ?_
   ·intro wq hbq
    refine Obl_nil ?_
    refine Ex_q2 (Rq_move rfl) ?_; first | exact rfl | rfl
   refine Obls_cons ?_ ?_
   ·intro wq hbq
    refine Obl_det rfl rfl (Obl_det rfl rfl (Obl_nil ?_))
    refine Ex_q2 (Rq_index (hL.below hbq) Tryz.runUnderlying24 Tryz.sizeOf3 rfl rfl (by omega) (by omega)) ?_; first | exact rfl | rfl
   refine Obls_cons ?_ ?_
   ·intro wq hbq
    refine Obl_det rfl rfl (Obl_nil ?_)
    refine Ex_q2 (Rq_load Tryz.isAgg3 rfl (((hL.cells (((z.1 : Nat) : Int)).toNat m hm).below hbq).cell 0 rfl)) ?_; first | exact rfl | rfl
   refine Obls_cons ?_ ?_
   ·intro wq hbq
    refine Obl_det rfl rfl (Obl_det rfl rfl (Obl_nil ?_))
    refine Ex_q2 (Rq_index (hu2.below hbq) Tryz.runUnderlying23 Tryz.sizeOf76 rfl rfl hmb.1 hm1) ?_; first | exact rfl | rfl
   refine Obls_cons ?_ ?_
   ·intro wq hbq
    refine Obl_det rfl rfl (Obl_nil ?_)
    refine Ex_q2 (Rq_loadA Tryz.isAgg76 Tryz.sizeOf76 rfl ((hu2.cells m.toNat y hym).below hbq) rfl) ?_; first | exact rfl | rfl
   refine Obls_cons ?_ ?_
   ·intro wq hbq
    refine Obl_nil ?_;exact Ex_alloc Tryz.zeroValue76 rfl
   exact Obls_nil
  ·intro wa5 hba5
   replace hb0 := btr hb0 hba5;replace hB2 := hB2.below hba5;replace hB3 := hB3.below hba5;replace hB4 := hB4.below hba5;replace hu2 := hu2.below hba5;replace hL := hL.below hba5;replace hW := hW.below hba5;refine Fin_det rfl (Fin_det rfl (Fin_det rfl (Fin_det rfl (Fin_det rfl (Fin_det rfl (Fin_det rfl (Fin_det rfl (Fin_frs rfl ?_)))))))); intro v9 lo9 hi9 hR9 hlB9 hlh9 hhw9 hdj9;refine Fin_nil ?_
   simp only [List.drop_succ_cons, List.drop_zero]
   obtain ⟨b9, rfl, hB9, hlb9, hhb9⟩ := hR9
   have ne_b2_9 : ¬ b2 = b9 := by omega
   have ne_b3_9 : ¬ b3 = b9 := by omega
   have ne_b4_9 : ¬ b4 = b9 := by omega
   have ne_hu2_b9 : 0 < C.ops.length → ¬ sb uO = b9 := fun hp e => by have := hlo2 hp; omega
   have ne_hL_b9 : 0 < (opsOf x).length → ¬ sb v12 = b9 := fun hp e => by have := hLl hp; omega
   have ne_hW_b9 : ∀ k, z.2.ownBlock = some k → ¬ k = b9 := fun k e e2 => by have := hWu k e; omega
   have hle9 : wl0.heap.size ≤ b9 := by omega
   refine SG_storeW (hB9) rfl rfl rfl rfl Tryz.sizeOf76 rfl rfl ?_;intro ws5x9 hchs5x9 hBs5x9;replace hb0 := bchg hb0 hchs5x9 hle9;replace hB2 := hB2.chg hchs5x9 ne_b2_9;replace hB3 := hB3.chg hchs5x9 ne_b3_9;replace hB4 := hB4.chg hchs5x9 ne_b4_9;replace hu2 := hu2.chg hchs5x9 ne_hu2_b9;replace hL := hL.chg hchs5x9 ne_hL_b9;replace hW := hW.chg hchs5x9 (fun k e e2 => by first | exact ne_hW_b9 k e e2 | (have := hW.lt e; have := ne_hW_b9; omega));clear hB9;refine SG_nil ?_;refine D_then ?_;refine W_seq ?_;refine W_region ?_;refine SG_q (Rq_fieldAddr fa76_0 rfl) rfl ?_;refine SG_q (Rq_loadB (hBs5x9) Tryz.isAgg5 rfl rfl) rfl ?_;refine SG_nil ?_;refine D_then ?_;refine W_block ?_;refine W_seq ?_;refine W_region ?_;refine SG_q (Rq_eql rfl rfl) rfl ?_;refine SG_q (Rq_assign rfl) rfl ?_;refine SG_nil ?_;refine D_then ?_;refine W_cond rfl ?_ ?_
   ·intro g31
    try simp only [dd] at g31
    have hyk : isKon y = true := by unfold isKon; simp only [dd]; exact .inl (by omega)
    have hcy : cell1 y = ⟨0, y.n⟩ := by unfold cell1; rw [if_pos (by omega)]
    refine W_region (SG_q (Rq_move rfl) rfl (SG_q (Rq_fieldAddr fa76_4 rfl) rfl (SG_q (Rq_loadB (hBs5x9) Tryz.isAgg3 rfl rfl) rfl (SG_pure rfl Tryz.call77 rfl (f77_c _ _) ?_))));intro w36 hb36;replace hb0 := btr hb0 hb36;replace hB2 := hB2.below hb36;replace hB3 := hB3.below hb36;replace hB4 := hB4.below hb36;replace hu2 := hu2.below hb36;replace hL := hL.below hb36;replace hW := hW.below hb36;replace hBs5x9 := hBs5x9.below hb36;refine SG_bslice (enc := encV) (val := valV) (os := [.tmp 36]) rfl rfl (MV.cons (x := (⟨0, y.n⟩ : Vl)) MV.nil) (fun _ => rfl) (fun _ => rfl) Tryz.runUnderlying69 Tryz.sizeOf106 Tryz.zeroValue106 rfl (by decide) (by decide) rfl ?_;intro w37 v37 b37 e37 hb37 hz37 hob37 hO37
    have hle37 : wl0.heap.size ≤ b37 := by have := hb0.size; omega
    have lt_b2_37 : b2 < b37 := by have := hB2.lt; omega
    have lt_b3_37 : b3 < b37 := by have := hB3.lt; omega
    have lt_b4_37 : b4 < b37 := by have := hB4.lt; omega
    have lt_b9_37 : b9 < b37 := by have := hBs5x9.lt; omega
    replace hb0 := btr hb0 hb37;replace hB2 := hB2.below hb37;replace hB3 := hB3.below hb37;replace hB4 := hB4.below hb37;replace hu2 := hu2.below hb37;replace hL := hL.below hb37;replace hW := hW.below hb37;refine SG_append (hW) (hO37.sl) Tryz.underlying69 info106 rfl rfl rfl (fun _ _ => rfl) (by simp only [List.length_append, List.length_cons, List.length_nil]; (try rw [hpl]); omega) (by simp only [List.length_append, List.length_cons, List.length_nil]; (try rw [hpl]); omega) (by have := hbw.size; have := hb0.size; omega) rfl ?_;intro v38 w38 hO38 hch38 hsn38;have h93 := hb0.size; have h94 := hch38.size;replace hbw := (btr hbw hb0).trans (hch38.below (btr hbw hb0).size (fun k hk e => by have := hWl k e; omega));clear hb0;have hb0 := Below.refl w38.heap.size w38
    replace hB2 := (hB2.chg hch38 (fun e => by have := hWl _ e; omega))
    replace hB3 := (hB3.chg hch38 (fun e => by have := hWl _ e; omega))
    replace hB4 := (hB4.chg hch38 (fun e => by have := hWl _ e; omega))
    replace hu2 := (hu2.chg hch38 (fun hp e => by have := hlo2 hp; have := hWl _ e; omega))
    replace hL := (hL.chg hch38 (fun hp e => by have := hLl hp; have := hWl _ e; omega))
    clear hBs5x9;clear hO37;clear hW;refine SG_q (Rq_assign rfl) rfl ?_;refine SG_nil ?_;refine D_block ?_;refine D_block ?_;refine D_then ?_;refine W_region ?_;refine SG_q (Rq_move rfl) rfl ?_;refine SG_q (Rq_add rfl rfl (wrap_i64 (by omega) (by omega))) rfl ?_;refine SG_q (Rq_assign rfl) rfl ?_;refine SG_nil ?_;refine D_loop ((z.1 + 1, _)) (by repeat (first | exact Sub.nil | refine Sub.cons rfl ?_)) ⟨by dsimp only; omega, (fun j q hj hq => by rcases Nat.lt_succ_iff_lt_or_eq.1 hj with h | rfl; exact hkon j q h hq; (have e := Option.some.inj (hq.symm.trans hm); subst e; rw [hy]; exact hyk)), btr hbw hb0, hB2, hB3, hB4, hu2, hL, by (try dsimp only); rw [take_succ_get hm, List.map_append]; simp only [List.map_cons, List.map_nil, hy, hcy]; exact hO38, by have h92 := hb0.size; omega⟩ (by dsimp only; omega)
   ·intro g31
    try simp only [dd] at g31
    refine W_seq (W_region (SG_q (Rq_eql rfl rfl) rfl (SG_q (Rq_assign rfl) rfl (SG_nil (D_then ?_)))));refine W_cond rfl ?_ ?_
    ·intro g39
     try simp only [dd] at g39
     have hyk : isKon y = true := by unfold isKon; simp only [dd]; exact .inr (by omega)
     have hcy : cell1 y = ⟨y.n, 0⟩ := by unfold cell1; rw [if_neg (by omega)]
     have hyf := num_fault hck hmb.1 hm1 (by rw [hy]; omega);rw [hy] at hyf;refine W_region ?_;refine SG_q (Rq_move rfl) rfl ?_;refine SG_q (Rq_fieldAddr fa76_4 rfl) rfl ?_;refine SG_q (Rq_loadB (hBs5x9) Tryz.isAgg3 rfl rfl) rfl ?_;refine SG_q (Rq_convert Tryz.runUnderlying3 Tryz.runUnderlying5 rfl (wrap_u8 (by omega) (by omega))) rfl ?_;refine SG_pure rfl Tryz.call78 rfl (f78_c _ _) ?_;intro w45 hb45;replace hb0 := btr hb0 hb45;replace hB2 := hB2.below hb45;replace hB3 := hB3.below hb45;replace hB4 := hB4.below hb45;replace hu2 := hu2.below hb45;replace hL := hL.below hb45;replace hW := hW.below hb45;replace hBs5x9 := hBs5x9.below hb45;refine SG_bslice (enc := encV) (val := valV) (os := [.tmp 45]) rfl rfl (MV.cons (x := (⟨y.n, 0⟩ : Vl)) MV.nil) (fun _ => rfl) (fun _ => rfl) Tryz.runUnderlying69 Tryz.sizeOf106 Tryz.zeroValue106 rfl (by decide) (by decide) rfl ?_;intro w46 v46 b46 e46 hb46 hz46 hob46 hO46
     have hle46 : wl0.heap.size ≤ b46 := by have := hb0.size; omega
     have lt_b2_46 : b2 < b46 := by have := hB2.lt; omega
     have lt_b3_46 : b3 < b46 := by have := hB3.lt; omega
     have lt_b4_46 : b4 < b46 := by have := hB4.lt; omega
     have lt_b9_46 : b9 < b46 := by have := hBs5x9.lt; omega
     replace hb0 := btr hb0 hb46;replace hB2 := hB2.below hb46;replace hB3 := hB3.below hb46;replace hB4 := hB4.below hb46;replace hu2 := hu2.below hb46;replace hL := hL.below hb46;replace hW := hW.below hb46;refine SG_append (hW) (hO46.sl) Tryz.underlying69 info106 rfl rfl rfl (fun _ _ => rfl) (by simp only [List.length_append, List.length_cons, List.length_nil]; (try rw [hpl]); omega) (by simp only [List.length_append, List.length_cons, List.length_nil]; (try rw [hpl]); omega) (by have := hbw.size; have := hb0.size; omega) rfl ?_;intro v47 w47 hO47 hch47 hsn47;have h93 := hb0.size; have h94 := hch47.size;replace hbw := (btr hbw hb0).trans (hch47.below (btr hbw hb0).size (fun k hk e => by have := hWl k e; omega));clear hb0;have hb0 := Below.refl w47.heap.size w47
     replace hB2 := (hB2.chg hch47 (fun e => by have := hWl _ e; omega))
     replace hB3 := (hB3.chg hch47 (fun e => by have := hWl _ e; omega))
     replace hB4 := (hB4.chg hch47 (fun e => by have := hWl _ e; omega))
     replace hu2 := (hu2.chg hch47 (fun hp e => by have := hlo2 hp; have := hWl _ e; omega))
     replace hL := (hL.chg hch47 (fun hp e => by have := hLl hp; have := hWl _ e; omega))
     clear hBs5x9;clear hO46;clear hW;refine SG_q (Rq_assign rfl) rfl ?_;refine SG_nil ?_;refine D_block ?_;refine D_block ?_;refine D_then ?_;refine W_region ?_;refine SG_q (Rq_move rfl) rfl ?_;refine SG_q (Rq_add rfl rfl (wrap_i64 (by omega) (by omega))) rfl ?_;refine SG_q (Rq_assign rfl) rfl ?_;refine SG_nil ?_;refine D_loop ((z.1 + 1, _)) (by repeat (first | exact Sub.nil | refine Sub.cons rfl ?_)) ⟨by dsimp only; omega, (fun j q hj hq => by rcases Nat.lt_succ_iff_lt_or_eq.1 hj with h | rfl; exact hkon j q h hq; (have e := Option.some.inj (hq.symm.trans hm); subst e; rw [hy]; exact hyk)), btr hbw hb0, hB2, hB3, hB4, hu2, hL, by (try dsimp only); rw [take_succ_get hm, List.map_append]; simp only [List.map_cons, List.map_nil, hy, hcy]; exact hO47, by have h92 := hb0.size; omega⟩ (by dsimp only; omega)
    ·intro g39
     try simp only [dd] at g39
     have hwr : wrkR C.ops x = ⟨false, 0, o0⟩ := by unfold wrkR; rw [if_neg (fun h => by have h9 := List.all_eq_true.1 h m (List.mem_of_getElem? hm); rw [hy] at h9; unfold isKon at h9; simp only [dd] at h9; omega)]
     replace hb0 := btr hbw hb0;clear hL;clear hW;clear hu2;clear hBs5x9;refine W_seq ?_;refine W_region ?_;refine SG_q (Rq_build0 build95_) rfl ?_;refine SG_storeW (hB4) rfl rfl rfl rfl Tryz.sizeOf95 rfl rfl ?_;intro ws7x1 hchs7x1 hBs7x1;replace hb0 := bchg hb0 hchs7x1 hle4;clear hB4;refine SG_q (Rq_assign rfl) rfl ?_;refine SG_nil ?_;refine D_then ?_;refine W_ret ?_;refine D_block_ret ?_;refine D_block_ret ?_;refine D_then_ret ?_;refine D_loop_ret ?_;refine D_block_ret ?_;refine D_then_ret ?_;refine D_bodyR2 rfl rfl (.cellW rfl (hBs7x1) Tryz.isAgg95 Tryz.sizeOf95 rfl) (.tmp rfl) ?_;exact ⟨by rw [hwr]; rfl, hb0⟩
 ·intro g17
  try simp only [dd] at g17
  have hze : (opsOf x).length ≤ z.1 := by omega
  have hall : (opsOf x).all (fun n => isKon (getO C.ops n)) = true := List.all_eq_true.2 (fun n hn => by obtain ⟨j, hj⟩ := List.getElem?_of_mem hn; exact hkon j n (by have := (List.getElem?_eq_some_iff.1 hj).1; omega) hj);rw [List.take_of_length_le hze] at hW
  have hv0 : ∀ (j : Nat) (q : Int), (opsOf x)[j]? = some q → small (cell1 (getO C.ops q)).n ∧ FOk (cell1 (getO C.ops q)) := fun j q hq => by have h9 := hbd q (List.mem_of_getElem? hq); exact cell1_ok hck h9.1 (by omega) (hkon j q (by have := (List.getElem?_eq_some_iff.1 hq).1; omega) hq)
  have hoa : (opsOf x)[0]? = some x.a := opsOf_get (j := 0) (by omega);have hca := hv0 0 x.a hoa
  have hva : ((opsOf x).map fun n => cell1 (getO C.ops n))[0]? = some (cell1 (getO C.ops x.a)) := by rw [List.getElem?_map, hoa]; rfl
  have hvl : ((opsOf x).map fun n => cell1 (getO C.ops n)).length = arN x.code := by rw [List.length_map, hlen]
  have hwr : wrkR C.ops x = wrkF (wrkV C.ops x) := by unfold wrkR; rw [if_pos hall]
  clear hb0;have hb0 := hbw;refine W_exit (D_then_exit (D_loop_exit ?_));refine D_block_exit (D_then (W_seq (W_region (SG_q (Rq_build0 build106_) rfl (SG_alloc Tryz.zeroValue106 rfl rfl ?_)))));intro w10 b10 e10 hb10 hz10 hB10
  have hle10 : w.heap.size ≤ b10 := by have := hb0.size; omega
  have ne_b2_10 : ¬ b2 = b10 := by have := hB2.lt; omega
  have ne_b3_10 : ¬ b3 = b10 := by have := hB3.lt; omega
  have ne_b4_10 : ¬ b4 = b10 := by have := hB4.lt; omega
  have ne_hu2_b10 := hu2.fresh (b := b10) (by omega);have ne_hL_b10 := hL.fresh (b := b10) (by omega)
  have ne_hW_b10 : ∀ k, Value.ownBlock z.2 = some k → ¬ k = b10 := fun k e => by have := hW.lt e; omega
  replace hb0 := btr hb0 hb10;replace hB3 := hB3.below hb10;replace hB4 := hB4.below hb10;replace hu2 := hu2.below hb10;replace hL := hL.below hb10;replace hW := hW.below hb10;refine SG_storeW (hB10) rfl rfl rfl rfl Tryz.sizeOf106 rfl rfl ?_;intro ws12x2 hchs12x2 hBs12x2;replace hb0 := bchg hb0 hchs12x2 hle10;replace hB3 := hB3.chg hchs12x2 ne_b3_10;replace hB4 := hB4.chg hchs12x2 ne_b4_10;replace hu2 := hu2.chg hchs12x2 ne_hu2_b10;replace hL := hL.chg hchs12x2 ne_hL_b10;replace hW := hW.chg hchs12x2 (fun k e e2 => by first | exact ne_hW_b10 k e e2 | (have := hW.lt e; have := ne_hW_b10; omega));clear hB10;refine SG_nil ?_;refine D_then ?_;refine W_seq ?_;refine W_seq ?_;refine W_region ?_;refine SG_q (Rq_move rfl) rfl ?_
  first | refine SG_q (Rq_len (hu2) Tryz.runUnderlying24 rfl) rfl ?_ | refine SG_q (Rq_len (hL) Tryz.runUnderlying24 rfl) rfl ?_ | refine SG_q (Rq_len (hW.sl) Tryz.runUnderlying24 rfl) rfl ?_
  refine SG_q (Rq_eql rfl rfl) rfl (SG_nil (D_then ?_));refine W_cond rfl ?_ ?_
  ·intro g51
   try simp only [dd] at g51
   have hwv : wrkV C.ops x = rop1 x.code (cell1 (getO C.ops x.a)) := by unfold wrkV; rw [if_pos (by omega)]
   obtain ⟨hf0, hf4⟩ := rop1_f (c := x.code) hca.2;refine W_any 6 [[], [0], [], [2], [3], [1, 4]] [det [] ?a14_0n2, det [0] ?a14_1n2, det [] ?a14_2n2, det [2] ?a14_3n2, det [3] ?a14_4n2, det [1, 4] ?a14_5n2] Tryz.mixed (by kernel_rfl) rfl ⟨det_stab _ _, det_stab _ _, det_stab _ _, det_stab _ _, det_stab _ _, det_stab _ _, trivial⟩ ?_ ?_; rotate_left 6
   ·refine Obls_cons ?_ ?_
    ·intro wq hbq
     refine Obl_nil ?_
     refine Ex_q2 (Rq_fieldAddr fa76_0 rfl) ?_; first | exact rfl | rfl
    refine Obls_cons ?_ ?_
    ·intro wq hbq
     refine Obl_det rfl rfl (Obl_nil ?_)
     refine Ex_q2 (Rq_loadB ((hB3).below hbq) Tryz.isAgg5 rfl rfl) ?_; first | exact rfl | rfl
    refine Obls_cons ?_ ?_
    ·intro wq hbq
     refine Obl_nil ?_
     refine Ex_q2 (Rq_move rfl) ?_; first | exact rfl | rfl
    refine Obls_cons ?_ ?_
    ·intro wq hbq
     refine Obl_det rfl rfl (Obl_nil ?_)
     refine Ex_q2 (Rq_index (hW.sl.below hbq) Tryz.runUnderlying69 Tryz.sizeOf106 rfl rfl (by omega) (by rw [hvl]; omega)) ?_; first | exact rfl | rfl
    refine Obls_cons ?_ ?_
    ·intro wq hbq
     refine Obl_det rfl rfl (Obl_nil ?_)
     refine Ex_q2 (Rq_loadA Tryz.isAgg106 Tryz.sizeOf106 rfl ((hW.sl.cells 0 _ hva).below hbq) rfl) ?_; first | exact rfl | rfl
    refine Obls_cons ?_ ?_
    ·intro wq hbq
     refine Obl_det rfl rfl (Obl_det rfl rfl (Obl_nil ?_))
     refine Ex_call rfl Tryz.call79 (fn_det2 (f79_c (a := cell1 (getO C.ops x.a)) hca.1 _) ?_); first | exact rfl | rfl
    exact Obls_nil
   ·intro wa14 hba14
    replace hb0 := btr hb0 hba14;replace hB4 := hB4.below hba14;replace hW := hW.below hba14;replace hBs12x2 := hBs12x2.below hba14;refine Fin_det rfl (Fin_det rfl (Fin_det rfl (Fin_det rfl (Fin_det rfl (Fin_det rfl (Fin_nil ?_))))))
    simp only [List.drop_succ_cons, List.drop_zero]
    refine SG_storeW (hBs12x2) rfl rfl rfl rfl Tryz.sizeOf106 rfl rfl ?_;intro ws14x6 hchs14x6 hBs14x6;replace hb0 := bchg hb0 hchs14x6 hle10;replace hB4 := hB4.chg hchs14x6 ne_b4_10;replace hW := hW.chg hchs14x6 (fun k e e2 => by first | exact ne_hW_b10 k e e2 | (have := hW.lt e; have := ne_hW_b10; omega));clear hBs12x2;refine SG_nil ?_;refine D_then ?_;refine W_seq ?_;refine W_seq ?_;refine W_region ?_;refine SG_q (Rq_fieldAddr fa106_0 rfl) rfl ?_;refine SG_q (Rq_loadB (hBs14x6) Tryz.isAgg5 rfl rfl) rfl ?_;refine SG_q (Rq_gtr rfl rfl) rfl ?_;refine SG_nil ?_;refine D_then ?_;refine W_cond rfl ?_ ?_
    ·intro g69
     try simp only [dd] at g69
     clear hL;clear hW;clear hu2;refine W_seq ?_;refine W_region ?_;refine SG_q (Rq_fieldAddr fa106_0 rfl) rfl ?_;refine SG_q (Rq_loadB (hBs14x6) Tryz.isAgg5 rfl rfl) rfl ?_;refine SG_q (Rq_convert Tryz.runUnderlying5 Tryz.runUnderlying3 rfl (wrap_i64 (by omega) (by omega))) rfl ?_;refine SG_q (Rq_build2 build76_0_4 rfl rfl rfl rfl ) rfl ?_;refine SG_q (Rq_buildG (build95_A (-1) ⟨2, 0, 0, 0, (wrkV C.ops x).f⟩) (by rw [hwv]; rfl)) rfl ?_;refine SG_storeW (hB4) rfl rfl rfl rfl Tryz.sizeOf95 rfl rfl ?_;intro ws17x5 hchs17x5 hBs17x5;replace hb0 := bchg hb0 hchs17x5 hle4;clear hB4;refine SG_q (Rq_assign rfl) rfl ?_;refine SG_nil ?_;refine D_then ?_;refine W_ret ?_;refine D_then_ret ?_;refine D_bodyR2 rfl rfl (.cellW rfl (hBs17x5) Tryz.isAgg95 Tryz.sizeOf95 rfl) (.tmp rfl) ?_;exact ⟨by rw [hwr, hwv, wrkF, if_pos (by omega)]; rfl, hb0⟩
    ·intro g69
     try simp only [dd] at g69
     clear hL;clear hW;clear hu2;refine W_skip ?_;refine D_then ?_;refine W_seq ?_;refine W_region ?_;refine SG_q (Rq_fieldAddr fa106_1 rfl) rfl ?_;refine SG_q (Rq_loadB (hBs14x6) Tryz.isAgg3 rfl rfl) rfl ?_;refine SG_q (Rq_build2 build76_0_4 rfl rfl rfl rfl ) rfl ?_;refine SG_q (Rq_buildG (build95_A (-1) ⟨1, 0, 0, 0, (wrkV C.ops x).n⟩) (by rw [hwv]; rfl)) rfl ?_;refine SG_storeW (hB4) rfl rfl rfl rfl Tryz.sizeOf95 rfl rfl ?_;intro ws18x4 hchs18x4 hBs18x4;replace hb0 := bchg hb0 hchs18x4 hle4;clear hB4;refine SG_q (Rq_assign rfl) rfl ?_;refine SG_nil ?_;refine D_then ?_;refine W_ret ?_;refine D_bodyR2 rfl rfl (.cellW rfl (hBs18x4) Tryz.isAgg95 Tryz.sizeOf95 rfl) (.tmp rfl) ?_;exact ⟨by rw [hwr, hwv, wrkF, if_neg (by omega)]; rfl, hb0⟩
  ·intro g51
   try simp only [dd] at g51
   have hob : (opsOf x)[1]? = some x.b := opsOf_get (j := 1) (by omega);have hcb := hv0 1 x.b hob
   have hvb : ((opsOf x).map fun n => cell1 (getO C.ops n))[1]? = some (cell1 (getO C.ops x.b)) := by rw [List.getElem?_map, hob]; rfl
   have hwv : wrkV C.ops x = rop2 x.code (cell1 (getO C.ops x.a)) (cell1 (getO C.ops x.b)) := by unfold wrkV; rw [if_neg (by omega)]
   obtain ⟨hf0, hf4⟩ := rop2_f (c := x.code) hca.2 hcb.2;refine W_any 9 [[], [0], [], [2], [3], [], [5], [6], [1, 4, 7]] [det [] ?a15_0n3, det [0] ?a15_1n3, det [] ?a15_2n3, det [2] ?a15_3n3, det [3] ?a15_4n3, det [] ?a15_5n3, det [5] ?a15_6n3, det [6] ?a15_7n3, det [1, 4, 7] ?a15_8n3] Tryz.mixed (by kernel_rfl) rfl ⟨det_stab _ _, det_stab _ _, det_stab _ _, det_stab _ _, det_stab _ _, det_stab _ _, det_stab _ _, det_stab _ _, det_stab _ _, trivial⟩ ?_ ?_; rotate_left 9
   ·refine Obls_cons ?_ ?_
    ·intro wq hbq
     refine Obl_nil ?_
     refine Ex_q2 (Rq_fieldAddr fa76_0 rfl) ?_; first | exact rfl | rfl
    refine Obls_cons ?_ ?_
    ·intro wq hbq
     refine Obl_det rfl rfl (Obl_nil ?_)
     refine Ex_q2 (Rq_loadB ((hB3).below hbq) Tryz.isAgg5 rfl rfl) ?_; first | exact rfl | rfl
    refine Obls_cons ?_ ?_
    ·intro wq hbq
     refine Obl_nil ?_
     refine Ex_q2 (Rq_move rfl) ?_; first | exact rfl | rfl
    refine Obls_cons ?_ ?_
    ·intro wq hbq
     refine Obl_det rfl rfl (Obl_nil ?_)
     refine Ex_q2 (Rq_index (hW.sl.below hbq) Tryz.runUnderlying69 Tryz.sizeOf106 rfl rfl (by omega) (by rw [hvl]; omega)) ?_; first | exact rfl | rfl
    refine Obls_cons ?_ ?_
    ·intro wq hbq
     refine Obl_det rfl rfl (Obl_nil ?_)
     refine Ex_q2 (Rq_loadA Tryz.isAgg106 Tryz.sizeOf106 rfl ((hW.sl.cells 0 _ hva).below hbq) rfl) ?_; first | exact rfl | rfl
    refine Obls_cons ?_ ?_
    ·intro wq hbq
     refine Obl_nil ?_
     refine Ex_q2 (Rq_move rfl) ?_; first | exact rfl | rfl
    refine Obls_cons ?_ ?_
    ·intro wq hbq
     refine Obl_det rfl rfl (Obl_nil ?_)
     refine Ex_q2 (Rq_index (hW.sl.below hbq) Tryz.runUnderlying69 Tryz.sizeOf106 rfl rfl (by omega) (by rw [hvl]; omega)) ?_; first | exact rfl | rfl
    refine Obls_cons ?_ ?_
    ·intro wq hbq
     refine Obl_det rfl rfl (Obl_nil ?_)
     refine Ex_q2 (Rq_loadA Tryz.isAgg106 Tryz.sizeOf106 rfl ((hW.sl.cells 1 _ hvb).below hbq) rfl) ?_; first | exact rfl | rfl
    refine Obls_cons ?_ ?_
    ·intro wq hbq
     refine Obl_det rfl rfl (Obl_det rfl rfl (Obl_det rfl rfl (Obl_nil ?_)))
     refine Ex_call rfl Tryz.call80 (fn_det2 (f80_c (a := cell1 (getO C.ops x.a)) (b := cell1 (getO C.ops x.b)) hca.1 hcb.1 _) ?_); first | exact rfl | rfl
    exact Obls_nil
   ·intro wa15 hba15
    replace hb0 := btr hb0 hba15;replace hB4 := hB4.below hba15;replace hW := hW.below hba15;replace hBs12x2 := hBs12x2.below hba15;refine Fin_det rfl (Fin_det rfl (Fin_det rfl (Fin_det rfl (Fin_det rfl (Fin_det rfl (Fin_det rfl (Fin_det rfl (Fin_det rfl (Fin_nil ?_)))))))))
    simp only [List.drop_succ_cons, List.drop_zero]
    refine SG_storeW (hBs12x2) rfl rfl rfl rfl Tryz.sizeOf106 rfl rfl ?_;intro ws15x9 hchs15x9 hBs15x9;replace hb0 := bchg hb0 hchs15x9 hle10;replace hB4 := hB4.chg hchs15x9 ne_b4_10;replace hW := hW.chg hchs15x9 (fun k e e2 => by first | exact ne_hW_b10 k e e2 | (have := hW.lt e; have := ne_hW_b10; omega));clear hBs12x2;refine SG_nil ?_;refine D_then ?_;refine W_seq ?_;refine W_seq ?_;refine W_region ?_;refine SG_q (Rq_fieldAddr fa106_0 rfl) rfl ?_;refine SG_q (Rq_loadB (hBs15x9) Tryz.isAgg5 rfl rfl) rfl ?_;refine SG_q (Rq_gtr rfl rfl) rfl ?_;refine SG_nil ?_;refine D_then ?_;refine W_cond rfl ?_ ?_
    ·intro g69
     try simp only [dd] at g69
     clear hL;clear hW;clear hu2;refine W_seq ?_;refine W_region ?_;refine SG_q (Rq_fieldAddr fa106_0 rfl) rfl ?_;refine SG_q (Rq_loadB (hBs15x9) Tryz.isAgg5 rfl rfl) rfl ?_;refine SG_q (Rq_convert Tryz.runUnderlying5 Tryz.runUnderlying3 rfl (wrap_i64 (by omega) (by omega))) rfl ?_;refine SG_q (Rq_build2 build76_0_4 rfl rfl rfl rfl ) rfl ?_;refine SG_q (Rq_buildG (build95_A (-1) ⟨2, 0, 0, 0, (wrkV C.ops x).f⟩) (by rw [hwv]; rfl)) rfl ?_;refine SG_storeW (hB4) rfl rfl rfl rfl Tryz.sizeOf95 rfl rfl ?_;intro ws17x5 hchs17x5 hBs17x5;replace hb0 := bchg hb0 hchs17x5 hle4;clear hB4;refine SG_q (Rq_assign rfl) rfl ?_;refine SG_nil ?_;refine D_then ?_;refine W_ret ?_;refine D_then_ret ?_;refine D_bodyR2 rfl rfl (.cellW rfl (hBs17x5) Tryz.isAgg95 Tryz.sizeOf95 rfl) (.tmp rfl) ?_;exact ⟨by rw [hwr, hwv, wrkF, if_pos (by omega)]; rfl, hb0⟩
    ·intro g69
     try simp only [dd] at g69
     clear hL;clear hW;clear hu2;refine W_skip ?_;refine D_then ?_;refine W_seq ?_;refine W_region ?_;refine SG_q (Rq_fieldAddr fa106_1 rfl) rfl ?_;refine SG_q (Rq_loadB (hBs15x9) Tryz.isAgg3 rfl rfl) rfl ?_;refine SG_q (Rq_build2 build76_0_4 rfl rfl rfl rfl ) rfl ?_;refine SG_q (Rq_buildG (build95_A (-1) ⟨1, 0, 0, 0, (wrkV C.ops x).n⟩) (by rw [hwv]; rfl)) rfl ?_;refine SG_storeW (hB4) rfl rfl rfl rfl Tryz.sizeOf95 rfl rfl ?_;intro ws18x4 hchs18x4 hBs18x4;replace hb0 := bchg hb0 hchs18x4 hle4;clear hB4;refine SG_q (Rq_assign rfl) rfl ?_;refine SG_nil ?_;refine D_then ?_;refine W_ret ?_;refine D_bodyR2 rfl rfl (.cellW rfl (hBs18x4) Tryz.isAgg95 Tryz.sizeOf95 rfl) (.tmp rfl) ?_;exact ⟨by rw [hwr, hwv, wrkF, if_neg (by omega)]; rfl, hb0⟩
end Go.Proofs.YtphmoebiobjfhaaGreat
