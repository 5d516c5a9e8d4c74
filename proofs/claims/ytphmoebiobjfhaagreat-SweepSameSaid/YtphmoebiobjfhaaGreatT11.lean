/- Walks of functions, printed by a program of the author. -/
import Derived.Test.YtphmoebiobjfhaaGreatAp
import Derived.Test.YtphmoebiobjfhaaGreatT10
set_option linter.all false
namespace Go.Proofs.YtphmoebiobjfhaaGreat
open Go Go.Mi Go.RowKit
theorem fa45_0 (w : World) (a : Addr) : (Instr.fieldAt 45 (.pointer (some a)) 0).run Tryz.prog w = .ok (.pointer (some (a.add 0))) w := by kernel_rfl
theorem fa45_1 (w : World) (a : Addr) : (Instr.fieldAt 45 (.pointer (some a)) 1).run Tryz.prog w = .ok (.pointer (some (a.add 1))) w := by kernel_rfl
theorem fa119_0 (w : World) (a : Addr) : (Instr.fieldAt 119 (.pointer (some a)) 0).run Tryz.prog w = .ok (.pointer (some (a.add 0))) w := by kernel_rfl
theorem fa119_1 (w : World) (a : Addr) : (Instr.fieldAt 119 (.pointer (some a)) 1).run Tryz.prog w = .ok (.pointer (some (a.add 1))) w := by kernel_rfl
theorem fa119_2 (w : World) (a : Addr) : (Instr.fieldAt 119 (.pointer (some a)) 2).run Tryz.prog w = .ok (.pointer (some (a.add 2))) w := by kernel_rfl
theorem f63_k {lo bs rM : Nat} {vC vO vR vU vT : Value} {C : Co} {w : World} (hS : StF (⟨84, 76, 3, 4, 92⟩ : StTy) lo w bs rM vC vO vR vU vT C) (hck : checkR C = 0) {r i : Int} {o : Oc} (ho : atC C r i = o) (h0 : 0 ≤ i) (h1 : i < C.ops.length) : Pure Tryz.prog 63 #[.pointer (some ⟨bs, 0, none⟩), .int .u8 r, .int .i64 i] w (valOc o) := by
 rw [← ho]; exact f63_c hS.blk hS.oO.sl hS.oT.sl (truthsR_length C.ops) hS.oU.sl (usedR_length C) hS.mp (check_wf hck) h0 h1 r
set_option maxHeartbeats 1000000 in
theorem f47_c {lo bs rM : Nat} {vC vO vR vU vT : Value} {C : Co} {w : World} (hS : StF (⟨84, 76, 3, 4, 92⟩ : StTy) lo w bs rM vC vO vR vU vT C) (hck : checkR C = 0) (r : Rw) :
  Calls Tryz.prog 47 #[.pointer (some ⟨bs, 0, none⟩), valR r] w fun e w' => ∃ rM' vU' vT', e = .returned (.int .i64 (applyR C r).2) ∧ StF (⟨84, 76, 3, 4, 92⟩ : StTy) lo w' bs rM' vC vO vR vU' vT' (applyR C r).1 ∧ Chg (StC bs vO vR) w w' ∧ (∀ k, StB bs rM' vC vO vR vU' vT' k → w.heap.size ≤ k ∨ StB bs rM vC vO vR vU vT k) := by
 obtain ⟨⟨hl1, hl2, hl3⟩, hroots, hops⟩ := check_ok hck
 obtain ⟨o, ho⟩ : ∃ o, atC C r.rule r.op = o := ⟨_, rfl⟩
 have hb0 := Below.refl w.heap.size w;refine calls_of_WM Tryz.func47 rfl Tryz.ntmps47 rfl ?_;refine W_seq (W_region (SG_box rfl rfl rfl ?_));intro w3 b3 e3 hb3 hz3 hB3
 have hle3 : w.heap.size ≤ b3 := by have := hb0.size; omega
 have ne_hS_b3 : ∀ k, StB bs rM vC vO vR vU vT k → ¬ k = b3 := fun k hk => by have := hS.lt hk; omega
 replace hb0 := btr hb0 hb3;replace hS := hS.below hb3;refine SG_q (Rq_assign rfl) rfl ?_;refine SG_nil ?_;refine D_then ?_;refine W_seq ?_;refine W_seq ?_;refine W_quiet (Tryz.mixed) (by kernel_rfl) ?_;refine QS_q (Rq_fieldAddr fa45_1 rfl) rfl ?_;refine QS_q (Rq_loadB (hB3) Tryz.isAgg3 rfl rfl) rfl ?_;refine QS_q (Rq_lss rfl rfl) rfl ?_;refine QS_q (Rq_move rfl) rfl ?_;refine QS_or (r := ?r13n1) 10 23 13 rfl ?_ ?_ ?_; rotate_left
 ·intro g13 K13
  have g13' := g13; try simp only [dd] at g13'
  refine QS_yes 13 rfl rfl g13 (QS_q (Rq_fieldAddr fa45_1 rfl) rfl (QS_yes 13 rfl rfl g13 (QS_q (Rq_loadB (hB3) Tryz.isAgg3 rfl rfl) rfl (QS_yes 13 rfl rfl g13 (QS_q (Rq_move rfl) rfl (QS_yes 13 rfl rfl g13 (QS_q (Rq_nilCheck rfl) rfl (QS_yes 13 rfl rfl g13 (QS_q (Rq_fieldAddr fa92_0 rfl) rfl (QS_yes 13 rfl rfl g13 (QS_q (Rq_fieldAddr fa26_1 rfl) rfl (QS_yes 13 rfl rfl g13 (QS_q (Rq_loadB (hS.blk) Tryz.isAgg23 rfl rfl) rfl (QS_yes 13 rfl rfl g13 ?_))))))))))))))
  first | refine QS_q (Rq_len (hS.oO.sl) Tryz.runUnderlying23 rfl) rfl ?_ | refine QS_q (Rq_len (hS.oR.sl) Tryz.runUnderlying23 rfl) rfl ?_
  refine QS_yes 13 rfl rfl g13 (QS_q (Rq_geq rfl rfl) rfl (QS_q (Rq_pick rfl (fun h => absurd (g13.symm.trans h) (by decide)) (fun _ => rfl)) rfl ?_));exact K13 _ (by repeat (first | exact Sub.refl | refine Sub.shadow ?_ | refine Sub.same ?_ | refine Sub.push rfl ?_))
 ·intro g13 K13
  have g13' := g13; try simp only [dd] at g13'
  refine QS_no 13 rfl rfl g13 rfl (QS_no 13 rfl rfl g13 rfl (QS_no 13 rfl rfl g13 rfl (QS_no 13 rfl rfl g13 rfl (QS_no 13 rfl rfl g13 rfl (QS_no 13 rfl rfl g13 rfl (QS_no 13 rfl rfl g13 rfl (QS_no 13 rfl rfl g13 rfl (QS_no 13 rfl rfl g13 rfl (QS_q (Rq_pick rfl (fun _ => rfl) (fun h => absurd (g13.symm.trans h) (by decide))) rfl ?_)))))))));exact K13 _ (by repeat (first | exact Sub.refl | refine Sub.shadow ?_ | refine Sub.same ?_ | refine Sub.push rfl ?_))
 simp only [List.drop_succ_cons, List.drop_zero]
 refine QS_nil ?_;intro wr1 hbr1;replace hb0 := btr hb0 hbr1;replace hS := hS.below hbr1;replace hB3 := hB3.below hbr1;refine D_then ?_;refine W_cond rfl ?_ ?_
 ·intro g23
  try simp only [dd] at g23
  refine W_seq (W_region (SG_q (Rq_assign rfl) rfl (SG_nil (D_then (W_ret (D_then_ret (D_bodyM1 rfl rfl (Marks.nil _) rfl (fun w9 hc9 => ?_))))))));rw [applyR, if_pos (by omega)]
  have hn9 : ∀ k, ¬ k ∈ ([] : List Nat) := fun k h => by simp at h
  exact ⟨rM, vU, vT, rfl, hS.chg hc9 (fun k _ h => hn9 k h), (Chg.of_below _ hb0).trans (hc9.mono fun k _ h => (hn9 k h).elim), fun k h => .inr h⟩
 ·intro g23
  try simp only [dd] at g23
  have hi0 : 0 ≤ r.op := by omega
  have hi1 : r.op < C.ops.length := by omega
  refine W_skip (D_then (W_seq (W_region (SG_q (Rq_move rfl) rfl (SG_q (Rq_fieldAddr fa45_0 rfl) rfl (SG_q (Rq_loadB (hB3) Tryz.isAgg5 rfl rfl) rfl (SG_q (Rq_fieldAddr fa45_1 rfl) rfl (SG_q (Rq_loadB (hB3) Tryz.isAgg3 rfl rfl) rfl (SG_pure rfl Tryz.call63 rfl (f63_k (hS) hck ho hi0 hi1) ?_)))))))));intro w29 hb29;replace hb0 := btr hb0 hb29;replace hS := hS.below hb29;replace hB3 := hB3.below hb29;refine SG_alloc Tryz.zeroValue119 rfl rfl ?_;intro w5 b5 e5 hb5 hz5 hB5
  have hle5 : w.heap.size ≤ b5 := by have := hb0.size; omega
  have ne_hS_b5 : ∀ k, StB bs rM vC vO vR vU vT k → ¬ k = b5 := fun k hk => by have := hS.lt hk; omega
  have ne_b3_5 : ¬ b3 = b5 := by have := hB3.lt; omega
  replace hb0 := btr hb0 hb5;replace hS := hS.below hb5;replace hB3 := hB3.below hb5;refine SG_storeW (hB5) rfl rfl rfl rfl Tryz.sizeOf119 rfl rfl ?_;intro ws3x7 hchs3x7 hBs3x7;replace hb0 := bchg hb0 hchs3x7 hle5;replace hS := hS.chg hchs3x7 (ne_hS_b5);replace hB3 := hB3.chg hchs3x7 ne_b3_5;clear hB5;refine SG_nil (D_then (W_seq (W_block (W_seq (W_region (SG_q (Rq_fieldAddr fa119_0 rfl) rfl (SG_q (Rq_loadB (hBs3x7) Tryz.isAgg4 rfl rfl) rfl (SG_q (Rq_not rfl) rfl (SG_q (Rq_assign rfl) rfl (SG_nil (D_then ?_)))))))))));refine W_cond rfl ?_ ?_
  ·intro g84
   try simp only [dd] at g84
   refine W_seq (W_region (SG_q (Rq_assign rfl) rfl (SG_nil (D_then (W_ret (D_block_ret (D_then_ret (D_bodyM1 rfl rfl (Marks.nil _) rfl (fun w9 hc9 => ?_)))))))));rw [applyR, if_neg (by omega), ho, if_pos (by simpa using g84)]
   have hn9 : ∀ k, ¬ k ∈ ([] : List Nat) := fun k h => by simp at h
   exact ⟨rM, vU, vT, rfl, hS.chg hc9 (fun k _ h => hn9 k h), (Chg.of_below _ hb0).trans (hc9.mono fun k _ h => (hn9 k h).elim), fun k h => .inr h⟩
  ·intro g84
   try simp only [dd] at g84
   have hap : o.ap = true := by simpa using g84
   have hap1 : (atC C r.rule r.op).ap = true := by rw [ho]; exact hap
   refine W_seq (W_region (SG_q (Rq_fieldAddr fa119_1 rfl) rfl (SG_q (Rq_loadB (hBs3x7) Tryz.isAgg3 rfl rfl) rfl (SG_q (Rq_eql rfl rfl) rfl (SG_q (Rq_assign rfl) rfl (SG_nil (D_then ?_)))))));refine W_cond rfl ?_ ?_
   ·intro g88
    try simp only [dd] at g88
    refine W_any 9 [[], [0], [1], [2], [3], [], [5], [], [7]] [det [] ?a21_0n2, det [0] ?a21_1n2, det [1] ?a21_2n2, det [2] ?a21_3n2, det [3] ?a21_4n2, det [] ?a21_5n2, det [5] ?a21_6n2, det [] ?a21_7n2, det [7] ?a21_8n2] Tryz.mixed (by kernel_rfl) rfl ⟨det_stab _ _, det_stab _ _, det_stab _ _, det_stab _ _, det_stab _ _, det_stab _ _, det_stab _ _, det_stab _ _, det_stab _ _, trivial⟩ ?_ ?_; rotate_left 9
    ·refine Obls_cons ?_ ?_
     ·intro wq hbq
      refine Obl_nil ?_
      refine Ex_q2 (Rq_move rfl) ?_; first | exact rfl | rfl
     refine Obls_cons ?_ ?_
     ·intro wq hbq
      refine Obl_det rfl rfl (Obl_nil ?_)
      refine Ex_q2 (Rq_nilCheck rfl) ?_; first | exact rfl | rfl
     refine Obls_cons ?_ ?_
     ·intro wq hbq
      refine Obl_det rfl rfl (Obl_nil ?_)
      refine Ex_q2 (Rq_fieldAddr fa92_0 rfl) ?_; first | exact rfl | rfl
     refine Obls_cons ?_ ?_
     ·intro wq hbq
      refine Obl_det rfl rfl (Obl_nil ?_)
      refine Ex_q2 (Rq_fieldAddr fa26_1 rfl) ?_; first | exact rfl | rfl
     refine Obls_cons ?_ ?_
     ·intro wq hbq
      refine Obl_det rfl rfl (Obl_nil ?_)
      refine Ex_q2 (Rq_loadB ((hS.blk).below hbq) Tryz.isAgg23 rfl rfl) ?_; first | exact rfl | rfl
     refine Obls_cons ?_ ?_
     ·intro wq hbq
      refine Obl_nil ?_
      refine Ex_q2 (Rq_fieldAddr fa45_1 rfl) ?_; first | exact rfl | rfl
     refine Obls_cons ?_ ?_
     ·intro wq hbq
      refine Obl_det rfl rfl (Obl_nil ?_)
      refine Ex_q2 (Rq_loadB ((hB3).below hbq) Tryz.isAgg3 rfl rfl) ?_; first | exact rfl | rfl
     refine Obls_cons ?_ ?_
     ·intro wq hbq
      refine Obl_nil ?_
      refine Ex_q2 (Rq_fieldAddr fa119_2 rfl) ?_; first | exact rfl | rfl
     refine Obls_cons ?_ ?_
     ·intro wq hbq
      refine Obl_det rfl rfl (Obl_nil ?_)
      first | (refine Ex_q2 (Rq_loadBA ((hBs3x7).below hbq) Tryz.isAgg76 Tryz.sizeOf76 rfl rfl rfl) ?_; first | exact rfl | rfl)
     exact Obls_nil
    ·intro wa21 hba21
     replace hb0 := btr hb0 hba21;replace hS := hS.below hba21;refine Fin_det rfl (Fin_det rfl (Fin_det rfl (Fin_det rfl (Fin_det rfl (Fin_det rfl (Fin_det rfl (Fin_det rfl (Fin_det rfl (Fin_nil ?_)))))))))
     simp only [List.drop_succ_cons, List.drop_zero]
     refine SG_q (Rq_index (hS.oO.sl) Tryz.runUnderlying23 Tryz.sizeOf76 rfl rfl hi0 hi1) rfl (SG_storeE (n := 5) (o := 0) (elt := getO C.ops r.op) (elt' := o.be) hS.oO rfl rfl rfl rfl Tryz.sizeOf76 rfl (getO_some hi0 hi1) (by simp [encOc]) rfl ?_);intro ws21 hcs21 hOs21;have hch := (Chg.of_below (fun k => w.heap.size ≤ k ∨ StC bs vO vR k) hb0).trans (hcs21.mono fun k _ e => .inr (StC.O e));replace hS := hS.setO hcs21 hOs21;clear hB3;clear hBs3x7;have hMk := Marks.nil ws21
     have hms : ∀ D ∈ ([] : List Nat), w.heap.size ≤ D := fun D hD => by simp at hD
     have heq : appR C r = ⟨C.ch, C.ops.set r.op.toNat o.be, C.roots⟩ := by rw [appR, ho, outC, if_pos g88]
     have hck1 := app_check hck hi0 hi1 hap1;rw [heq] at hck1;clear hb0;have hb0 := Below.refl ws21.heap.size ws21;refine SG_nil (D_block (D_then (W_seq (W_region (SG_q (Rq_move rfl) rfl ?_)))));have hwz := (hch.trans (Chg.of_below _ hb0)).size;refine SG_callC rfl Tryz.call59 rfl (K := fun v w' => ∃ rM' vU' vT', Chg (· = bs) ws21 w' ∧ StF (⟨84, 76, 3, 4, 92⟩ : StTy) lo w' bs rM' vC vO vR vU' vT' (appR C r) ∧ Chg (fun k => w.heap.size ≤ k ∨ StC bs vO vR k) w w' ∧ (∀ k, StB bs rM' vC vO vR vU' vT' k → w.heap.size ≤ k ∨ StB bs rM vC vO vR vU vT k)) ?_ ?_
     ·refine Calls.mono (f59_c hS.blk hS.oO.sl hS.oR.sl hck1 hS.nO hS.nR) ?_
      rintro e w' ⟨rM', vU', vT', rfl, h1, h2, h3, h4, h5, h6, h7⟩;exact ⟨_, rfl, rM', vU', vT', h1, (by rw [heq]; exact hS.relook h1 h2 h3 h4 h5 h6 h7), (hch.trans (Chg.of_below _ hb0)).trans (h1.mono fun k _ e => .inr (by subst e; exact StC.self)), StB.new (Nat.le_trans hwz h6) (fun k e => Nat.le_trans hwz (h3.lt e).1) (fun k e => Nat.le_trans hwz (h4.lt e).1)⟩
     rintro v103 w103 ⟨rM', vU', vT', hc103, hS', hch', hnew⟩;replace hMk := hMk.chg hc103 (fun D hD e => hMk.ne hS.blk D hD e);clear hS;clear hb0;have hb0 := Below.refl w103.heap.size w103;refine SG_nil (D_then (W_seq (W_region (SG_q (Rq_assign rfl) rfl (SG_nil (D_then (W_ret (D_bodyM1 rfl rfl hMk rfl (fun w9 hc9 => ?_)))))))))
     have he : applyR C r = (appR C r, 0) := by rw [applyR, if_neg (by omega), ho, if_neg (by simp [hap])]
     rw [he];exact ⟨rM', vU', vT', rfl, hS'.chg hc9 (fun k hk hm => hS'.ne_mark hMk k hk hm), ((hch'.trans (Chg.of_below _ hb0)).trans (hc9.mono fun k _ hk => .inl (hms k hk))).mono (fun k hk e => e.resolve_left (by omega)), hnew⟩
   ·intro g88
    try simp only [dd] at g88
    refine W_seq (W_seq (W_region (SG_q (Rq_move rfl) rfl (SG_q (Rq_nilCheck rfl) rfl (SG_q (Rq_fieldAddr fa92_0 rfl) rfl (SG_q (Rq_fieldAddr fa26_1 rfl) rfl (SG_q (Rq_loadB (hS.blk) Tryz.isAgg23 rfl rfl) rfl ?_)))))))
    first | refine SG_q (Rq_len (hS.oO.sl) Tryz.runUnderlying23 rfl) rfl ?_ | refine SG_q (Rq_len (hS.oR.sl) Tryz.runUnderlying23 rfl) rfl ?_
    refine SG_q (Rq_move rfl) rfl ?_;refine SG_nil ?_;refine D_then ?_;refine W_block ?_;refine W_loopD (α := Nat × List Nat) (fun x => [(36, .int .i64 (x.1 : Nat)), (35, .int .i64 (C.ops.length : Nat)), (0, .pointer (some ⟨bs, 0, none⟩)), (3, .pointer (some ⟨b3, 0, none⟩)), (5, .pointer (some ⟨b5, 0, none⟩))]) (fun x => marks x.2) (fun x w' => x.1 ≤ C.ops.length ∧ ApC w bs vO vR w' ∧ St (⟨84, 76, 3, 4, 92⟩ : StTy) lo w' bs rM vC vO vR vU vT ⟨C.ch, prt (turnO r.op o.st) C.ops x.1, C.roots⟩ (usedR C) (truthsR C.ops) (firstR C.ops) ∧ Blk w' b3 (encR r) 45 ∧ Blk w' b5 (encOc o) 119 ∧ Marks w' x.2 ∧ (∀ D ∈ x.2, w.heap.size ≤ D)) (fun x => C.ops.length - x.1) ((0, [])) (by repeat (first | exact Sub.nil | refine Sub.cons rfl ?_)) (by rfl) ⟨Nat.zero_le _, Chg.of_below _ hb0, by rw [prt_zero]; exact hS, hB3, hBs3x7, Marks.nil _, fun D h => by simp at h⟩ ?_;clear hb0;clear hS;clear hB3;clear hBs3x7;rintro x wl0 ⟨hx, hch, hS, hB3, hB5, hMk, hms⟩;have hb0 := Below.refl wl0.heap.size wl0;refine W_seq ?_;refine W_region ?_;refine SG_q (Rq_lss rfl rfl) rfl ?_;refine SG_nil ?_;refine D_then ?_;refine W_seq ?_;refine W_cond rfl ?_ ?_
    ·intro g37
     try simp only [dd] at g37
     have hxl : x.1 < C.ops.length := by omega
     obtain ⟨y, hel⟩ : ∃ y, C.ops[x.1]? = some y := ⟨_, List.getElem?_eq_getElem hxl⟩
     have hgt : (prt (turnO r.op o.st) C.ops x.1)[x.1]? = some y := by rw [prt_get (by omega)]; exact hel
     refine W_skip (D_then (W_seq (W_block (W_seq (W_region (SG_q (Rq_move rfl) rfl (SG_q (Rq_assign rfl) rfl (SG_nil (D_then (W_seq (W_region (SG_q (Rq_move rfl) rfl (SG_q (Rq_nilCheck rfl) rfl (SG_q (Rq_fieldAddr fa92_0 rfl) rfl (SG_q (Rq_fieldAddr fa26_1 rfl) rfl (SG_q (Rq_loadB (hS.blk) Tryz.isAgg23 rfl rfl) rfl (SG_q (Rq_move rfl) rfl ?_)))))))))))))))))
     first | refine SG_index (hS.oO.sl) Tryz.runUnderlying23 Tryz.sizeOf76 rfl rfl ?_ ?_ rfl ?_ | refine SG_index (hS.oR.sl) Tryz.runUnderlying23 Tryz.sizeOf76 rfl rfl ?_ ?_ rfl ?_
     ·(try dsimp only); (try rw [prt_len]); omega
     ·(try dsimp only); (try rw [prt_len]); omega
     intro x45 hx45 hc45;have ex45 := Option.some.inj ((hgt).symm.trans hx45); subst ex45;refine SG_call rfl Tryz.call60 rfl (f60_c _ rfl _) ?_;rintro v46 w46 hb46 ⟨c46, rfl, hK46, hkl46⟩;replace hb0 := btr hb0 hb46;replace hS := hS.below hb46;replace hB3 := hB3.below hb46;replace hB5 := hB5.below hb46;replace hMk := hMk.below hb46;replace hc45 := hc45.below hb46;refine SG_nil (D_then (W_block ?_))
     have hSl : ∀ k, StB bs rM vC vO vR vU vT k → k < w46.heap.size := fun k hk => (hS.lt hk).2
     have hml := hMk.lt;have hch46 := hch.trans (Chg.of_below _ hb0);have hw46 := hch46.size;refine W_range rfl rfl Tryz.call74 (fun w' hb => f74_it (hK46.below hb) (hc45.below hb)) (fun k h => h.elim) (σ := Unit) (fun pre _ w' => ApC w bs vO vR w' ∧ St (⟨84, 76, 3, 4, 92⟩ : StTy) lo w' bs rM vC vO vR vU vT ⟨C.ch, (prt (turnO r.op o.st) C.ops x.1).set x.1 (turnK r.op o.st pre.length y), C.roots⟩ (usedR C) (truthsR C.ops) (firstR C.ops) ∧ Blk w' b3 (encR r) 45 ∧ Blk w' b5 (encOc o) 119 ∧ Marks w' x.2) (fun _ _ _ _ => False) (fun _ k => vO.ownBlock = some k) () ?hJ (fun _ _ _ _ _ h _ => h) (fun pre u w1 k h hm => .inl ⟨hSl _ (StB.O hm), fun h => h⟩) (fun _ _ _ _ _ h _ => h.elim) ⟨hch46, by rw [List.length_nil, turnK_zero, set_same hgt]; exact hS, hB3, hB5, hMk⟩ ?_ ?_ ?_
     case hJ => exact fun pre u w1 w2 ⟨h1, h2, h3, h4, h5⟩ hc => ⟨h1.trans (hc.mono fun k _ hk => .inl (Nat.le_of_not_lt fun hlt => hk (.inl (Nat.lt_of_lt_of_le hlt hw46)))), h2.chg hc (fun k hk e => e (.inl (hSl k hk))), h3.chg hc (fun e => e (.inl hB3.lt)), h4.chg hc (fun e => e (.inl hB5.lt)), h5.chg hc (fun D hD e => e (.inl (hml D hD)))⟩
     ·rintro pre j post u w6 hsp hJ6 hsz6
      have hb0 := Below.refl w6.heap.size w6;refine W_region (SG_q (Rq_assign rfl) rfl (SG_nil (D_as ?_)));rintro w7 ⟨⟨hch7, hS, hB3, hB5, hMk⟩, hsz7, hrec7⟩;have hb0 := Below.refl w7.heap.size w7;obtain ⟨hjp, hjn⟩ := rangeSplit hsp;subst hjp
      have hj3 : pre.length < 3 := by have := arN_le y.code; omega
      have hgk : ((prt (turnO r.op o.st) C.ops x.1).set x.1 (turnK r.op o.st pre.length y))[x.1]? = some (turnK r.op o.st pre.length y) := set_get (by rw [prt_len]; omega);have hcl := hS.oO.sl.cells x.1 _ hgk;have hcc := Chg.refl (fun k => vO.ownBlock = some k) w7;refine W_block ?_;refine W_seq ?_;refine W_quiet (Tryz.mixed) (by kernel_rfl) ?_;refine QS_q (Rq_move rfl) rfl ?_;refine QS_q (Rq_nilCheck rfl) rfl ?_;refine QS_q (Rq_load Tryz.isAgg3 rfl (opnd_cells hcl hj3)) rfl ?_;refine QS_q (Rq_fieldAddr fa45_1 rfl) rfl ?_;refine QS_q (Rq_loadB (hB3) Tryz.isAgg3 rfl rfl) rfl ?_;refine QS_q (Rq_eql rfl rfl) rfl ?_;refine QS_nil ?_;intro wr9 hbr9;replace hb0 := btr hb0 hbr9;replace hcc := hcc.trans (Chg.of_below _ hbr9);replace hS := hS.below hbr9;replace hB3 := hB3.below hbr9;replace hB5 := hB5.below hbr9;replace hMk := hMk.below hbr9;refine D_then ?_;refine W_cond rfl ?_ ?_
      ·intro g53
       try simp only [dd] at g53
       rw [turnK_get _ _ _ hj3] at g53;refine W_region ?_;refine SG_q (Rq_move rfl) rfl ?_;refine SG_q (Rq_fieldAddr fa119_1 rfl) rfl ?_;refine SG_q (Rq_loadB (hB5) Tryz.isAgg3 rfl rfl) rfl ?_;refine SG_q (Rq_nilCheck rfl) rfl ?_;refine SG_storeE (n := 1) (o := 1 + pre.length) (elt := turnK r.op o.st pre.length y) (elt' := turnK r.op o.st (pre.length + 1) y) hS.oO rfl rfl rfl rfl Tryz.sizeOf3 rfl hgk (by simp only [List.length_cons, List.length_nil]; omega) (by rw [turnK_set _ _ _ hj3, g53, turnI, if_pos rfl]) ?_;intro ws10 hcs10 hOs10
       simp only [Int.toNat_natCast, List.set_set] at hOs10
       replace hB3 := hB3.chg hcs10 (fun e => ne_hS_b3 _ (StB.O e) rfl);replace hB5 := hB5.chg hcs10 (fun e => ne_hS_b5 _ (StB.O e) rfl);replace hMk := hMk.chg hcs10 (fun D hD e => hS.oO.ne_mark hMk e D hD rfl);replace hS := hS.setO hcs10 hOs10;replace hcc := hcc.trans hcs10;clear hb0;have hb0 := Below.refl ws10.heap.size ws10;refine SG_nil (D_block ?_)
       exact fun a _ => ⟨(), ⟨hch7.trans (hcc.mono fun k _ e => .inr (StC.O e)), by rw [List.length_append]; first | exact hS | (show St (⟨84, 76, 3, 4, 92⟩ : StTy) lo _ bs rM vC vO vR vU vT ⟨C.ch, (prt (turnO r.op o.st) C.ops x.1).set x.1 (turnK r.op o.st (pre.length + 1) y), C.roots⟩ (usedR C) (truthsR C.ops) (firstR C.ops); rw [turnK_same _ _ _ hj3 g53]; exact hS), hB3, hB5, hMk⟩, hcc, fun k _ h => h⟩
      ·intro g53
       try simp only [dd] at g53
       rw [turnK_get _ _ _ hj3] at g53;refine W_skip (D_block ?_)
       exact fun a _ => ⟨(), ⟨hch7.trans (hcc.mono fun k _ e => .inr (StC.O e)), by rw [List.length_append]; first | exact hS | (show St (⟨84, 76, 3, 4, 92⟩ : StTy) lo _ bs rM vC vO vR vU vT ⟨C.ch, (prt (turnO r.op o.st) C.ops x.1).set x.1 (turnK r.op o.st (pre.length + 1) y), C.roots⟩ (usedR C) (truthsR C.ops) (firstR C.ops); rw [turnK_same _ _ _ hj3 g53]; exact hS), hB3, hB5, hMk⟩, hcc, fun k _ h => h⟩
     ·rintro u w8 ⟨hch8, hS, hB3, hB5, hMk⟩ hsz8 hmk8
      rw [List.length_range, turnK_all, prt_set hel] at hS;have hb0 := Below.refl w8.heap.size w8;refine D_block ?_;refine D_block ?_;refine D_then ?_;refine W_region ?_;refine SG_q (Rq_add rfl rfl (wrap_i64 (by omega) (by omega))) rfl ?_;refine SG_q (Rq_move rfl) rfl ?_;refine SG_nil ?_;refine D_loopD ((x.1 + 1, _ :: x.2)) (by repeat (first | exact Sub.nil | refine Sub.cons rfl ?_)) (by rfl) ⟨by dsimp only; omega, hch8.trans (Chg.of_below _ hb0), hS, hB3, hB5, hMk.cons ((Below.block hb0 _ (Array.getElem?_eq_some_iff.1 hmk8).1).trans hmk8) hml, (fun D hD => by rcases List.mem_cons.1 hD with rfl | hD; exact hw46; exact hms D hD)⟩ (by dsimp only; omega)
     ·rintro c pre s w9 hx; exact hx.elim
    ·intro g37
     try simp only [dd] at g37
     have hxe : C.ops.length ≤ x.1 := by omega
     rw [prt_end hxe] at hS;refine W_exit (D_then_exit (D_loopD_exit ?_));refine D_block_exit (D_then (W_seq (W_region (SG_q (Rq_move rfl) rfl (SG_q (Rq_nilCheck rfl) rfl (SG_q (Rq_fieldAddr fa92_0 rfl) rfl (SG_q (Rq_fieldAddr fa26_2 rfl) rfl (SG_q (Rq_loadB (hS.blk) Tryz.isAgg24 rfl rfl) rfl ?_))))))))
     first | refine SG_q (Rq_len (hS.oO.sl) Tryz.runUnderlying24 rfl) rfl ?_ | refine SG_q (Rq_len (hS.oR.sl) Tryz.runUnderlying24 rfl) rfl ?_
     refine SG_q (Rq_move rfl) rfl ?_;refine SG_nil ?_;refine D_then ?_;refine W_block ?_;refine W_loop (α := Nat) (fun z => [(65, .int .i64 (z : Nat)), (64, .int .i64 (C.roots.length : Nat)), (63, vR), (0, .pointer (some ⟨bs, 0, none⟩)), (3, .pointer (some ⟨b3, 0, none⟩)), (5, .pointer (some ⟨b5, 0, none⟩))]) (fun z w' => z ≤ C.roots.length ∧ ApC w bs vO vR w' ∧ St (⟨84, 76, 3, 4, 92⟩ : StTy) lo w' bs rM vC vO vR vU vT ⟨C.ch, C.ops.map (turnO r.op o.st), prt (turnI r.op o.st) C.roots z⟩ (usedR C) (truthsR C.ops) (firstR C.ops) ∧ Blk w' b3 (encR r) 45 ∧ Blk w' b5 (encOc o) 119 ∧ Marks w' x.2) (fun z => C.roots.length - z) (0) (by repeat (first | exact Sub.nil | refine Sub.cons rfl ?_)) ⟨Nat.zero_le _, hch.trans (Chg.of_below _ hb0), by rw [prt_zero]; exact hS, hB3, hB5, hMk⟩ ?_;clear hb0;clear hS;clear hB3;clear hB5;clear hMk;rintro z wl1 ⟨hz, hch, hS, hB3, hB5, hMk⟩;have hb0 := Below.refl wl1.heap.size wl1;refine W_seq ?_;refine W_region ?_;refine SG_q (Rq_lss rfl rfl) rfl ?_;refine SG_nil ?_;refine D_then ?_;refine W_seq ?_;refine W_cond rfl ?_ ?_
     ·intro g66
      try simp only [dd] at g66
      have hzl : z < C.roots.length := by omega
      obtain ⟨m, hm⟩ : ∃ m, C.roots[z]? = some m := ⟨_, List.getElem?_eq_getElem hzl⟩
      have hgr : (prt (turnI r.op o.st) C.roots z)[z]? = some m := by rw [prt_get (by omega)]; exact hm
      refine W_skip (D_then (W_seq (W_block (W_seq (W_region (SG_q (Rq_move rfl) rfl ?_))))))
      first | refine SG_index (hS.oO.sl) Tryz.runUnderlying24 Tryz.sizeOf3 rfl rfl ?_ ?_ rfl ?_ | refine SG_index (hS.oR.sl) Tryz.runUnderlying24 Tryz.sizeOf3 rfl rfl ?_ ?_ rfl ?_
      ·(try dsimp only); (try rw [prt_len]); omega
      ·(try dsimp only); (try rw [prt_len]); omega
      intro x68 hx68 hc68;have ex68 := Option.some.inj ((hgr).symm.trans hx68); subst ex68;refine SG_q (Rq_load Tryz.isAgg3 rfl ((hc68).cell 0 rfl)) rfl (SG_q (Rq_assign rfl) rfl (SG_q (Rq_assign rfl) rfl (SG_nil (D_then (W_seq (W_region (SG_q (Rq_move rfl) rfl (SG_q (Rq_fieldAddr fa45_1 rfl) rfl (SG_q (Rq_loadB (hB3) Tryz.isAgg3 rfl rfl) rfl (SG_q (Rq_eql rfl rfl) rfl (SG_nil (D_then ?_))))))))))));refine W_cond rfl ?_ ?_
      ·intro g73
       try simp only [dd] at g73
       refine W_any 8 [[], [0], [1], [2], [3], [], [], [6]] [det [] ?a16_0n4, det [0] ?a16_1n4, det [1] ?a16_2n4, det [2] ?a16_3n4, det [3] ?a16_4n4, det [] ?a16_5n4, det [] ?a16_6n4, det [6] ?a16_7n4] Tryz.mixed (by kernel_rfl) rfl ⟨det_stab _ _, det_stab _ _, det_stab _ _, det_stab _ _, det_stab _ _, det_stab _ _, det_stab _ _, det_stab _ _, trivial⟩ ?_ ?_; rotate_left 8
       ·refine Obls_cons ?_ ?_
        ·intro wq hbq
         refine Obl_nil ?_
         refine Ex_q2 (Rq_move rfl) ?_; first | exact rfl | rfl
        refine Obls_cons ?_ ?_
        ·intro wq hbq
         refine Obl_det rfl rfl (Obl_nil ?_)
         refine Ex_q2 (Rq_nilCheck rfl) ?_; first | exact rfl | rfl
        refine Obls_cons ?_ ?_
        ·intro wq hbq
         refine Obl_det rfl rfl (Obl_nil ?_)
         refine Ex_q2 (Rq_fieldAddr fa92_0 rfl) ?_; first | exact rfl | rfl
        refine Obls_cons ?_ ?_
        ·intro wq hbq
         refine Obl_det rfl rfl (Obl_nil ?_)
         refine Ex_q2 (Rq_fieldAddr fa26_2 rfl) ?_; first | exact rfl | rfl
        refine Obls_cons ?_ ?_
        ·intro wq hbq
         refine Obl_det rfl rfl (Obl_nil ?_)
         refine Ex_q2 (Rq_loadB ((hS.blk).below hbq) Tryz.isAgg24 rfl rfl) ?_; first | exact rfl | rfl
        refine Obls_cons ?_ ?_
        ·intro wq hbq
         refine Obl_nil ?_
         refine Ex_q2 (Rq_move rfl) ?_; first | exact rfl | rfl
        refine Obls_cons ?_ ?_
        ·intro wq hbq
         refine Obl_nil ?_
         refine Ex_q2 (Rq_fieldAddr fa119_1 rfl) ?_; first | exact rfl | rfl
        refine Obls_cons ?_ ?_
        ·intro wq hbq
         refine Obl_det rfl rfl (Obl_nil ?_)
         refine Ex_q2 (Rq_loadB ((hB5).below hbq) Tryz.isAgg3 rfl rfl) ?_; first | exact rfl | rfl
        exact Obls_nil
       ·intro wa16 hba16
        replace hb0 := btr hb0 hba16;replace hS := hS.below hba16;replace hB3 := hB3.below hba16;replace hB5 := hB5.below hba16;replace hMk := hMk.below hba16;refine Fin_det rfl (Fin_det rfl (Fin_det rfl (Fin_det rfl (Fin_det rfl (Fin_det rfl (Fin_det rfl (Fin_det rfl (Fin_nil ?_))))))))
        simp only [List.drop_succ_cons, List.drop_zero]
        refine SG_q (Rq_index (hS.oR.sl) Tryz.runUnderlying24 Tryz.sizeOf3 rfl rfl (by omega) (by dsimp only; rw [prt_len]; omega)) rfl ?_;refine SG_storeE (n := 1) (o := 0) (elt := m) (elt' := o.st) hS.oR rfl rfl rfl rfl Tryz.sizeOf3 rfl hgr (Nat.le_refl 1) rfl ?_;intro ws16 hcs16 hOs16;replace hch := (hch.trans (Chg.of_below _ hb0)).trans (hcs16.mono fun k _ e => .inr (StC.R e));replace hB3 := hB3.chg hcs16 (fun e => ne_hS_b3 _ (StB.R e) rfl);replace hB5 := hB5.chg hcs16 (fun e => ne_hS_b5 _ (StB.R e) rfl);replace hMk := hMk.chg hcs16 (fun D hD e => hS.oR.ne_mark hMk e D hD rfl);clear hc68;replace hS := hS.setR hcs16 hOs16;clear hb0;have hb0 := Below.refl ws16.heap.size ws16;refine SG_nil ?_;refine D_block ?_;refine D_then ?_;refine W_region ?_;refine SG_q (Rq_add rfl rfl (wrap_i64 (by omega) (by omega))) rfl ?_;refine SG_q (Rq_move rfl) rfl ?_;refine SG_nil ?_;refine D_loop (z + 1) (by repeat (first | exact Sub.nil | refine Sub.cons rfl ?_)) ⟨by omega, hch.trans (Chg.of_below _ hb0), by rw [← prt_set hm]; first | (rw [turnI, if_pos g73]; exact hS) | (rw [turnI, if_neg g73, set_same hgr]; exact hS), hB3, hB5, hMk⟩ (by omega)
      ·intro g73
       try simp only [dd] at g73
       refine W_skip ?_;refine D_block ?_;refine D_then ?_;refine W_region ?_;refine SG_q (Rq_add rfl rfl (wrap_i64 (by omega) (by omega))) rfl ?_;refine SG_q (Rq_move rfl) rfl ?_;refine SG_nil ?_;refine D_loop (z + 1) (by repeat (first | exact Sub.nil | refine Sub.cons rfl ?_)) ⟨by omega, hch.trans (Chg.of_below _ hb0), by rw [← prt_set hm]; first | (rw [turnI, if_pos g73]; exact hS) | (rw [turnI, if_neg g73, set_same hgr]; exact hS), hB3, hB5, hMk⟩ (by omega)
     ·intro g66
      try simp only [dd] at g66
      have hze : C.roots.length ≤ z := by omega
      rw [prt_end hze] at hS
      have heq : appR C r = ⟨C.ch, C.ops.map (turnO r.op o.st), C.roots.map (turnI r.op o.st)⟩ := by rw [appR, ho, outC, if_neg g88]
      have hck1 := app_check hck hi0 hi1 hap1;rw [heq] at hck1;refine W_exit (D_then_exit (D_loop_exit ?_));refine D_block_exit (D_block (D_then (W_seq (W_region (SG_q (Rq_move rfl) rfl ?_)))));have hwz := (hch.trans (Chg.of_below _ hb0)).size;refine SG_callC rfl Tryz.call59 rfl (K := fun v w' => ∃ rM' vU' vT', Chg (· = bs) wl1 w' ∧ StF (⟨84, 76, 3, 4, 92⟩ : StTy) lo w' bs rM' vC vO vR vU' vT' (appR C r) ∧ Chg (fun k => w.heap.size ≤ k ∨ StC bs vO vR k) w w' ∧ (∀ k, StB bs rM' vC vO vR vU' vT' k → w.heap.size ≤ k ∨ StB bs rM vC vO vR vU vT k)) ?_ ?_
      ·refine Calls.mono (f59_c hS.blk hS.oO.sl hS.oR.sl hck1 hS.nO hS.nR) ?_
       rintro e w' ⟨rM', vU', vT', rfl, h1, h2, h3, h4, h5, h6, h7⟩;exact ⟨_, rfl, rM', vU', vT', h1, (by rw [heq]; exact hS.relook h1 h2 h3 h4 h5 h6 h7), (hch.trans (Chg.of_below _ hb0)).trans (h1.mono fun k _ e => .inr (by subst e; exact StC.self)), StB.new (Nat.le_trans hwz h6) (fun k e => Nat.le_trans hwz (h3.lt e).1) (fun k e => Nat.le_trans hwz (h4.lt e).1)⟩
      rintro v103 w103 ⟨rM', vU', vT', hc103, hS', hch', hnew⟩;replace hMk := hMk.chg hc103 (fun D hD e => hMk.ne hS.blk D hD e);clear hS;clear hb0;have hb0 := Below.refl w103.heap.size w103;refine SG_nil (D_then (W_seq (W_region (SG_q (Rq_assign rfl) rfl (SG_nil (D_then (W_ret (D_bodyM1 rfl rfl hMk rfl (fun w9 hc9 => ?_)))))))))
      have he : applyR C r = (appR C r, 0) := by rw [applyR, if_neg (by omega), ho, if_neg (by simp [hap])]
      rw [he];exact ⟨rM', vU', vT', rfl, hS'.chg hc9 (fun k hk hm => hS'.ne_mark hMk k hk hm), ((hch'.trans (Chg.of_below _ hb0)).trans (hc9.mono fun k _ hk => .inl (hms k hk))).mono (fun k hk e => e.resolve_left (by omega)), hnew⟩
end Go.Proofs.YtphmoebiobjfhaaGreat
