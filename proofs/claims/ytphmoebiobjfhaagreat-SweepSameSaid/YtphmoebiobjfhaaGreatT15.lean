/- Walks of functions, printed by a program of the author. -/
import Derived.Test.YtphmoebiobjfhaaGreatTd
import Derived.Test.YtphmoebiobjfhaaGreatT14
set_option linter.all false
namespace Go.Proofs.YtphmoebiobjfhaaGreat
open Go Go.Mi Go.RowKit
theorem ck3 (b : Bool) (k : Int) (w : World) : (Instr.checkKey b 10000 3 (valI k)).run Tryz.prog w = .ok () w := by
 generalize hn : 10000 = n
 cases n with
 | zero => cases hn
 | succ n => clear hn; simp [Instr.checkKey, valI, Sem.run_bind, Tryz.runUnderlying3, Result.andThen]
theorem key3 : KeyEq Tryz.prog 3 valI := ⟨_, Tryz.runUnderlying3, ck3, .inl fun a b => by simp only [Instr.sameNow, valI]; congr 1⟩
set_option maxHeartbeats 1000000 in
theorem f42_c {lo bs rM : Nat} {vC vO vR vU vT : Value} {C : Co} {w : World} (hS : StF (⟨84, 76, 3, 4, 92⟩ : StTy) lo w bs rM vC vO vR vU vT C) (hck : checkR C = 0) : Mi.Fn Tryz.prog 42 #[.pointer (some ⟨bs, 0, none⟩)] w fun v w' => ∃ uO uR, v = .agg [vC, uO, uR].toArray ∧ OS w' uO 76 5 encO (tidyR C).ops w.heap.size ∧ OS w' uR 3 1 encI (tidyR C).roots w.heap.size := by
 obtain ⟨⟨hl1, hl2, hl3⟩, hroots, hops⟩ := check_ok hck
 obtain ⟨aC, nC, cC, hCv⟩ : ∃ a n c, vC = .slice a n c := by obtain ⟨a, c, h⟩ := hS.oC.sl.len; exact ⟨_, _, _, h⟩
 have hb0 := Below.refl w.heap.size w;refine calls_of_WM Tryz.func42 rfl Tryz.ntmps42 rfl ?_;refine W_seq (W_region (SG_box rfl rfl rfl ?_));intro w1 b1 e1 hb1 hz1 hB1
 have hle1 : w.heap.size ≤ b1 := by have := hb0.size; omega
 have ne_hS_b1 : ∀ k, StB bs rM vC vO vR vU vT k → ¬ k = b1 := fun k hk => by have := hS.lt hk; omega
 replace hb0 := btr hb0 hb1;replace hS := hS.below hb1;refine SG_alloc Tryz.zeroValue26 rfl rfl ?_;intro w2 b2 e2 hb2 hz2 hB2
 have hle2 : w.heap.size ≤ b2 := by have := hb0.size; omega
 have ne_hS_b2 : ∀ k, StB bs rM vC vO vR vU vT k → ¬ k = b2 := fun k hk => by have := hS.lt hk; omega
 have ne_b1_2 : ¬ b1 = b2 := by have := hB1.lt; omega
 replace hb0 := btr hb0 hb2;replace hS := hS.below hb2;replace hB1 := hB1.below hb2;refine SG_nil (D_then (W_seq (W_region (SG_makeMap (K := Int) (V := Int) (key := valI) (val := valI) rfl ?_))));intro w9 r9 e9 hb9 hz9 hMp
 have ne_hS_r9 : ∀ k, StB bs rM vC vO vR vU vT k → ¬ k = r9 := fun k hk => by have := hS.lt hk; omega
 have hlt19 : b1 < r9 ∧ b2 < r9 := by have := hB1.lt; have := hB2.lt; omega
 have hwr9 : w.heap.size ≤ r9 := by have := hb0.size; omega
 replace hb0 := btr hb0 hb9;replace hS := hS.below hb9;replace hB1 := hB1.below hb9;replace hB2 := hB2.below hb9;refine SG_alloc Tryz.zeroValue110 rfl rfl ?_;intro w3 b3 e3 hb3 hz3 hB3
 have hle3 : w.heap.size ≤ b3 := by have := hb0.size; omega
 have ne_hS_b3 : ∀ k, StB bs rM vC vO vR vU vT k → ¬ k = b3 := fun k hk => by have := hS.lt hk; omega
 have ne_b1_3 : ¬ b1 = b3 := by have := hB1.lt; omega
 have ne_b2_3 : ¬ b2 = b3 := by have := hB2.lt; omega
 have ne_b3_2 : ¬ b3 = b2 := by omega
 have ne_hMp_b3 : ¬ r9 = b3 := by have := hMp.lt; omega
 replace hb0 := btr hb0 hb3;replace hS := hS.below hb3;replace hB1 := hB1.below hb3;replace hB2 := hB2.below hb3;replace hMp := hMp.below hb3;refine SG_storeW (hB3) rfl rfl rfl rfl Tryz.sizeOf110 rfl rfl ?_;intro ws1x2 hchs1x2 hBs1x2;replace hb0 := bchg hb0 hchs1x2 hle3;replace hS := hS.chg hchs1x2 (ne_hS_b3);replace hB1 := hB1.chg hchs1x2 ne_b1_3;replace hB2 := hB2.chg hchs1x2 ne_b2_3;replace hMp := hMp.chg hchs1x2 ne_hMp_b3;clear hB3;refine SG_nil (D_then (W_seq (W_seq (W_region (SG_q (Rq_loadB (hB1) Tryz.isAgg79 rfl rfl) rfl (SG_q (Rq_makeFuncB rfl) rfl (SG_nil (D_then (W_block ?_)))))))))
 have hSl : ∀ k, StB bs rM vC vO vR vU vT k → k < ws1x2.heap.size := fun k hk => (hS.lt hk).2
 have hB3 := hBs1x2;have hb1z := hB1.lt; have hb2z := hB2.lt; have hb3z := hB3.lt; have hr9z := hMp.lt; have hwW := hb0.size;have hnd := found_nodup hck;have hfl := nodup_le hnd.1 hnd.2
 have ne_hMp_b2 : ¬ r9 = b2 := by omega
 have ne_hV_b2 := hb2z;have ne_hW_b2 := hb2z;refine W_rangeB rfl rfl Tryz.call53 (fun w' hb => f53_it (hS.below hb) hck) (fun k hk => (hS.lt hk).2) (σ := Value) (fun pre u w' => Below w.heap.size w w' ∧ StF (⟨84, 76, 3, 4, 92⟩ : StTy) lo w' bs rM vC vO vR vU vT C ∧ Blk w' b1 [.pointer (some ⟨bs, 0, none⟩)] 79 ∧ Blk w' b2 [.slice none 0 0, u, .slice none 0 0] 26 ∧ Blk w' b3 [.map (some r9)] 110 ∧ Mp w' r9 valI valI (toKV pre) ∧ OS w' u 76 5 encO (tidyO C.ops pre) (ws1x2.heap.size + 2)) (fun _ _ _ _ => False) (fun u k => k = b2 ∨ k = r9 ∨ u.ownBlock = some k) (.slice none 0 0) ?hJ (fun _ _ _ _ _ h _ => h) ?hM (fun _ _ _ _ _ h _ => h.elim) ⟨hb0, hS, hB1, hB2, hB3, hMp, OS.nil (fun _ => rfl) (by decide)⟩ ?_ ?_ ?_
 case hJ => exact fun pre u w1 w2 ⟨h0, h1, h2, h3, h4, h5, h6⟩ hc => ⟨h0.trans (hc.below h0.size fun k hk e => e (.inl (Nat.lt_of_lt_of_le hk hwW))), h1.chg hc (fun k hk e => e (.inl (hSl k hk))), h2.chg hc (fun e => e (.inl hb1z)), h3.chg hc (fun e => e (.inr (.inl rfl))), h4.chg hc (fun e => e (.inl hb3z)), h5.chg hc (fun e => e (.inr (.inr (.inl rfl)))), h6.chg hc (fun b e e2 => e2 (.inr (.inr (.inr e))))⟩
 case hM => exact fun pre u w1 k h hm => by rcases hm with rfl | rfl | hm; exact .inl ⟨hb2z, fun hk => ne_hS_b2 _ hk rfl⟩; exact .inl ⟨hr9z, fun hk => ne_hS_r9 _ hk rfl⟩; exact .inr (h.2.2.2.2.2.2.lt hm)
 ·rintro pre i post u wr6 hsp hJ6 hsz6
  have hb0 := Below.refl wr6.heap.size wr6;refine W_region (SG_q (Rq_assign rfl) rfl (SG_nil (D_as ?_)));rintro wr7 ⟨⟨hbw7, hS, hB1, hB2, hB3, hMp, hV⟩, hsz7, hLp⟩;have hb0 := Below.refl wr7.heap.size wr7;replace hLp : LoopAt wr7 (ws1x2.heap.size + 1) := hLp
  have hxm : i ∈ foundR C := by rw [hsp]; simp
  obtain ⟨hi0, hi1⟩ := hnd.2 i hxm
  obtain ⟨y, hy⟩ : ∃ y, getO C.ops i = y := ⟨_, rfl⟩
  have hyi := getO_some hi0 hi1;rw [hy] at hyi
  have hndp : (pre ++ [i]).Nodup := by have h := hnd.1; rw [hsp, show pre ++ i :: post = (pre ++ [i]) ++ post by simp] at h; exact (List.nodup_append.1 h).1
  have hplen : pre.length < 3000 := by have h := congrArg List.length hsp; simp only [List.length_append, List.length_cons] at h; omega
  have hVl : ∀ k, u.ownBlock = some k → ws1x2.heap.size + 2 ≤ k := fun k e => (hV.lt e).1
  have hcc := Chg.refl (fun k => k = b2 ∨ k = r9 ∨ u.ownBlock = some k) wr7;refine W_block (W_seq (W_region (SG_q (Rq_loadB (hB1) Tryz.isAgg79 rfl rfl) rfl (SG_q (Rq_nilCheck rfl) rfl (SG_q (Rq_fieldAddr fa92_0 rfl) rfl (SG_q (Rq_fieldAddr fa26_1 rfl) rfl (SG_q (Rq_loadB (hS.blk) Tryz.isAgg23 rfl rfl) rfl (SG_q (Rq_move rfl) rfl ?_))))))))
  first | refine SG_index (hS.oO.sl) Tryz.runUnderlying23 Tryz.sizeOf76 rfl rfl ?_ ?_ rfl ?_ | refine SG_index (hS.oR.sl) Tryz.runUnderlying23 Tryz.sizeOf76 rfl rfl ?_ ?_ rfl ?_ | refine SG_index (hV.sl) Tryz.runUnderlying23 Tryz.sizeOf76 rfl rfl ?_ ?_ rfl ?_
  ·omega
  ·omega
  intro x19 hx19 hc19;have ex19 := Option.some.inj ((hyi).symm.trans hx19); subst ex19;refine SG_q (Rq_loadA Tryz.isAgg76 Tryz.sizeOf76 rfl ((hc19)) rfl) rfl (SG_alloc Tryz.zeroValue76 rfl rfl ?_);intro w5 b5 e5 hb5 hz5 hB5
  have hle5 : wr7.heap.size ≤ b5 := by have := hb0.size; omega
  have hlc5 : wr7.heap.size ≤ b5 := by have := hcc.size; omega
  have ne_hS_b5 : ∀ k, StB bs rM vC vO vR vU vT k → ¬ k = b5 := fun k hk => by have := hS.lt hk; omega
  have ne_b1_5 : ¬ b1 = b5 := by have := hB1.lt; omega
  have ne_b2_5 : ¬ b2 = b5 := by have := hB2.lt; omega
  have ne_b3_5 : ¬ b3 = b5 := by have := hB3.lt; omega
  have ne_hMp_b5 : ¬ r9 = b5 := by have := hMp.lt; omega
  have ne_hV_b5 : ∀ k, Value.ownBlock u = some k → ¬ k = b5 := fun k e => by have := hV.lt e; omega
  have ne_hLp_b5 : ¬ (ws1x2.heap.size + 1) = b5 := by have := hLp.lt; omega
  replace hb0 := btr hb0 hb5;replace hcc := hcc.trans (Chg.of_below _ hb5);replace hS := hS.below hb5;replace hB1 := hB1.below hb5;replace hB2 := hB2.below hb5;replace hB3 := hB3.below hb5;replace hMp := hMp.below hb5;replace hV := hV.below hb5;replace hLp := hLp.below hb5;refine SG_storeW (hB5) rfl rfl rfl rfl Tryz.sizeOf76 rfl rfl ?_;intro ws4x9 hchs4x9 hBs4x9;replace hcc := hcc.then hchs4x9 (fun k hk e => by first | (subst e; simp; done) | (exfalso; omega));clear hb0;have hb0 := Below.refl ws4x9.heap.size ws4x9;replace hS := hS.chg hchs4x9 (ne_hS_b5);replace hB1 := hB1.chg hchs4x9 ne_b1_5;replace hB2 := hB2.chg hchs4x9 ne_b2_5;replace hB3 := hB3.chg hchs4x9 ne_b3_5;replace hMp := hMp.chg hchs4x9 ne_hMp_b5;replace hV := hV.chg hchs4x9 (fun k e e2 => by first | exact ne_hV_b5 k e e2 | (have := hV.lt e; have := ne_hV_b5; omega));replace hLp := hLp.chg hchs4x9 ne_hLp_b5;clear hc19;clear hB5;refine SG_nil ?_;refine D_then ?_;refine W_seq ?_;refine W_seq ?_;refine W_region ?_;refine SG_call rfl Tryz.call60 rfl (f60_c _ rfl _) ?_;rintro v21 w21 hb21 ⟨c21, rfl, hK21, hkl21⟩;replace hb0 := btr hb0 hb21;replace hcc := hcc.trans (Chg.of_below _ hb21);replace hS := hS.below hb21;replace hB1 := hB1.below hb21;replace hB2 := hB2.below hb21;replace hB3 := hB3.below hb21;replace hMp := hMp.below hb21;replace hV := hV.below hb21;replace hLp := hLp.below hb21;replace hBs4x9 := hBs4x9.below hb21;refine SG_nil ?_;refine D_then ?_;refine W_block ?_;obtain ⟨r0, hl0⟩ := hLp
  have hSl21 : ∀ k, StB bs rM vC vO vR vU vT k → k < w21.heap.size := fun k hk => (hS.lt hk).2
  have hz1 := hB1.lt; have hz2 := hB2.lt; have hz3 := hB3.lt; have hzr := hMp.lt; have hz5 := hBs4x9.lt; have hzv : ∀ k, u.ownBlock = some k → k < w21.heap.size := fun k e => (hV.lt e).2
  have hcz := hcc.size;have hbwz := hbw7.size;have hbw21 := hbw7.trans (hcc.below hbw7.size (fun k hk e => by rcases e with rfl | rfl | e; omega; omega; have := (hV.lt e).1; omega));have hz210 := hbw21.size;have hndq : pre.Nodup := (List.nodup_append.1 hndp).1;refine W_rangeN (bnd := []) hl0 rfl rfl Tryz.call74 (fun w' hb => f74_it (hK21.below hb) ((hBs4x9.below hb).cells rfl)) (fun k h => h.elim) (σ := Unit) (fun pre2 _ w' => (Below w.heap.size w w' ∧ StF (⟨84, 76, 3, 4, 92⟩ : StTy) lo w' bs rM vC vO vR vU vT C ∧ Blk w' b1 [.pointer (some ⟨bs, 0, none⟩)] 79 ∧ Blk w' b2 [.slice none 0 0, u, .slice none 0 0] 26 ∧ Blk w' b3 [.map (some r9)] 110 ∧ Mp w' r9 valI valI (toKV pre) ∧ OS w' u 76 5 encO (tidyO C.ops pre) (ws1x2.heap.size + 2)) ∧ Blk w' b5 (encO (atK (toR pre) pre2.length y)) 76 ∧ Chg (fun k => k = b2 ∨ k = r9 ∨ u.ownBlock = some k) wr7 w') (fun _ _ _ _ => False) (fun _ k => k = b5) () ?hJ2 (fun _ _ _ _ _ h _ => h) (fun pre2 u2 w1 k h hm => .inl ⟨by rw [hm]; exact hz5, fun h => h⟩) (fun _ _ _ _ _ h _ => h.elim) ⟨⟨hbw21, hS, hB1, hB2, hB3, hMp, hV⟩, by rw [List.length_nil, atK_zero]; exact hBs4x9, hcc⟩ ?_ ?_ ?_
  case hJ2 => exact fun pre2 u2 w1 w2 ⟨⟨h0, h1, h2, h3, h4, h5, h6⟩, h7, h8⟩ hc => ⟨⟨h0.trans (hc.below h0.size fun k hk e => e (.inl (Nat.lt_of_lt_of_le hk hz210))), h1.chg hc (fun k hk e => e (.inl (hSl21 k hk))), h2.chg hc (fun e => e (.inl hz1)), h3.chg hc (fun e => e (.inl hz2)), h4.chg hc (fun e => e (.inl hz3)), h5.chg hc (fun e => e (.inl hzr)), h6.chg hc (fun b e e2 => e2 (.inl (hzv b e)))⟩, h7.chg hc (fun e => e (.inr rfl)), h8.then hc (fun k hk e => (e (.inl (Nat.lt_of_lt_of_le hk hcz))).elim)⟩
  ·rintro pre2 j post2 u2 wn6 hsp2 hJn6 hszn6
   have hb0 := Below.refl wn6.heap.size wn6;refine W_region (SG_q (Rq_assign rfl) rfl (SG_nil (D_as ?_)));rintro wn7 ⟨⟨⟨hbwn7, hS, hB1, hB2, hB3, hMp, hV⟩, hB5, hco⟩, hszn7, hrecn7⟩;have hb0 := Below.refl wn7.heap.size wn7;obtain ⟨hjp, hjn⟩ := rangeSplit hsp2;subst hjp
   have hj3 : pre2.length < 3 := by have := arN_le y.code; omega
   have hcc := Chg.refl (fun k => k = b5) wn7;refine W_block ?_;refine W_any 7 [[], [], [], [2], [3], [1, 4], [0]] [det [] ?a7_0n1, det [] ?a7_1n1, det [] ?a7_2n1, det [2] ?a7_3n1, det [3] ?a7_4n1, det [1, 4] ?a7_5n1, det [0] ?a7_6n1] Tryz.mixed (by kernel_rfl) rfl ⟨det_stab _ _, det_stab _ _, det_stab _ _, det_stab _ _, det_stab _ _, det_stab _ _, det_stab _ _, trivial⟩ ?_ ?_; rotate_left 7
   ·refine Obls_cons ?_ ?_
    ·intro wq hbq
     refine Obl_nil ?_
     refine Ex_q2 (Rq_move rfl) ?_; first | exact rfl | rfl
    refine Obls_cons ?_ ?_
    ·intro wq hbq
     refine Obl_nil ?_
     refine Ex_q2 (Rq_loadB ((hB3).below hbq) Tryz.isAgg110 rfl rfl) ?_; first | exact rfl | rfl
    refine Obls_cons ?_ ?_
    ·intro wq hbq
     refine Obl_nil ?_
     refine Ex_q2 (Rq_move rfl) ?_; first | exact rfl | rfl
    refine Obls_cons ?_ ?_
    ·intro wq hbq
     refine Obl_det rfl rfl (Obl_nil ?_)
     refine Ex_q2 (Rq_nilCheck rfl) ?_; first | exact rfl | rfl
    refine Obls_cons ?_ ?_
    ·intro wq hbq
     refine Obl_det rfl rfl (Obl_nil ?_)
     refine Ex_q2 (Rq_load Tryz.isAgg3 rfl (opnd_cell (hB5.below hbq) hj3)) ?_; first | exact rfl | rfl
    refine Obls_cons ?_ ?_
    ·intro wq hbq
     refine Obl_det rfl rfl (Obl_det rfl rfl (Obl_nil ?_))
     refine Ex_q2 (Rq_lookupI key3 Tryz.runUnderlying110 (hMp.below hbq) ((opndR (atK (toR pre) pre2.length y)).getD pre2.length 0) Tryz.zeroValue3 rfl rfl) ?_; first | exact rfl | rfl
    refine Obls_cons ?_ ?_
    ·intro wq hbq
     refine Obl_det rfl rfl (Obl_nil ?_)
     refine Ex_q2 (Rq_nilCheck rfl) ?_; first | exact rfl | rfl
    exact Obls_nil
   ·intro wa7 hba7
    replace hb0 := btr hb0 hba7;replace hcc := hcc.trans (Chg.of_below _ hba7);replace hS := hS.below hba7;replace hB1 := hB1.below hba7;replace hB2 := hB2.below hba7;replace hB3 := hB3.below hba7;replace hMp := hMp.below hba7;replace hV := hV.below hba7;replace hB5 := hB5.below hba7;refine Fin_det rfl (Fin_det rfl (Fin_det rfl (Fin_det rfl (Fin_det rfl (Fin_det rfl (Fin_det rfl (Fin_nil ?_)))))))
    simp only [List.drop_succ_cons, List.drop_zero]
    refine SG_store (hB5) rfl rfl rfl rfl Tryz.sizeOf3 rfl (by rw [Nat.ble_eq]; simp [encO]; omega) ?_;intro ws7 hcs7 hBs7;rw [Nat.zero_add, atK_get _ _ hj3, mget_toR hndq, atK_set _ _ hj3] at hBs7;replace hcc := hcc.trans hcs7;replace hS := hS.chg hcs7 ne_hS_b5;replace hV := hV.chg hcs7 ne_hV_b5;replace hMp := hMp.chg hcs7 ne_hMp_b5;replace hB1 := hB1.chg hcs7 ne_b1_5;replace hB2 := hB2.chg hcs7 ne_b2_5;replace hB3 := hB3.chg hcs7 ne_b3_5;clear hB5;clear hb0;have hb0 := Below.refl ws7.heap.size ws7;refine SG_nil ?_;refine D_block ?_
    exact fun a _ => ⟨(), ⟨⟨hbwn7.trans (hcc.below hbwn7.size (fun k hk e => by omega)), hS, hB1, hB2, hB3, hMp, hV⟩, by rw [List.length_append]; exact hBs7, hco.then hcc (fun k hk e => by exfalso; omega)⟩, hcc, fun k _ h => h⟩
  ·rintro u2 wn8 ⟨⟨hbwn8, hS, hB1, hB2, hB3, hMp, hV⟩, hB5, hcc⟩ hszn8
   rw [List.length_range, atK_all] at hB5;have hb0 := Below.refl wn8.heap.size wn8;refine D_block (D_then (W_seq (W_region (SG_q (Rq_loadB (hB3) Tryz.isAgg110 rfl rfl) rfl (SG_q (Rq_move rfl) rfl (SG_q (Rq_fieldAddr fa26_1 rfl) rfl (SG_q (Rq_loadB (hB2) Tryz.isAgg23 rfl rfl) rfl ?_)))))))
   first | refine SG_q (Rq_len (hS.oO.sl) Tryz.runUnderlying23 rfl) rfl ?_ | refine SG_q (Rq_len (hS.oR.sl) Tryz.runUnderlying23 rfl) rfl ?_ | refine SG_q (Rq_len (hV.sl) Tryz.runUnderlying23 rfl) rfl ?_
   refine SG_mapUpdate (X := ⟨some (ws1x2.heap.size + 1), Tryz.prog, 67, []⟩) (kt := 3) (et := 3) (key := valI) (val := valI) key3 Tryz.runUnderlying110 hMp i ((tidyO C.ops pre).length : Int) rfl rfl rfl (mget_new hndp) ?_;intro w85 hc85 hz85 hMs85;rw [tidyO_len, ← toKV_snoc] at hMs85;replace hcc := hcc.then hc85 (fun k hk e => .inr (.inl e));replace hS := hS.chg hc85 ne_hS_r9;replace hV := hV.chg hc85 (fun k e e2 => hV.ne_map hMp e e2.symm);replace hB1 := hB1.chg hc85 (fun e => hMp.ne hB1 e.symm);replace hB2 := hB2.chg hc85 (fun e => hMp.ne hB2 e.symm);replace hB3 := hB3.chg hc85 (fun e => hMp.ne hB3 e.symm);replace hB5 := hB5.chg hc85 (fun e => hMp.ne hB5 e.symm);clear hMp;have hMp := hMs85;clear hb0;have hb0 := Below.refl w85.heap.size w85;refine SG_nil (D_then (W_region (SG_q (Rq_fieldAddr fa26_1 rfl) rfl (SG_q (Rq_loadB (hB2) Tryz.isAgg23 rfl rfl) rfl ?_))))
   first | refine SG_q (Rq_loadBW (hB5) Tryz.isAgg76 Tryz.sizeOf76 rfl rfl) rfl ?_ | refine SG_q (Rq_loadBA (hB5) Tryz.isAgg76 Tryz.sizeOf76 rfl rfl rfl) rfl ?_
   refine SG_bslice (enc := encO) (val := valO) (os := [.tmp 37]) rfl rfl (MV.cons (x := at0 (toR pre) y) MV.nil) (fun _ => rfl) (fun _ => rfl) Tryz.runUnderlying23 Tryz.sizeOf76 Tryz.zeroValue76 rfl (by decide) (by decide) rfl ?_;intro w38 v38 b38 e38 hb38 hz38 hob38 hO38
   have hle38 : w85.heap.size ≤ b38 := by have := hb0.size; omega
   have lt_b1_38 : b1 < b38 := by have := hB1.lt; omega
   have lt_b2_38 : b2 < b38 := by have := hB2.lt; omega
   have lt_b3_38 : b3 < b38 := by have := hB3.lt; omega
   have lt_b5_38 : b5 < b38 := by have := hB5.lt; omega
   replace hb0 := btr hb0 hb38;replace hcc := hcc.trans (Chg.of_below _ hb38);replace hS := hS.below hb38;replace hB1 := hB1.below hb38;replace hB2 := hB2.below hb38;replace hB3 := hB3.below hb38;replace hMp := hMp.below hb38;replace hV := hV.below hb38;refine SG_append (hV) (hO38.sl) Tryz.underlying23 info76 rfl rfl rfl (fun _ _ => rfl) (by simp only [List.length_append, List.length_cons, List.length_nil]; (try rw [tidyO_len]); omega) (by simp only [List.length_append, List.length_cons, List.length_nil]; (try rw [tidyO_len]); omega) (by omega) rfl ?_;intro v39 w39 hO39 hch39 hsn39;have hz38 := hb38.size;have hcz38 := hcc.size;obtain ⟨a39, c39, hv39⟩ := hO39.sl.len;subst hv39;have ne_hO39_b2 := hb2z;replace hcc := hcc.trans (hch39.mono (fun k _ hk => .inr (.inr hk)));clear hb0;have hb0 := Below.refl w39.heap.size w39
   replace hS := (hS.chg hch39 (fun k hk e => by have := hSl k hk; have := hVl k e; omega))
   replace hB1 := (hB1.chg hch39 (fun e => by have := hVl _ e; omega))
   replace hB2 := (hB2.chg hch39 (fun e => by have := hVl _ e; omega))
   replace hB3 := (hB3.chg hch39 (fun e => by have := hVl _ e; omega))
   replace hMp := (hMp.chg hch39 (fun e => by have := hVl _ e; omega))
   clear hB5;clear hO38;clear hV;refine SG_q (Rq_fieldAddr fa26_1 rfl) rfl (SG_store (hB2) rfl rfl rfl rfl Tryz.sizeOf23 rfl rfl ?_);intro ws9x6 hchs9x6 hBs9x6
   dsimp only [setAll, List.set] at hBs9x6
   replace hcc := hcc.then hchs9x6 (fun k hk e => by first | (subst e; simp; done) | (exfalso; omega));clear hb0;have hb0 := Below.refl ws9x6.heap.size ws9x6;replace hS := hS.chg hchs9x6 (ne_hS_b2);replace hB1 := hB1.chg hchs9x6 ne_b1_2;replace hB3 := hB3.chg hchs9x6 ne_b3_2;replace hMp := hMp.chg hchs9x6 ne_hMp_b2;replace hO39 := hO39.chg hchs9x6 (fun k e e2 => by first | exact ne_hO39_b2 k e e2 | (have := hO39.lt e; have := ne_hO39_b2; omega));clear hB2;refine SG_nil ?_;refine D_block ?_
   exact fun a _ => ⟨_, ⟨hbw7.trans (hcc.below hbw7.size (fun k hk e => by rcases e with rfl | rfl | e; omega; omega; have := hVl k e; omega)), hS, hB1, hBs9x6, hB3, hMp, by rw [tidyO_snoc, hy]; exact hO39⟩, hcc, fun k hk hm => by rcases hm with h | h | h; exact .inl h; exact .inr (.inl h); rcases hsn39 k h with h | h; exact .inr (.inr h); exact absurd hk (by omega)⟩
  ·rintro c pre s w9 hx; exact hx.elim
 ·rintro u w8 ⟨hbw8, hS, hB1, hB2, hB3, hMp, hV⟩ hsz8 hmk8
  have hb0 := Below.refl w8.heap.size w8;have hMk := (Marks.nil w8).cons hmk8 (fun D hD => by simp at hD);obtain ⟨au, cu, hu⟩ := hV.sl.len
  obtain ⟨nu, hnu⟩ : ∃ n, (tidyO C.ops (foundR C)).length = n := ⟨_, rfl⟩
  rw [hnu] at hu;subst hu;refine D_block (D_then (W_seq (W_seq (W_region (SG_q (Rq_loadB (hB1) Tryz.isAgg79 rfl rfl) rfl (SG_q (Rq_nilCheck rfl) rfl (SG_q (Rq_fieldAddr fa92_0 rfl) rfl (SG_q (Rq_fieldAddr fa26_2 rfl) rfl (SG_q (Rq_loadB (hS.blk) Tryz.isAgg24 rfl rfl) rfl ?_)))))))))
  first | refine SG_q (Rq_len (hS.oO.sl) Tryz.runUnderlying24 rfl) rfl ?_ | refine SG_q (Rq_len (hS.oR.sl) Tryz.runUnderlying24 rfl) rfl ?_ | refine SG_q (Rq_len (hV.sl) Tryz.runUnderlying24 rfl) rfl ?_
  refine SG_q (Rq_move rfl) rfl (SG_nil (D_then (W_block ?_)));refine W_loop (α := Nat × Value) (fun z => [(47, .int .i64 (z.1 : Nat)), (46, .int .i64 (C.roots.length : Nat)), (45, vR), (1, .pointer (some ⟨b1, 0, none⟩)), (2, .pointer (some ⟨b2, 0, none⟩)), (3, .pointer (some ⟨b3, 0, none⟩))]) (fun z w' => z.1 ≤ C.roots.length ∧ Below w.heap.size w w' ∧ StF (⟨84, 76, 3, 4, 92⟩ : StTy) lo w' bs rM vC vO vR vU vT C ∧ Blk w' b1 [.pointer (some ⟨bs, 0, none⟩)] 79 ∧ Blk w' b2 [.slice none 0 0, .slice au nu cu, z.2] 26 ∧ Blk w' b3 [.map (some r9)] 110 ∧ Mp w' r9 valI valI (toKV (foundR C)) ∧ OS w' (.slice au nu cu) 76 5 encO (tidyO C.ops (foundR C)) (ws1x2.heap.size + 2) ∧ OS w' z.2 3 1 encI ((C.roots.take z.1).map (toR (foundR C))) (ws1x2.heap.size + 2) ∧ Marks w' [ws1x2.heap.size] ∧ (∀ k, Value.ownBlock (.slice au nu cu) = some k → z.2.ownBlock ≠ some k) ∧ ws1x2.heap.size + 2 ≤ w'.heap.size) (fun z => C.roots.length - z.1) ((0, .slice none 0 0)) (by repeat (first | exact Sub.nil | refine Sub.cons rfl ?_)) ⟨Nat.zero_le _, btr hbw8 hb0, hS, hB1, hB2, hB3, hMp, hV, OS.nil (fun _ => rfl) (by decide), hMk, fun k _ e => (by cases e), hsz8⟩ ?_;clear hb0;clear hS;clear hB1;clear hB2;clear hB3;clear hMp;clear hV;clear hMk;rintro z wl0 ⟨hz, hbw, hS, hB1, hB2, hB3, hMp, hV, hW, hMk, hvw, hzw⟩;have hb0 := Below.refl wl0.heap.size wl0;refine W_seq (W_region (SG_q (Rq_lss rfl rfl) rfl (SG_nil (D_then (W_seq ?_)))));refine W_cond rfl ?_ ?_
  ·intro g48
   try simp only [dd] at g48
   have hzl : z.1 < C.roots.length := by omega
   obtain ⟨m, hm⟩ : ∃ m, C.roots[z.1]? = some m := ⟨_, List.getElem?_eq_getElem hzl⟩
   refine W_skip (D_then (W_seq (W_block (W_seq (W_region ?_)))))
   first | refine SG_index (hS.oO.sl) Tryz.runUnderlying24 Tryz.sizeOf3 rfl rfl ?_ ?_ rfl ?_ | refine SG_index (hS.oR.sl) Tryz.runUnderlying24 Tryz.sizeOf3 rfl rfl ?_ ?_ rfl ?_ | refine SG_index (hV.sl) Tryz.runUnderlying24 Tryz.sizeOf3 rfl rfl ?_ ?_ rfl ?_ | refine SG_index (hW.sl) Tryz.runUnderlying24 Tryz.sizeOf3 rfl rfl ?_ ?_ rfl ?_
   ·omega
   ·omega
   intro x49 hx49 hc49;have ex49 := Option.some.inj ((hm).symm.trans hx49); subst ex49;refine SG_q (Rq_load Tryz.isAgg3 rfl ((hc49).cell 0 rfl)) rfl (SG_q (Rq_assign rfl) rfl (SG_nil (D_then (W_region (SG_q (Rq_fieldAddr fa26_2 rfl) rfl (SG_q (Rq_loadB (hB2) Tryz.isAgg24 rfl rfl) rfl (SG_q (Rq_loadB (hB3) Tryz.isAgg110 rfl rfl) rfl (SG_q (Rq_move rfl) rfl (SG_q (Rq_lookupI key3 Tryz.runUnderlying110 (hMp) m Tryz.zeroValue3 rfl rfl) rfl (SG_bslice (enc := encI) (val := valI) (os := [.tmp 55]) rfl rfl (MV.cons (x := (mget (toKV (foundR C)) m).getD 0) MV.nil) (fun _ => rfl) (fun _ => rfl) Tryz.runUnderlying24 Tryz.sizeOf3 Tryz.zeroValue3 rfl (by decide) (by decide) rfl ?_))))))))));intro w56 v56 b56 e56 hb56 hz56 hob56 hO56
   have hle56 : wl0.heap.size ≤ b56 := by have := hb0.size; omega
   have lt_b1_56 : b1 < b56 := by have := hB1.lt; omega
   have lt_b2_56 : b2 < b56 := by have := hB2.lt; omega
   have lt_b3_56 : b3 < b56 := by have := hB3.lt; omega
   replace hb0 := btr hb0 hb56;replace hS := hS.below hb56;replace hB1 := hB1.below hb56;replace hB2 := hB2.below hb56;replace hB3 := hB3.below hb56;replace hMp := hMp.below hb56;replace hV := hV.below hb56;replace hMk := hMk.below hb56;replace hW := hW.below hb56;refine SG_append (hW) (hO56.sl) Tryz.underlying24 info3 rfl rfl rfl (fun _ _ => rfl) (by simp only [List.length_append, List.length_cons, List.length_nil]; rw [List.length_map]; have := List.length_take_le z.1 C.roots; omega) (by simp only [List.length_append, List.length_cons, List.length_nil]; rw [List.length_map]; have := List.length_take_le z.1 C.roots; omega) (by have := hb0.size; omega) rfl ?_;intro v57 w57 hO57 hch57 hsn57;have hz056 := hb0.size;have hz57 := hch57.size;replace hbw := (btr hbw hb0).trans (hch57.below (btr hbw hb0).size (fun k hk e => by have := (hW.lt e).1; omega))
   have hWl : ∀ k, z.2.ownBlock = some k → ws1x2.heap.size + 2 ≤ k := fun k e => (hW.lt e).1
   obtain ⟨a57, c57, hv57⟩ := hO57.sl.len;subst hv57;have hz56 := hb56.size
   have hvn : ∀ k, Value.ownBlock (.slice au nu cu) = some k → k < w56.heap.size := fun k e => (hV.lt e).2
   clear hb0;have hb0 := Below.refl w57.heap.size w57
   replace hS := (hS.chg hch57 (fun k hk e => by have := hSl k hk; have := hWl k e; omega))
   replace hB1 := (hB1.chg hch57 (fun e => by have := hWl _ e; omega))
   replace hB2 := (hB2.chg hch57 (fun e => by have := hWl _ e; omega))
   replace hB3 := (hB3.chg hch57 (fun e => by have := hWl _ e; omega))
   replace hMp := (hMp.chg hch57 (fun e => by have := hWl _ e; omega))
   replace hV := (hV.chg hch57 (fun k e e2 => hvw k e e2))
   replace hMk := (hMk.chg hch57 (fun D hD e => hW.ne_mark hMk e D hD rfl))
   clear hc49;clear hO56;clear hW;refine SG_q (Rq_fieldAddr fa26_2 rfl) rfl (SG_store (hB2) rfl rfl rfl rfl Tryz.sizeOf24 rfl rfl ?_);intro ws13 hcs13 hBs13;have hz13 := hcs13.size
   dsimp only [setAll, List.set] at hBs13
   replace hbw := hbw.trans (hcs13.below hbw.size (fun k hk e => by omega));replace hS := hS.chg hcs13 ne_hS_b2;replace hV := hV.chg hcs13 (fun k e e2 => by have := (hV.lt e).1; omega);replace hO57 := hO57.chg hcs13 (fun k e e2 => by have := (hO57.lt e).1; omega);replace hMp := hMp.chg hcs13 ne_hMp_b2;replace hMk := hMk.chg hcs13 (fun D hD e => hMk.ne hB2 D hD e);replace hB1 := hB1.chg hcs13 ne_b1_2;replace hB3 := hB3.chg hcs13 ne_b3_2;clear hB2;clear hb0;have hb0 := Below.refl ws13.heap.size ws13;refine SG_nil ?_;refine D_block ?_;refine D_then ?_;refine W_region ?_;refine SG_q (Rq_add rfl rfl (wrap_i64 (by omega) (by omega))) rfl ?_;refine SG_q (Rq_move rfl) rfl ?_;refine SG_nil ?_;refine D_loop ((z.1 + 1, _)) (by repeat (first | exact Sub.nil | refine Sub.cons rfl ?_)) ⟨by dsimp only; omega, btr hbw hb0, hS, hB1, hBs13, hB3, hMp, hV, by dsimp only; rw [take_succ_get hm, List.map_append]; simpa [mget_toR hnd.1] using hO57, hMk, fun k e e2 => (hsn57 k e2).elim (fun e3 => hvw k e e3) (fun h => by have := hvn k e; omega), by have := hb0.size; omega⟩ (by dsimp only; omega)
  ·intro g48
   try simp only [dd] at g48
   have hze : C.roots.length ≤ z.1 := by omega
   rw [List.take_of_length_le hze] at hW;obtain ⟨aw, cw, hw⟩ := hW.sl.len;rw [hw] at hB2 hW;subst hCv;clear hb0;have hb0 := hbw;refine W_exit (D_then_exit (D_loop_exit ?_));refine D_block_exit (D_then (W_seq (W_region (SG_q (Rq_loadB (hB1) Tryz.isAgg79 rfl rfl) rfl (SG_q (Rq_nilCheck rfl) rfl (SG_q (Rq_fieldAddr fa92_0 rfl) rfl (SG_q (Rq_fieldAddr fa26_0 rfl) rfl (SG_q (Rq_loadB (hS.blk) Tryz.isAgg22 rfl rfl) rfl (SG_q (Rq_fieldAddr fa26_0 rfl) rfl (SG_store (hB2) rfl rfl rfl rfl Tryz.sizeOf22 rfl rfl ?_))))))))));intro ws15x6 hchs15x6 hBs15x6
   dsimp only [setAll, List.set] at hBs15x6
   replace hb0 := bchg hb0 hchs15x6 hle2;replace hV := hV.chg hchs15x6 (fun k e e2 => by first | exact ne_hV_b2 k e e2 | (have := hV.lt e; have := ne_hV_b2; omega));replace hMk := hMk.chg hchs15x6 (fun D hD e => hMk.ne hB2 D hD e);replace hW := hW.chg hchs15x6 (fun k e e2 => by first | exact ne_hW_b2 k e e2 | (have := hW.lt e; have := ne_hW_b2; omega));clear hB2;refine SG_nil ?_;refine D_then ?_;refine W_seq ?_;refine W_region ?_
   first | refine SG_q (Rq_loadBW (hBs15x6) Tryz.isAgg26 Tryz.sizeOf26 rfl rfl) rfl ?_ | refine SG_q (Rq_loadBA (hBs15x6) Tryz.isAgg26 Tryz.sizeOf26 rfl rfl rfl) rfl ?_
   refine SG_storeW (hBs15x6) rfl rfl rfl rfl Tryz.sizeOf26 rfl rfl ?_;intro ws16x1 hchs16x1 hBs16x1;replace hb0 := bchg hb0 hchs16x1 hle2;replace hV := hV.chg hchs16x1 (fun k e e2 => by first | exact ne_hV_b2 k e e2 | (have := hV.lt e; have := ne_hV_b2; omega));replace hMk := hMk.chg hchs16x1 (fun D hD e => hMk.ne hBs15x6 D hD e);replace hW := hW.chg hchs16x1 (fun k e e2 => by first | exact ne_hW_b2 k e e2 | (have := hW.lt e; have := ne_hW_b2; omega));clear hBs15x6;refine SG_nil ?_;refine D_then ?_;refine W_ret ?_;refine D_bodyMR1 rfl rfl hMk (fun w9 hc9 => .cellW rfl (hBs16x1.chg hc9 (fun hm => hMk.ne hBs16x1 _ hm rfl)) Tryz.isAgg26 Tryz.sizeOf26 rfl) (fun w9 hc9 => ?_)
   have hD : ∀ k, k ∈ [ws1x2.heap.size] → k = ws1x2.heap.size := fun k h => by simpa using h
   refine ⟨_, rfl, hb0.trans (hc9.below hb0.size (fun k hk e => by have := hD k e; omega)), _, _, rfl, (hV.chg hc9 (fun k e e2 => by have := hD k e2; have := (hV.lt e).1; omega)).le (by omega), ?_⟩
   show OS w9 _ _ _ _ (C.roots.map (toR (foundR C))) _
   exact (hW.chg hc9 (fun k e e2 => by have := hD k e2; have := (hW.lt e).1; omega)).le (by omega)
 ·rintro c pre s w9 hx; exact hx.elim
end Go.Proofs.YtphmoebiobjfhaaGreat
