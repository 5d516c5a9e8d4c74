/- Walks of functions, printed by a program of the author. -/
import Derived.Test.YtphmoebiobjfhaaGreatT21
set_option linter.all false
namespace Go.Proofs.YtphmoebiobjfhaaGreat
open Go Go.Mi Go.RowKit
set_option maxHeartbeats 1000000 in
theorem f62_s {C : Co} {f : Nat} (hck : checkR C = 0) (ih : SearchP Tryz.prog 62 C f) : SearchP Tryz.prog 62 C (f + 1) := by
  intro i found uC uO uR vF w lo T hT hi0 hif hfn hu hlo hlw hF hpx
  subst hT
  obtain ⟨hu1, hu2, hu3⟩ := hu
  have hb0 := Below.refl w.heap.size w
  obtain ⟨y, hy⟩ : ∃ y, getO C.ops i = y := ⟨_, rfl⟩
  have hin : i < C.ops.length := by omega
  have hyi := getO_some hi0 hin
  rw [hy] at hyi
  have hbd := opsOf_bd hck hi0 hin
  rw [hy] at hbd
  have hyc := (isOpB_spec (ops_at hck hi0 hin)).1
  rw [hy] at hyc
  have hfl := nodup_le (found_nodup hck).1 (found_nodup hck).2
  have hvl := (List.IsPrefix.length_le hpx)
  have hC3 := (check_ok hck).1
  have hol : (opsOf y).length ≤ 3 := by rw [opsOf_len]; exact arN_le _
  have hFl : ∀ k, vF.ownBlock = some k → lo ≤ k ∧ k < w.heap.size := fun k e => hF.lt e
  have hfle := List.IsPrefix.length_le (visitF_pre C.ops (f + 1) found i)
  refine calls_of_W Tryz.func62 rfl Tryz.ntmps62 rfl ?_
  refine W_seq ?_
  refine W_region ?_
  refine SG_box rfl rfl rfl ?_
  intro w3 b3 e3 hb3 hz3 hB3
  have hle3 : w.heap.size ≤ b3 := by have := hb0.size; omega
  have ne_hu1_b3 := hu1.fresh (b := b3) (by omega)
  have ne_hu2_b3 := hu2.fresh (b := b3) (by omega)
  have ne_hu3_b3 := hu3.fresh (b := b3) (by omega)
  replace hb0 := btr hb0 hb3
  replace hu1 := hu1.below hb3
  replace hu2 := hu2.below hb3
  replace hu3 := hu3.below hb3
  replace hF := hF.below hb3
  refine SG_q (Rq_assign rfl) rfl ?_
  refine SG_nil ?_
  refine D_then ?_
  refine W_seq ?_
  refine W_seq ?_
  refine W_region ?_
  refine SG_q (Rq_assign rfl) rfl ?_
  refine SG_nil ?_
  refine D_then ?_
  refine W_block ?_
  refine W_loop (α := Nat) (fun x => [(7, .int .i64 (x : Nat)), (1, .int .i64 i), (2, vF), (3, .pointer (some ⟨b3, 0, none⟩))]) (fun x w' => x ≤ found.length ∧ (∀ j : Nat, j < x → found[j]? ≠ some i) ∧ Below w.heap.size w w' ∧ OS w' vF 3 1 encI found lo ∧ Blk w' b3 [uC, uO, uR] 26 ∧ (SL w' uC 3 encC C.ch ∧ SL w' uO 5 encO C.ops ∧ SL w' uR 1 encI C.roots)) (fun x => found.length - x) (0) (by repeat (first | exact Sub.nil | refine Sub.cons rfl ?_)) ⟨Nat.zero_le _, (fun j h => by omega), hb0, hF, hB3, hu1, hu2, hu3⟩ ?_
  clear hb0
  clear hu1
  clear hu2
  clear hu3
  clear hF
  clear hB3
  rintro x wl0 ⟨hxi, hno, hbw, hF, hB3, hu1, hu2, hu3⟩
  have hb0 := Below.refl wl0.heap.size wl0
  refine W_seq ?_
  refine W_seq ?_
  refine W_region ?_
  refine SG_q (Rq_move rfl) rfl ?_
  refine SG_q (Rq_move rfl) rfl ?_
  first | refine SG_q (Rq_len (hu1) Tryz.runUnderlying24 rfl) rfl ?_ | refine SG_q (Rq_len (hu2) Tryz.runUnderlying24 rfl) rfl ?_ | refine SG_q (Rq_len (hu3) Tryz.runUnderlying24 rfl) rfl ?_ | refine SG_q (Rq_len (hF.sl) Tryz.runUnderlying24 rfl) rfl ?_
  refine SG_q (Rq_lss rfl rfl) rfl ?_
  refine SG_nil ?_
  refine D_then ?_
  refine W_cond rfl ?_ ?_
  · intro g13
    try simp only [decide_eq_true_eq, decide_eq_false_iff_not, Bool.not_eq_true', Bool.not_eq_false', Bool.or_eq_true, Bool.and_eq_true, Bool.or_eq_false_iff, Bool.and_eq_false_imp, Int.not_lt, Int.not_le] at g13
    refine W_skip ?_
    refine D_then ?_
    refine W_seq ?_
    refine W_block ?_
    refine W_seq ?_
    refine W_region ?_
    refine SG_q (Rq_move rfl) rfl ?_
    refine SG_q (Rq_move rfl) rfl ?_
    first | refine SG_index (hu1) Tryz.runUnderlying24 Tryz.sizeOf3 rfl rfl ?_ ?_ rfl ?_ | refine SG_index (hu2) Tryz.runUnderlying24 Tryz.sizeOf3 rfl rfl ?_ ?_ rfl ?_ | refine SG_index (hu3) Tryz.runUnderlying24 Tryz.sizeOf3 rfl rfl ?_ ?_ rfl ?_ | refine SG_index (hF.sl) Tryz.runUnderlying24 Tryz.sizeOf3 rfl rfl ?_ ?_ rfl ?_
    · omega
    · omega
    intro x18 hx18 hc18
    refine SG_q (Rq_load Tryz.isAgg3 rfl ((hc18).cell 0 rfl)) rfl ?_
    refine SG_q (Rq_move rfl) rfl ?_
    refine SG_q (Rq_eql rfl rfl) rfl ?_
    refine SG_nil ?_
    refine D_then ?_
    refine W_cond rfl ?_ ?_
    · intro g21
      try simp only [decide_eq_true_eq, decide_eq_false_iff_not, Bool.not_eq_true', Bool.not_eq_false', Bool.or_eq_true, Bool.and_eq_true, Bool.or_eq_false_iff, Bool.and_eq_false_imp, Int.not_lt, Int.not_le] at g21
      refine W_seq ?_
      refine W_region ?_
      refine SG_q (Rq_move rfl) rfl ?_
      refine SG_q (Rq_assign rfl) rfl ?_
      refine SG_nil ?_
      refine D_then ?_
      refine W_ret ?_
      refine D_block_ret ?_
      refine D_then_ret ?_
      refine D_loop_ret ?_
      refine D_block_ret ?_
      refine D_then_ret ?_
      refine D_body1 rfl rfl rfl ?_
      have hm : i ∈ found := by rw [← g21]; exact List.mem_of_getElem? hx18
      exact ⟨vF, rfl, by rw [visitF_old hm]; exact hF, Chg.of_below _ (btr hbw hb0), fun k e => .inl e⟩
    · intro g21
      try simp only [decide_eq_true_eq, decide_eq_false_iff_not, Bool.not_eq_true', Bool.not_eq_false', Bool.or_eq_true, Bool.and_eq_true, Bool.or_eq_false_iff, Bool.and_eq_false_imp, Int.not_lt, Int.not_le] at g21
      refine W_skip ?_
      refine D_block ?_
      refine D_then ?_
      refine W_region ?_
      refine SG_q (Rq_move rfl) rfl ?_
      refine SG_q (Rq_add rfl rfl (wrap_i64 (by omega) (by omega))) rfl ?_
      refine SG_q (Rq_assign rfl) rfl ?_
      refine SG_nil ?_
      refine D_loop (x + 1) (by repeat (first | exact Sub.nil | refine Sub.cons rfl ?_)) ⟨by omega, (fun j hj => by rcases Nat.lt_succ_iff_lt_or_eq.1 hj with h | rfl; exact hno j h; (intro e; have e2 := Option.some.inj (e.symm.trans hx18); exact g21 e2.symm)), btr hbw hb0, hF, hB3, hu1, hu2, hu3⟩ (by omega)
  · intro g13
    try simp only [decide_eq_true_eq, decide_eq_false_iff_not, Bool.not_eq_true', Bool.not_eq_false', Bool.or_eq_true, Bool.and_eq_true, Bool.or_eq_false_iff, Bool.and_eq_false_imp, Int.not_lt, Int.not_le] at g13
    have hnf : ¬ i ∈ found := fun h => by obtain ⟨j, hj⟩ := List.getElem?_of_mem h; exact hno j (by have := (List.getElem?_eq_some_iff.1 hj).1; omega) hj
    refine W_exit ?_
    refine D_then_exit ?_
    refine D_loop_exit ?_
    refine D_block_exit ?_
    refine D_then ?_
    refine W_seq ?_
    refine W_region ?_
    refine SG_q (Rq_fieldAddr fa26_1 rfl) rfl ?_
    refine SG_q (Rq_loadB (hB3) Tryz.isAgg23 rfl rfl) rfl ?_
    refine SG_q (Rq_move rfl) rfl ?_
    first | refine SG_index (hu1) Tryz.runUnderlying23 Tryz.sizeOf76 rfl rfl ?_ ?_ rfl ?_ | refine SG_index (hu2) Tryz.runUnderlying23 Tryz.sizeOf76 rfl rfl ?_ ?_ rfl ?_ | refine SG_index (hu3) Tryz.runUnderlying23 Tryz.sizeOf76 rfl rfl ?_ ?_ rfl ?_ | refine SG_index (hF.sl) Tryz.runUnderlying23 Tryz.sizeOf76 rfl rfl ?_ ?_ rfl ?_
    · omega
    · omega
    intro x26 hx26 hc26
    have ex26 := Option.some.inj ((hyi).symm.trans hx26); subst ex26
    refine SG_q (Rq_loadA Tryz.isAgg76 Tryz.sizeOf76 rfl ((hc26)) rfl) rfl ?_
    refine SG_call rfl Tryz.call46 rfl (f46_c y _ hyc.1 hyc.2.1) ?_
    rintro v28 w28 hb28 ⟨hL, hLb⟩
    replace hb0 := btr hb0 hb28
    replace hF := hF.below hb28
    replace hB3 := hB3.below hb28
    replace hu1 := hu1.below hb28
    replace hu2 := hu2.below hb28
    replace hu3 := hu3.below hb28
    replace hc26 := hc26.below hb28
    have hLl := hL.lt
    have hw28z := (btr hbw hb0).size
    refine SG_q (Rq_assign rfl) rfl ?_
    refine SG_nil ?_
    refine D_then ?_
    refine W_seq ?_
    refine W_seq ?_
    refine W_region ?_
    refine SG_q (Rq_assign rfl) rfl ?_
    refine SG_nil ?_
    refine D_then ?_
    refine W_block ?_
    refine W_loop (α := Nat × Value) (fun x => [(9, .int .i64 (x.1 : Nat)), (8, v28), (2, x.2), (1, .int .i64 i), (3, .pointer (some ⟨b3, 0, none⟩))]) (fun x w' => x.1 ≤ (opsOf y).length ∧ OS w' x.2 3 1 encI (((opsOf y).take x.1).foldl (visitF C.ops f) found) lo ∧ SL w' v28 1 encI (opsOf y) ∧ Blk w' b3 [uC, uO, uR] 26 ∧ (SL w' uC 3 encC C.ch ∧ SL w' uO 5 encO C.ops ∧ SL w' uR 1 encI C.roots) ∧ Chg (fun b => vF.ownBlock = some b) w w' ∧ SameOrNew w vF x.2 ∧ (∀ k, x.2.ownBlock = some k → (0 < (opsOf y).length → k ≠ sb v28) ∧ k ≠ b3) ∧ w28.heap.size ≤ w'.heap.size) (fun x => (opsOf y).length - x.1) ((0, vF)) (by repeat (first | exact Sub.nil | refine Sub.cons rfl ?_)) ⟨Nat.zero_le _, hF, hL, hB3, ⟨hu1, hu2, hu3⟩, Chg.of_below _ (btr hbw hb0), fun k e => .inl e, (fun k e => ⟨fun hp e2 => by have := hLb hp; have := hFl k e; have := hbw.size; omega, fun e2 => by have := hFl k e; omega⟩), Nat.le_refl _⟩ ?_
    clear hb0
    clear hF
    clear hB3
    clear hu1
    clear hu2
    clear hu3
    clear hc26
    clear hL
    rintro x wl1 ⟨hxi, hW, hL, hB3, ⟨hu1, hu2, hu3⟩, hcf, hsf, hnl, hzz⟩
    have hb0 := Below.refl wl1.heap.size wl1
    have hLl := hL.lt
    refine W_seq ?_
    refine W_seq ?_
    refine W_region ?_
    refine SG_q (Rq_move rfl) rfl ?_
    refine SG_q (Rq_move rfl) rfl ?_
    first | refine SG_q (Rq_len (hL) Tryz.runUnderlying24 rfl) rfl ?_ | refine SG_q (Rq_len (hu1) Tryz.runUnderlying24 rfl) rfl ?_ | refine SG_q (Rq_len (hu2) Tryz.runUnderlying24 rfl) rfl ?_ | refine SG_q (Rq_len (hu3) Tryz.runUnderlying24 rfl) rfl ?_ | refine SG_q (Rq_len (hW.sl) Tryz.runUnderlying24 rfl) rfl ?_
    refine SG_q (Rq_lss rfl rfl) rfl ?_
    refine SG_nil ?_
    refine D_then ?_
    refine W_cond rfl ?_ ?_
    · intro g32
      try simp only [decide_eq_true_eq, decide_eq_false_iff_not, Bool.not_eq_true', Bool.not_eq_false', Bool.or_eq_true, Bool.and_eq_true, Bool.or_eq_false_iff, Bool.and_eq_false_imp, Int.not_lt, Int.not_le] at g32
      have hxl : x.1 < (opsOf y).length := by omega
      obtain ⟨m, hm⟩ : ∃ m, (opsOf y)[x.1]? = some m := ⟨_, List.getElem?_eq_getElem hxl⟩
      refine W_skip ?_
      refine D_then ?_
      refine W_seq ?_
      refine W_block ?_
      refine W_any 6 [[], [], [], [1, 2], [3], []] [det [] ?a10_0n1, det [] ?a10_1n1, det [] ?a10_2n1, det [1, 2] ?a10_3n1, det [3] ?a10_4n1, det [] ?a10_5n1] Tryz.mixed (by kernel_rfl) rfl ⟨det_stab _ _, det_stab _ _, det_stab _ _, det_stab _ _, det_stab _ _, det_stab _ _, trivial⟩ ?_ ?_; rotate_left 6
      · refine Obls_cons ?_ ?_
        · intro wq hbq
          refine Obl_nil ?_
          first | (refine Ex_q2 (Rq_loadBW ((hB3).below hbq) Tryz.isAgg26 Tryz.sizeOf26 rfl rfl) ?_; first | exact rfl | rfl) | (refine Ex_q2 (Rq_loadBA ((hB3).below hbq) Tryz.isAgg26 Tryz.sizeOf26 rfl rfl rfl) ?_; first | exact rfl | rfl)
        refine Obls_cons ?_ ?_
        · intro wq hbq
          refine Obl_nil ?_
          refine Ex_q2 (Rq_move rfl) ?_; first | exact rfl | rfl
        refine Obls_cons ?_ ?_
        · intro wq hbq
          refine Obl_nil ?_
          refine Ex_q2 (Rq_move rfl) ?_; first | exact rfl | rfl
        refine Obls_cons ?_ ?_
        · intro wq hbq
          refine Obl_det rfl rfl ?_
          refine Obl_det rfl rfl ?_
          refine Obl_nil ?_
          refine Ex_q2 (Rq_index (hL.below hbq) Tryz.runUnderlying24 Tryz.sizeOf3 rfl rfl (by omega) (by omega)) ?_; first | exact rfl | rfl
        refine Obls_cons ?_ ?_
        · intro wq hbq
          refine Obl_det rfl rfl ?_
          refine Obl_nil ?_
          refine Ex_q2 (Rq_load Tryz.isAgg3 rfl (((hL.cells (((x.1 : Nat) : Int)).toNat m hm).below hbq).cell 0 rfl)) ?_; first | exact rfl | rfl
        refine Obls_cons ?_ ?_
        · intro wq hbq
          refine Obl_nil ?_
          refine Ex_q2 (Rq_move rfl) ?_; first | exact rfl | rfl
        exact Obls_nil
      · intro wa10 hba10
        replace hb0 := btr hb0 hba10
        replace hW := hW.below hba10
        replace hL := hL.below hba10
        replace hB3 := hB3.below hba10
        replace hu1 := hu1.below hba10
        replace hu2 := hu2.below hba10
        replace hu3 := hu3.below hba10
        refine Fin_det rfl ?_
        refine Fin_det rfl ?_
        refine Fin_det rfl ?_
        refine Fin_det rfl ?_
        refine Fin_det rfl ?_
        refine Fin_det rfl ?_
        refine Fin_nil ?_
        simp only [List.drop_succ_cons, List.drop_zero]
        have hvb := hbd _ (List.mem_of_getElem? hm)
        have hfo : ((opsOf y).take (x.1 + 1)).foldl (visitF C.ops f) found = visitF C.ops f (((opsOf y).take x.1).foldl (visitF C.ops f) found) m := by rw [take_succ_get hm, List.foldl_append]; rfl
        have hnx : ∀ k, x.2.ownBlock = some k → lo ≤ k := fun k e => (hW.lt e).1
        refine SG_callC rfl Tryz.call62 rfl (K := fun v w' => OS w' v 3 1 encI (((opsOf y).take (x.1 + 1)).foldl (visitF C.ops f) found) lo ∧ Chg (fun b => x.2.ownBlock = some b) wa10 w' ∧ SameOrNew wa10 x.2 v) ?_ ?_
        · refine Calls.mono (ih m (((opsOf y).take x.1).foldl (visitF C.ops f) found) uC uO uR x.2 wa10 lo 3 rfl hvb.1 (by omega) (by omega) ⟨hu1, hu2, hu3⟩ hlo (by have := hb0.size; omega) hW (by rw [← hfo]; exact pre_trans (by have h := foldl_pre (visitF_pre C.ops f) ((opsOf y).drop (x.1 + 1)) (((opsOf y).take (x.1 + 1)).foldl (visitF C.ops f) found); rwa [← List.foldl_append, List.take_append_drop] at h) (pre_trans (List.prefix_append _ [i]) (by rw [visitF_new hnf, hy] at hpx; exact hpx)))) ?_
          rintro e w' ⟨v', rfl, h1, h2, h3⟩; exact ⟨_, rfl, by rw [hfo]; exact h1, h2, h3⟩
        rintro v41 w41 ⟨hO41, hc41, hsn41⟩
        replace hcf := (hcf.trans (Chg.of_below _ hb0)).then hc41 (fun k hk e => (hsf k e).elim id (fun h => absurd hk (by omega)))
        have hz41 := hc41.size; have hz410 := hb0.size
        replace hsf : SameOrNew w vF v41 := fun k e => (hsn41 k e).elim (fun e => hsf k e) (fun h => .inr (by omega))
        have hbz := hB3.lt
        replace hL := hL.chg hc41 (fun hp e => (hnl _ e).1 hp rfl)
        replace hB3 := hB3.chg hc41 (fun e => (hnl _ e).2 rfl)
        have hnl' : ∀ k, v41.ownBlock = some k → (0 < (opsOf y).length → k ≠ sb v28) ∧ k ≠ b3 := fun k e => (hsn41 k e).elim (fun e => hnl k e) (fun h => ⟨fun hp e2 => by have := hLl hp; omega, fun e2 => by omega⟩)
        replace hu1 := hu1.chg hc41 (fun hp e => by have := hnx _ e; have := hlo.1 hp; omega)
        replace hu2 := hu2.chg hc41 (fun hp e => by have := hnx _ e; have := hlo.2.1 hp; omega)
        replace hu3 := hu3.chg hc41 (fun hp e => by have := hnx _ e; have := hlo.2.2 hp; omega)
        clear hW
        clear hb0
        have hb0 := Below.refl w41.heap.size w41
        refine SG_q (Rq_assign rfl) rfl ?_
        refine SG_nil ?_
        refine D_block ?_
        refine D_then ?_
        refine W_region ?_
        refine SG_q (Rq_move rfl) rfl ?_
        refine SG_q (Rq_add rfl rfl (wrap_i64 (by omega) (by omega))) rfl ?_
        refine SG_q (Rq_assign rfl) rfl ?_
        refine SG_nil ?_
        refine D_loop ((x.1 + 1, v41)) (by repeat (first | exact Sub.nil | refine Sub.cons rfl ?_)) ⟨by dsimp only; omega, hO41, hL, hB3, ⟨hu1, hu2, hu3⟩, hcf, hsf, hnl', by omega⟩ (by dsimp only; omega)
    · intro g32
      try simp only [decide_eq_true_eq, decide_eq_false_iff_not, Bool.not_eq_true', Bool.not_eq_false', Bool.or_eq_true, Bool.and_eq_true, Bool.or_eq_false_iff, Bool.and_eq_false_imp, Int.not_lt, Int.not_le] at g32
      have hxe : (opsOf y).length ≤ x.1 := by omega
      rw [List.take_of_length_le hxe] at hW
      have hfl2 : ((opsOf y).foldl (visitF C.ops f) found).length + 1 ≤ 3000 := by have h := hvl; rw [visitF_new hnf, hy, List.length_append] at h; simp at h; omega
      refine W_exit ?_
      refine D_then_exit ?_
      refine D_loop_exit ?_
      refine D_block_exit ?_
      refine D_then ?_
      refine W_seq ?_
      refine W_region ?_
      refine SG_q (Rq_move rfl) rfl ?_
      refine SG_q (Rq_move rfl) rfl ?_
      refine SG_bslice (enc := encI) (val := valI) (os := [.tmp 43]) rfl rfl (MV.cons (x := i) MV.nil) (fun _ => rfl) (fun _ => rfl) Tryz.runUnderlying24 Tryz.sizeOf3 Tryz.zeroValue3 rfl (by decide) (by decide) rfl ?_
      intro w44 v44 b44 e44 hb44 hz44 hob44 hO44
      have hle44 : wl1.heap.size ≤ b44 := by have := hb0.size; omega
      have lt_b3_44 : b3 < b44 := by have := hB3.lt; omega
      replace hb0 := btr hb0 hb44
      replace hW := hW.below hb44
      replace hL := hL.below hb44
      replace hB3 := hB3.below hb44
      replace hu1 := hu1.below hb44
      replace hu2 := hu2.below hb44
      replace hu3 := hu3.below hb44
      refine SG_append (hW) (hO44.sl) Tryz.underlying24 info3 rfl rfl rfl (fun _ _ => rfl) (by simp only [List.length_append, List.length_cons, List.length_nil]; omega) (by simp only [List.length_append, List.length_cons, List.length_nil]; omega) (by have := hb0.size; omega) rfl ?_
      intro v45 w45 hO45 hch45 hsn45
      have q1 := hb0.size
      have q2 := hch45.size
      have hcf2 := (hcf.trans (Chg.of_below _ hb0)).then hch45 (fun k hk e => (hsf k e).elim id (fun h => absurd hk (by omega)))
      have hsf2 : SameOrNew w vF v45 := fun k e => (hsn45 k e).elim (fun e => hsf k e) (fun h => .inr (by omega))
      clear hb0
      have hb0 := Below.refl w45.heap.size w45
      clear hL
      clear hB3
      clear hu1
      clear hu2
      clear hu3
      clear hO44
      clear hW
      refine SG_q (Rq_assign rfl) rfl ?_
      refine SG_nil ?_
      refine D_then ?_
      refine W_ret ?_
      refine D_body1 rfl rfl rfl ?_
      exact ⟨v45, rfl, by rw [visitF_new hnf, hy]; exact hO45, hcf2, hsf2⟩
end Go.Proofs.YtphmoebiobjfhaaGreat
