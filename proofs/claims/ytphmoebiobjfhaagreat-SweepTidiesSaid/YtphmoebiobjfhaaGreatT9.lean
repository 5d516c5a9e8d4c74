/- Walks of functions, printed by a program of the author. -/
import Derived.Test.YtphmoebiobjfhaaGreatT8
set_option linter.all false
namespace Go.Proofs.YtphmoebiobjfhaaGreat
open Go Go.Mi Go.RowKit
theorem build45_ (w : World) : (Instr.build 45 #[]).run Tryz.prog w = .ok (.agg [(.int .u8 0), (.int .i64 0)].toArray) w := by
  unfold Instr.build
  simp [Sem.run_bind, Tryz.zeroValue45, Tryz.runUnderlying45, Tryz.sizeOf3, Tryz.sizeOf5, Instr.fill, Result.andThen, cells_agg]
theorem build45_0_1 (v u : Value) (w : World) (hv : one1 v = true) (hu : one1 u = true) : (Instr.build 45 #[(0, v), (1, u)]).run Tryz.prog w = .ok (.agg [v, u].toArray) w := by
  unfold Instr.build
  simp [Sem.run_bind, Tryz.zeroValue45, Tryz.runUnderlying45, Tryz.sizeOf3, Tryz.sizeOf5, Instr.fill, cells_one hv, cells_one hu, Result.andThen, cells_agg]
theorem f48_c {lo bs rM : Nat} {vC vO vR vU vT : Value} {C : Co} {w : World} (hS : StF (⟨84, 76, 3, 4, 92⟩ : StTy) lo w bs rM vC vO vR vU vT C) (hck : checkR C = 0) : Mi.Fn Tryz.prog 48 #[.pointer (some ⟨bs, 0, none⟩)] w fun v w' => v = .tuple #[valR ((nextR C).getD rw0), .bool (nextR C).isSome] := by
  obtain ⟨⟨hl1, hl2, hl3⟩, hroots, hops⟩ := check_ok hck
  have hb0 := Below.refl w.heap.size w
  refine calls_of_WM Tryz.func48 rfl Tryz.ntmps48 rfl ?_
  refine W_seq ?_
  refine W_region ?_
  refine SG_alloc Tryz.zeroValue45 rfl rfl ?_
  intro w2 b2 e2 hb2 hz2 hB2
  have hle2 : w.heap.size ≤ b2 := by have := hb0.size; omega
  have ne_hS_b2 : ∀ k, StB bs rM vC vO vR vU vT k → ¬ k = b2 := fun k hk => by have := hS.lt hk; omega
  replace hb0 := btr hb0 hb2
  replace hS := hS.below hb2
  refine SG_alloc Tryz.zeroValue4 rfl rfl ?_
  intro w3 b3 e3 hb3 hz3 hB3
  have hle3 : w.heap.size ≤ b3 := by have := hb0.size; omega
  have ne_hS_b3 : ∀ k, StB bs rM vC vO vR vU vT k → ¬ k = b3 := fun k hk => by have := hS.lt hk; omega
  have ne_b2_3 : ¬ b2 = b3 := by have := hB2.lt; omega
  have ne_b3_2 : ¬ b3 = b2 := by omega
  replace hb0 := btr hb0 hb3
  replace hS := hS.below hb3
  replace hB2 := hB2.below hb3
  refine SG_nil ?_
  refine D_then ?_
  refine W_seq ?_
  refine W_seq ?_
  refine W_region ?_
  refine SG_q (Rq_move rfl) rfl ?_
  refine SG_q (Rq_nilCheck rfl) rfl ?_
  refine SG_q (Rq_fieldAddr fa92_0 rfl) rfl ?_
  refine SG_q (Rq_fieldAddr fa26_1 rfl) rfl ?_
  refine SG_q (Rq_loadB (hS.blk) Tryz.isAgg23 rfl rfl) rfl ?_
  refine SG_q (Rq_len (hS.oO.sl) Tryz.runUnderlying23 rfl) rfl ?_
  refine SG_q (Rq_move rfl) rfl ?_
  refine SG_nil ?_
  refine D_then ?_
  refine W_block ?_
  refine W_loopD (α := Nat × List Nat) (fun x => [(12, .int .i64 (x.1 : Nat)), (11, .int .i64 (C.ops.length : Nat)), (2, .pointer (some ⟨b2, 0, none⟩)), (3, .pointer (some ⟨b3, 0, none⟩)), (0, .pointer (some ⟨bs, 0, none⟩))]) (fun x => marks x.2) (fun x w' => x.1 ≤ C.ops.length ∧ (∀ j : Nat, j < x.1 → rulesC C j = []) ∧ Below w.heap.size w w' ∧ StF (⟨84, 76, 3, 4, 92⟩ : StTy) lo w' bs rM vC vO vR vU vT C ∧ Blk w' b2 [.int .u8 0, .int .i64 0] 45 ∧ Blk w' b3 [.bool false] 4 ∧ Marks w' x.2 ∧ (∀ D ∈ x.2, w.heap.size ≤ D)) (fun x => C.ops.length - x.1) ((0, [])) (by repeat (first | exact Sub.nil | refine Sub.cons rfl ?_)) (by rfl) ⟨Nat.zero_le _, fun j h => by simp at h, hb0, hS, hB2, hB3, Marks.nil _, fun D h => by simp at h⟩ ?_
  clear hb0
  clear hS
  clear hB2
  clear hB3
  rintro x wl0 ⟨hx, hno, hbw, hS, hB2, hB3, hMk, hms⟩
  have hb0 := Below.refl wl0.heap.size wl0
  have hz2 := hB2.lt
  have hz3 := hB3.lt
  refine W_seq ?_
  refine W_region ?_
  refine SG_q (Rq_lss rfl rfl) rfl ?_
  refine SG_nil ?_
  refine D_then ?_
  refine W_seq ?_
  refine W_cond rfl ?_ ?_
  · intro g13
    try simp only [decide_eq_true_eq, decide_eq_false_iff_not, Bool.not_eq_true', Bool.not_eq_false', Bool.or_eq_true, Bool.and_eq_true, Bool.or_eq_false_iff, Bool.and_eq_false_imp, Int.not_lt, Int.not_le] at g13
    refine W_skip ?_
    refine D_then ?_
    refine W_seq ?_
    refine W_block ?_
    refine W_seq ?_
    refine W_region ?_
    refine SG_q (Rq_move rfl) rfl ?_
    refine SG_alloc Tryz.zeroValue3 rfl rfl ?_
    intro w4 b4 e4 hb4 hz4 hB4
    have hle4 : wl0.heap.size ≤ b4 := by have := hb0.size; omega
    have ne_hS_b4 : ∀ k, StB bs rM vC vO vR vU vT k → ¬ k = b4 := fun k hk => by have := hS.lt hk; omega
    have ne_b2_4 : ¬ b2 = b4 := by have := hB2.lt; omega
    have ne_b4_2 : ¬ b4 = b2 := by omega
    have ne_b3_4 : ¬ b3 = b4 := by have := hB3.lt; omega
    have ne_b4_3 : ¬ b4 = b3 := by omega
    replace hb0 := btr hb0 hb4
    replace hS := hS.below hb4
    replace hB2 := hB2.below hb4
    replace hB3 := hB3.below hb4
    replace hMk := hMk.below hb4
    refine SG_storeW (hB4) rfl rfl rfl rfl Tryz.sizeOf3 rfl rfl ?_
    intro ws3x2 hchs3x2 hBs3x2
    replace hb0 := bchg hb0 hchs3x2 hle4
    replace hS := hS.chg hchs3x2 (ne_hS_b4)
    replace hB2 := hB2.chg hchs3x2 ne_b2_4
    replace hB3 := hB3.chg hchs3x2 ne_b3_4
    replace hMk := hMk.chg hchs3x2 (fun D hD e => hMk.ne hB4 D hD e)
    clear hB4
    refine SG_nil ?_
    refine D_then ?_
    refine W_seq ?_
    refine W_region ?_
    refine SG_q (Rq_move rfl) rfl ?_
    refine SG_q (Rq_loadB (hBs3x2) Tryz.isAgg3 rfl rfl) rfl ?_
    refine SG_call rfl Tryz.call52 rfl (f52_c _ _ _) ?_
    rintro v17 w17 hb17 ⟨c1, c2, rfl, hA1, hA2, hlA1, hlA2⟩
    replace hb0 := btr hb0 hb17
    replace hS := hS.below hb17
    replace hB2 := hB2.below hb17
    replace hB3 := hB3.below hb17
    replace hMk := hMk.below hb17
    replace hBs3x2 := hBs3x2.below hb17
    have ne12 : b2 < c1 ∧ b3 < c1 ∧ b2 < c2 ∧ b3 < c2 := by have := hb4.size; have := hchs3x2.size; omega
    refine SG_nil ?_
    refine D_then ?_
    refine W_block ?_
    have hB4 := hBs3x2
    have hmlt := hMk.lt
    have hw17 := (btr hbw hb0).size
    refine W_range rfl rfl Tryz.call66 (fun w' hb => f66_it (hS.below hb) (usedR_length C) (truthsR_length C.ops) (check_wf hck) (i := ((x.1 : Nat) : Int)) (by omega) (by omega) (hA1.below hb) (hA2.below hb)) (by rintro k (hk | rfl | rfl); exact (hS.lt hk).2; exact hA1.lt; exact hA2.lt) (σ := Unit) (fun pre _ w' => pre = [] ∧ Below w.heap.size w w' ∧ StF (⟨84, 76, 3, 4, 92⟩ : StTy) lo w' bs rM vC vO vR vU vT C ∧ Blk w' b2 [.int .u8 0, .int .i64 0] 45 ∧ Blk w' b3 [.bool false] 4 ∧ Blk w' b4 [.int .i64 ((x.1 : Nat) : Int)] 3 ∧ Marks w' x.2) (fun c pre _ w' => c = .ret ∧ (∃ r post, rulesC C x.1 = r :: post ∧ pre = [r] ∧ Below w.heap.size w w' ∧ StF (⟨84, 76, 3, 4, 92⟩ : StTy) lo w' bs rM vC vO vR vU vT C ∧ Blk w' b2 (encR ⟨r, (x.1 : Nat)⟩) 45 ∧ Blk w' b3 [.bool true] 4 ∧ Blk w' b4 [.int .i64 ((x.1 : Nat) : Int)] 3 ∧ Marks w' x.2)) (fun _ k => k = b2 ∨ k = b3) () ?hJ ?hJx ?hM ?hMx ⟨rfl, btr hbw hb0, hS, hB2, hB3, hB4, hMk⟩ ?_ ?_ ?_
    case hJ => exact fun pre u w1 w2 ⟨h, hb, h1, h2, h3, h4, h5⟩ hc => ⟨h, hb.trans (hc.below hb.size fun k hk e => e (.inl (Nat.lt_of_lt_of_le hk (btr hbw hb0).size))), h1.chg hc (fun k hk e => e (.inl (hS.lt hk).2)), h2.chg hc (fun e => e (.inr (.inl rfl))), h3.chg hc (fun e => e (.inr (.inr rfl))), h4.chg hc (fun e => e (.inl hB4.lt)), h5.chg hc (fun D hD e => e (.inl (hMk.lt D hD)))⟩
    case hJx => exact fun c pre u w1 w2 h hc => ⟨h.1, by obtain ⟨r, post, e1, e2, hb, h1, h2, h3, h4, h5⟩ := h.2; exact ⟨r, post, e1, e2, hb.trans (hc.below hb.size fun k hk e => e (.inl (Nat.lt_of_lt_of_le hk (btr hbw hb0).size))), h1.chg hc (fun k hk e => e (.inl (hS.lt hk).2)), h2.chg hc (fun e => e (.inr (.inl rfl))), h3.chg hc (fun e => e (.inr (.inr rfl))), h4.chg hc (fun e => e (.inl hB4.lt)), h5.chg hc (fun D hD e => e (.inl (hMk.lt D hD)))⟩⟩
    case hM => exact fun pre u w1 k h hm => .inl ⟨by rcases hm with rfl | rfl; exact hB2.lt; exact hB3.lt, by rintro (hk | rfl | rfl) <;> rcases hm with e | e <;> first | exact (ne_hS_b2 _ hk e).elim | exact (ne_hS_b3 _ hk e).elim | omega⟩
    case hMx => exact fun c pre u w1 k h hm => .inl (by rcases hm with rfl | rfl; exact hB2.lt; exact hB3.lt)
    · rintro pre r post u w6 hsp ⟨hpe, hJ6⟩ hsz6
      have hb0 := Below.refl w6.heap.size w6
      refine W_region ?_
      refine SG_q (Rq_assign rfl) rfl ?_
      refine SG_nil ?_
      refine D_as ?_
      rintro w7 ⟨⟨_, hbw7, hS, hB2, hB3, hB4, hMk⟩, hsz7, hrec7⟩
      have hb0 := Below.refl w7.heap.size w7
      have hcc := Chg.refl (fun k => k = b2 ∨ k = b3) w7
      refine W_block ?_
      refine W_seq ?_
      refine W_region ?_
      refine SG_q (Rq_move rfl) rfl ?_
      refine SG_q (Rq_loadB (hB4) Tryz.isAgg3 rfl rfl) rfl ?_
      refine SG_q (Rq_build2 build45_0_1 rfl rfl rfl rfl ) rfl ?_
      refine SG_storeW (hB2) rfl rfl rfl rfl Tryz.sizeOf45 rfl rfl ?_
      intro ws6x3 hchs6x3 hBs6x3
      replace hcc := hcc.then hchs6x3 (fun k hk e => by first | (subst e; simp; done) | (exfalso; omega))
      clear hb0
      have hb0 := Below.refl ws6x3.heap.size ws6x3
      replace hS := hS.chg hchs6x3 (ne_hS_b2)
      replace hB3 := hB3.chg hchs6x3 ne_b3_2
      replace hB4 := hB4.chg hchs6x3 ne_b4_2
      replace hMk := hMk.chg hchs6x3 (fun D hD e => hMk.ne hB2 D hD e)
      clear hB2
      refine SG_storeW (hB3) rfl rfl rfl rfl Tryz.sizeOf4 rfl rfl ?_
      intro ws6x4 hchs6x4 hBs6x4
      replace hcc := hcc.then hchs6x4 (fun k hk e => by first | (subst e; simp; done) | (exfalso; omega))
      clear hb0
      have hb0 := Below.refl ws6x4.heap.size ws6x4
      replace hS := hS.chg hchs6x4 (ne_hS_b3)
      replace hB4 := hB4.chg hchs6x4 ne_b4_3
      replace hMk := hMk.chg hchs6x4 (fun D hD e => hMk.ne hB3 D hD e)
      replace hBs6x3 := hBs6x3.chg hchs6x4 ne_b2_3
      clear hB3
      refine SG_nil ?_
      refine D_then ?_
      refine W_ret ?_
      refine D_block_ret ?_
      exact fun a _ => ⟨(), ⟨rfl, r, post, by rw [rulesC, hsp, hpe]; rfl, by rw [hpe]; rfl, hbw7.trans (hcc.below hbw7.size (fun k hk e => by rcases e with rfl | rfl <;> omega)), hS, hBs6x3, hBs6x4, hB4, hMk⟩, hcc, fun k _ h => h⟩
    · rintro u w8 ⟨hnil, hbw8, hS, hB2, hB3, hB4, hMk⟩ hsz8 hmk8
      have hb0 := Below.refl w8.heap.size w8
      refine D_block ?_
      refine D_block ?_
      refine D_then ?_
      refine W_region ?_
      refine SG_q (Rq_add rfl rfl (wrap_i64 (by omega) (by omega))) rfl ?_
      refine SG_q (Rq_move rfl) rfl ?_
      refine SG_nil ?_
      refine D_loopD ((x.1 + 1, _ :: x.2)) (by repeat (first | exact Sub.nil | refine Sub.cons rfl ?_)) (by rfl) ⟨by dsimp only; omega, (fun j hj => by rcases Nat.lt_succ_iff_lt_or_eq.1 hj with h | rfl; exact hno j h; exact hnil), btr hbw8 hb0, hS, hB2, hB3, (hMk.cons hmk8 hmlt).below hb0, (fun D hD => by rcases List.mem_cons.1 hD with rfl | hD; exact hw17; exact hms D hD)⟩ (by dsimp only; omega)
    · rintro c pre u w8 ⟨rfl, r, post, e1, e2, hbw8, hS, hB2, hB3, hB4, hMk⟩ hsz8 hmk8
      have hb0 := Below.refl w8.heap.size w8
      refine W_ret ?_
      refine D_block_ret ?_
      refine D_block_ret ?_
      refine D_then_ret ?_
      refine D_loopD_ret ?_
      refine D_block_ret ?_
      refine D_then_ret ?_
      refine D_bodyMR2 rfl rfl (hMk.cons hmk8 hmlt) (fun w9 hc9 => .cellW rfl (hB2.chg hc9 (fun hm => (hMk.cons hmk8 hmlt).ne hB2 _ hm rfl)) Tryz.isAgg45 Tryz.sizeOf45 rfl) (fun w9 hc9 => .cell rfl (hB3.chg hc9 (fun hm => (hMk.cons hmk8 hmlt).ne hB3 _ hm rfl)) Tryz.isAgg4 rfl) (fun w9 hc9 => ?_)
      exact ⟨_, rfl, hbw8.trans (hc9.below hbw8.size (fun k hk e => by rcases List.mem_cons.1 e with rfl | e; omega; have := hms k e; omega)), by rw [next_at (by omega) hno e1]; rfl⟩
  · intro g13
    try simp only [decide_eq_true_eq, decide_eq_false_iff_not, Bool.not_eq_true', Bool.not_eq_false', Bool.or_eq_true, Bool.and_eq_true, Bool.or_eq_false_iff, Bool.and_eq_false_imp, Int.not_lt, Int.not_le] at g13
    clear hb0
    have hb0 := hbw
    refine W_exit ?_
    refine D_then_exit ?_
    refine D_loopD_exit ?_
    refine D_block_exit ?_
    refine D_then ?_
    refine W_seq ?_
    refine W_region ?_
    refine SG_q (Rq_build0 build45_) rfl ?_
    refine SG_storeW (hB2) rfl rfl rfl rfl Tryz.sizeOf45 rfl rfl ?_
    intro ws8x1 hchs8x1 hBs8x1
    replace hb0 := bchg hb0 hchs8x1 hle2
    replace hS := hS.chg hchs8x1 (ne_hS_b2)
    replace hB3 := hB3.chg hchs8x1 ne_b3_2
    replace hMk := hMk.chg hchs8x1 (fun D hD e => hMk.ne hB2 D hD e)
    clear hB2
    refine SG_storeW (hB3) rfl rfl rfl rfl Tryz.sizeOf4 rfl rfl ?_
    intro ws8x2 hchs8x2 hBs8x2
    replace hb0 := bchg hb0 hchs8x2 hle3
    replace hS := hS.chg hchs8x2 (ne_hS_b3)
    replace hMk := hMk.chg hchs8x2 (fun D hD e => hMk.ne hB3 D hD e)
    replace hBs8x1 := hBs8x1.chg hchs8x2 ne_b2_3
    clear hB3
    refine SG_nil ?_
    refine D_then ?_
    refine W_ret ?_
    refine D_bodyMR2 rfl rfl hMk (fun w9 hc9 => .cellW rfl (hBs8x1.chg hc9 (fun hm => hMk.ne hBs8x1 _ hm rfl)) Tryz.isAgg45 Tryz.sizeOf45 rfl) (fun w9 hc9 => .cell rfl (hBs8x2.chg hc9 (fun hm => hMk.ne hBs8x2 _ hm rfl)) Tryz.isAgg4 rfl) (fun w9 hc9 => ?_)
    exact ⟨_, rfl, hb0.trans (hc9.below hb0.size (fun k hk e => by have := hms k e; omega)), by rw [next_no (fun j hj => hno j (by omega))]; rfl⟩
end Go.Proofs.YtphmoebiobjfhaaGreat
