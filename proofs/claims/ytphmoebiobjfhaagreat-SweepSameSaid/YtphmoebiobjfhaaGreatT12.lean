/- Walks of functions, printed by a program of the author. -/
import Derived.Test.YtphmoebiobjfhaaGreatT11
set_option linter.all false
namespace Go.Proofs.YtphmoebiobjfhaaGreat
open Go Go.Mi Go.RowKit
theorem info45 : (Tryz.prog.info? 45).map (fun i => (i.zero, i.size, i.bytes)) = some (some (Value.agg #[(Value.int IntKind.u8 0), (Value.int IntKind.i64 0)]), 2, 16) := by kernel_rfl
theorem f41_c {lo bs rM : Nat} {vC vO vR vU vT : Value} {C : Co} {w : World} (hS : StF (⟨84, 76, 3, 4, 92⟩ : StTy) lo w bs rM vC vO vR vU vT C) (hck : checkR C = 0) :
  Calls Tryz.prog 41 #[.pointer (some ⟨bs, 0, none⟩)] w fun e w' => ∃ rM' vU' vT' u, e = .returned u ∧ StF (⟨84, 76, 3, 4, 92⟩ : StTy) lo w' bs rM' vC vO vR vU' vT' (stepsR C).2 ∧ OS w' u 45 2 encR (stepsR C).1 w.heap.size ∧ Chg (StC bs vO vR) w w' ∧ (∀ k, u.ownBlock = some k → ¬ StB bs rM' vC vO vR vU' vT' k) := by
 have hb0 := Below.refl w.heap.size w;refine calls_of_W Tryz.func41 rfl Tryz.ntmps41 rfl ?_;refine W_seq (W_region (SG_q (Rq_assign rfl) rfl (SG_nil (D_then (W_seq (W_seq (W_region (SG_q (Rq_move rfl) rfl (SG_call rfl Tryz.call48 rfl (f48_c (hS) hck) ?_)))))))));rintro v7 w7 hb7 rfl;replace hb0 := btr hb0 hb7;replace hS := hS.below hb7;refine SG_q (Rq_move rfl) rfl (SG_q (Rq_extract rfl rfl) rfl (SG_q (Rq_extract rfl rfl) rfl (SG_alloc Tryz.zeroValue45 rfl rfl ?_)));intro w3 b3 e3 hb3 hz3 hB3
 have hle3 : w.heap.size ≤ b3 := by have := hb0.size; omega
 have ne_hS_b3 : ∀ k, StB bs rM vC vO vR vU vT k → ¬ k = b3 := fun k hk => by have := hS.lt hk; omega
 replace hb0 := btr hb0 hb3;replace hS := hS.below hb3;refine SG_storeW (hB3) rfl rfl rfl rfl Tryz.sizeOf45 rfl rfl ?_;intro ws1x6 hchs1x6 hBs1x6;replace hb0 := bchg hb0 hchs1x6 hle3;replace hS := hS.chg hchs1x6 (ne_hS_b3);clear hB3;refine SG_q (Rq_assign rfl) rfl (SG_nil (D_then (W_block ?_)));refine W_loop (α := Sx) (fun x => [(0, .pointer (some ⟨bs, 0, none⟩)), (2, x.u), (3, .pointer (some ⟨x.b, 0, none⟩)), (4, .bool (nextR x.C).isSome)]) (fun x w' => checkR x.C = 0 ∧ StepI C x ∧ StF (⟨84, 76, 3, 4, 92⟩ : StTy) lo w' bs x.rM vC vO vR x.vU x.vT x.C ∧ OS w' x.u 45 2 encR x.l w.heap.size ∧ Blk w' x.b (encR ((nextR x.C).getD rw0)) 45 ∧ ApC w bs vO vR w' ∧ (∀ k, x.u.ownBlock = some k → ¬ StB bs x.rM vC vO vR x.vU x.vT k) ∧ ¬ StB bs x.rM vC vO vR x.vU x.vT x.b ∧ x.u.ownBlock ≠ some x.b ∧ w.heap.size ≤ x.b) (fun x => (refsR x.C).toNat) ((⟨C, [], b3, rM, vU, vT, .slice none 0 0⟩ : Sx)) (by repeat (first | exact Sub.nil | refine Sub.cons rfl ?_)) ⟨hck, ⟨rfl, rfl⟩, hS, OS.nil (fun _ => rfl) (by decide), hBs1x6, Chg.of_below _ hb0, fun k e => (by cases e), fun h => ne_hS_b3 _ h rfl, fun e => (by cases e), by omega⟩ ?_;clear hb0;clear hS;clear hBs1x6;rintro x wl0 ⟨hckx, hI, hS, hU, hBx, hch, hux, hxb, hubx, hxw⟩;have hb0 := Below.refl wl0.heap.size wl0;refine W_seq (W_seq (W_region (SG_q (Rq_move rfl) rfl (SG_nil (D_then ?_)))));refine W_cond rfl ?_ ?_
 ·intro g10
  try simp only [dd] at g10
  obtain ⟨r, hr⟩ := Option.isSome_iff_exists.1 g10;obtain ⟨hr0, hr1, hrap⟩ := next_some hr
  replace hBx : Blk wl0 x.b (encR r) 45 := by simpa [hr] using hBx
  have hlen := hI.len hck;have hxlt := hBx.lt;have hmu := app_less hckx hr0 hr1 hrap;have hpos := refs_nonneg (app_check hckx hr0 hr1 hrap);refine W_skip (D_then (W_seq (W_block (W_seq (W_region (SG_q (Rq_move rfl) rfl ?_))))))
  first | refine SG_q (Rq_loadBW (hBx) Tryz.isAgg45 Tryz.sizeOf45 rfl rfl) rfl ?_ | refine SG_q (Rq_loadBA (hBx) Tryz.isAgg45 Tryz.sizeOf45 rfl rfl rfl) rfl ?_
  refine SG_callC rfl Tryz.call47 rfl (K := fun v w' => ∃ rM' vU' vT', StF (⟨84, 76, 3, 4, 92⟩ : StTy) lo w' bs rM' vC vO vR vU' vT' (appR x.C r) ∧ Chg (StC bs vO vR) wl0 w' ∧ (∀ k, StB bs rM' vC vO vR vU' vT' k → wl0.heap.size ≤ k ∨ StB bs x.rM vC vO vR x.vU x.vT k)) ?_ ?_
  ·refine Calls.mono (f47_c hS hckx r) ?_
   rw [applyR, if_neg (by omega), if_neg (by simp [hrap])];rintro e w' ⟨rM', vU', vT', rfl, h1, h2, h3⟩; exact ⟨_, rfl, rM', vU', vT', h1, h2, h3⟩
  rintro v18 w18 ⟨rM', vU', vT', hS', hc18, hnew⟩
  have hul : ∀ k, x.u.ownBlock = some k → w.heap.size ≤ k ∧ k < wl0.heap.size := fun k e => hU.lt e
  replace hch := (hch.trans (Chg.of_below _ hb0)).trans (hc18.mono fun k _ e => .inr e);replace hBx := hBx.chg hc18 (fun e => hxb (StC.st e));replace hU := hU.chg hc18 (fun k e e2 => hux k e (StC.st e2))
  have hux' : ∀ k, x.u.ownBlock = some k → ¬ StB bs rM' vC vO vR vU' vT' k := fun k e h => (hnew k h).elim (fun h => by have := hul k e; omega) (fun h => hux k e h)
  have hxb' : ¬ StB bs rM' vC vO vR vU' vT' x.b := fun h => (hnew _ h).elim (fun h => by omega) hxb
  clear hS hnew;clear hb0;have hb0 := Below.refl w18.heap.size w18;refine SG_nil (D_then (W_region (SG_q (Rq_move rfl) rfl ?_)))
  first | refine SG_q (Rq_loadBW (hBx) Tryz.isAgg45 Tryz.sizeOf45 rfl rfl) rfl ?_ | refine SG_q (Rq_loadBA (hBx) Tryz.isAgg45 Tryz.sizeOf45 rfl rfl rfl) rfl ?_
  refine SG_bslice (enc := encR) (val := valR) (os := [.tmp 20]) rfl rfl (MV.cons (x := r) MV.nil) (fun _ => rfl) (fun _ => rfl) Tryz.runUnderlying30 Tryz.sizeOf45 Tryz.zeroValue45 rfl (by decide) (by decide) rfl ?_;intro w21 v21 b21 e21 hb21 hz21 hob21 hO21
  have hle21 : w18.heap.size ≤ b21 := by have := hb0.size; omega
  have lt_x.b_21 : x.b < b21 := by have := hBx.lt; omega
  replace hb0 := btr hb0 hb21;replace hS' := hS'.below hb21;replace hBx := hBx.below hb21;replace hU := hU.below hb21;refine SG_append (hU) (hO21.sl) Tryz.underlying30 info45 rfl rfl rfl (fun _ _ => rfl) (by simp only [List.length_append, List.length_cons, List.length_nil]; omega) (by simp only [List.length_append, List.length_cons, List.length_nil]; omega) (by omega) rfl ?_;intro v22 w22 hO22 hch22 hsn22;replace hch := (hch.trans (Chg.of_below _ hb0)).trans (hch22.mono fun k _ e => .inl (hul k e).1);have hz21 := hb21.size
  have hu22 : ∀ k, v22.ownBlock = some k → ¬ StB bs rM' vC vO vR vU' vT' k := fun k e h => (hsn22 k e).elim (fun e => hux' k e h) (fun h2 => by have := (hS'.lt h).2; omega)
  have hw22 := hch22.size;clear hb0;have hb0 := Below.refl w22.heap.size w22
  replace hS' := (hS'.chg hch22 (fun k hk e => hux' k e hk))
  replace hBx := (hBx.chg hch22 (fun e => hubx e))
  clear hO21;clear hU;refine SG_q (Rq_assign rfl) rfl (SG_nil (D_block (D_then (W_seq (W_seq (W_region ?_))))))
  first | refine SG_q (Rq_loadBW (hBx) Tryz.isAgg45 Tryz.sizeOf45 rfl rfl) rfl ?_ | refine SG_q (Rq_loadBA (hBx) Tryz.isAgg45 Tryz.sizeOf45 rfl rfl rfl) rfl ?_
  refine SG_nil (D_then (W_region (SG_alloc Tryz.zeroValue45 rfl rfl ?_)));intro w3 b3 e3 hb3 hz3 hB3
  have hle3 : w22.heap.size ≤ b3 := by have := hb0.size; omega
  have ne_hS'_b3 : ∀ k, StB bs rM' vC vO vR vU' vT' k → ¬ k = b3 := fun k hk => by have := hS'.lt hk; omega
  have ne_x.b_3 : ¬ x.b = b3 := by have := hBx.lt; omega
  have ne_b3_.b : ¬ b3 = x.b := by omega
  have ne_hO22_b3 : ∀ k, Value.ownBlock v22 = some k → ¬ k = b3 := fun k e => by have := hO22.lt e; omega
  replace hb0 := btr hb0 hb3;replace hS' := hS'.below hb3;replace hO22 := hO22.below hb3;refine SG_storeW (hB3) rfl rfl rfl rfl Tryz.sizeOf45 rfl rfl ?_;intro ws7x1 hchs7x1 hBs7x1;replace hb0 := bchg hb0 hchs7x1 hle3;replace hS' := hS'.chg hchs7x1 (ne_hS'_b3);replace hO22 := hO22.chg hchs7x1 (fun k e e2 => by first | exact ne_hO22_b3 k e e2 | (have := hO22.lt e; have := ne_hO22_b3; omega));clear hB3;refine SG_nil ?_;refine D_then ?_;refine W_region ?_;refine SG_q (Rq_move rfl) rfl ?_;refine SG_call rfl Tryz.call48 rfl (f48_c (hS') (app_check hckx hr0 hr1 hrap)) ?_;rintro v13 w13 hb13 rfl;replace hb0 := btr hb0 hb13;replace hS' := hS'.below hb13;replace hO22 := hO22.below hb13;replace hBs7x1 := hBs7x1.below hb13;refine SG_q (Rq_move rfl) rfl ?_;refine SG_q (Rq_extract rfl rfl) rfl ?_;refine SG_q (Rq_extract rfl rfl) rfl ?_;refine SG_storeW (hBs7x1) rfl rfl rfl rfl Tryz.sizeOf45 rfl rfl ?_;intro ws3x5 hchs3x5 hBs3x5;replace hb0 := bchg hb0 hchs3x5 hle3;replace hS' := hS'.chg hchs3x5 (ne_hS'_b3);replace hO22 := hO22.chg hchs3x5 (fun k e e2 => by first | exact ne_hO22_b3 k e e2 | (have := hO22.lt e; have := ne_hO22_b3; omega));clear hBs7x1;refine SG_q (Rq_assign rfl) rfl ?_;refine SG_nil ?_;refine D_loop ((⟨appR x.C r, x.l ++ [r], b3, rM', vU', vT', v22⟩ : Sx)) (by repeat (first | exact Sub.nil | refine Sub.cons rfl ?_)) ⟨app_check hckx hr0 hr1 hrap, hI.next hckx hr _ rfl rfl, hS', hO22, hBs3x5, hch.trans (Chg.of_below _ hb0), hu22, fun h => ne_hS'_b3 _ h rfl, fun e => ne_hO22_b3 _ e rfl, by have := hch.size; dsimp only; omega⟩ (by dsimp only; omega)
 ·intro g10
  try simp only [dd] at g10
  have hn : nextR x.C = none := by simpa using g10
  obtain ⟨hl, hC⟩ := hI.done hn;refine W_exit ?_;refine D_then_exit ?_;refine D_loop_exit ?_;refine D_block_exit ?_;refine D_then ?_;refine W_seq ?_;refine W_region ?_;refine SG_q (Rq_move rfl) rfl ?_;refine SG_q (Rq_assign rfl) rfl ?_;refine SG_nil ?_;refine D_then ?_;refine W_ret ?_;refine D_body1 rfl rfl rfl ?_;refine ⟨x.rM, x.vU, x.vT, x.u, rfl, by rw [← hC]; exact hS, by rw [← hl]; exact hU, (hch.trans (Chg.of_below _ hb0)).mono (fun k hk e => e.resolve_left (by omega)), hux⟩
end Go.Proofs.YtphmoebiobjfhaaGreat
