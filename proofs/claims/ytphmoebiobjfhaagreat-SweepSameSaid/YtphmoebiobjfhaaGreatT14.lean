/- Walks of functions, printed by a program of the author. -/
import Derived.Test.YtphmoebiobjfhaaGreatT13
set_option linter.all false
namespace Go.Proofs.YtphmoebiobjfhaaGreat
open Go Go.Mi Go.RowKit
theorem f67_v {E : VC Tryz.prog} (hfv : E.fv = 67) (hB : E.Y.b = 4) (hTB : E.TB = 54) : ∀ f, Visit E f
 | 0 => fun i found opn s w h0 h1 => by omega
 | f + 1 => f67_s hfv hB hTB (f67_v hfv hB hTB f)
set_option maxHeartbeats 1000000 in
theorem f53_it {lo bs rM : Nat} {vC vO vR vU vT : Value} {C : Co} {w : World} (hS0 : StF (⟨84, 76, 3, 4, 92⟩ : StTy) lo w bs rM vC vO vR vU vT C) (hck : checkR C = 0) : IterB Tryz.prog 53 [.pointer (some ⟨bs, 0, none⟩)] [] (fun i : Int => .int .i64 i) (foundR C) (StB bs rM vC vO vR vU vT) w := by
 intro lp σ J Jx M hJ hJx hM yield s0 h0;have hS := hS0;obtain ⟨⟨hc1, hc2, hc3⟩, _, _⟩ := check_ok hck;have hb0 := Below.refl w.heap.size w;refine calls_of_W Tryz.func53 rfl Tryz.ntmps53 rfl ?_;refine W_seq (W_region (SG_box rfl rfl rfl ?_));intro w2 b2 e2 hb2 hz2 hB2
 have hle2 : w.heap.size ≤ b2 := by have := hb0.size; omega
 have ne_hS_b2 : ∀ k, StB bs rM vC vO vR vU vT k → ¬ k = b2 := fun k hk => by have := hS.lt hk; omega
 replace hb0 := btr hb0 hb2;replace hS := hS.below hb2;refine SG_box rfl rfl rfl ?_;intro w3 b3 e3 hb3 hz3 hB3
 have hle3 : w.heap.size ≤ b3 := by have := hb0.size; omega
 have ne_hS_b3 : ∀ k, StB bs rM vC vO vR vU vT k → ¬ k = b3 := fun k hk => by have := hS.lt hk; omega
 have ne_b2_3 : ¬ b2 = b3 := by have := hB2.lt; omega
 replace hb0 := btr hb0 hb3;replace hS := hS.below hb3;replace hB2 := hB2.below hb3;refine SG_nil (D_then (W_seq (W_region (SG_q (Rq_loadB (hB2) Tryz.isAgg79 rfl rfl) rfl (SG_q (Rq_nilCheck rfl) rfl (SG_q (Rq_fieldAddr fa92_0 rfl) rfl (SG_q (Rq_fieldAddr fa26_1 rfl) rfl (SG_q (Rq_loadB (hS.blk) Tryz.isAgg23 rfl rfl) rfl ?_))))))))
 first | refine SG_q (Rq_len (hS.oO.sl) Tryz.runUnderlying23 rfl) rfl ?_ | refine SG_q (Rq_len ((hV.st.oR.sl).below hb0) Tryz.runUnderlying23 rfl) rfl ?_
 refine SG_make1 (enc := encB) (x0 := false) Tryz.underlying54 info4 rfl rfl (by omega) (by omega) rfl (fun _ => rfl) rfl ?_;intro w14 v14 b14 e14 hb14 hz14 hob14 hO14
 have hle14 : w.heap.size ≤ b14 := by have := hb0.size; omega
 have lt_b2_14 : b2 < b14 := by have := hB2.lt; omega
 have lt_b3_14 : b3 < b14 := by have := hB3.lt; omega
 replace hb0 := btr hb0 hb14;replace hS := hS.below hb14;replace hB2 := hB2.below hb14;replace hB3 := hB3.below hb14;refine SG_alloc Tryz.zeroValue54 rfl rfl ?_;intro w4 b4 e4 hb4 hz4 hB4
 have hle4 : w.heap.size ≤ b4 := by have := hb0.size; omega
 have ne_hS_b4 : ∀ k, StB bs rM vC vO vR vU vT k → ¬ k = b4 := fun k hk => by have := hS.lt hk; omega
 have ne_b2_4 : ¬ b2 = b4 := by have := hB2.lt; omega
 have ne_b3_4 : ¬ b3 = b4 := by have := hB3.lt; omega
 have ne_hO14_b4 : ∀ k, Value.ownBlock v14 = some k → ¬ k = b4 := fun k e => by have := hO14.lt e; omega
 replace hb0 := btr hb0 hb4;replace hS := hS.below hb4;replace hB2 := hB2.below hb4;replace hB3 := hB3.below hb4;replace hO14 := hO14.below hb4
 obtain ⟨a14, n14, c14, hv14⟩ : ∃ a n c, v14 = .slice a n c := by obtain ⟨a, c, h⟩ := hO14.sl.len; exact ⟨_, _, _, h⟩
 subst hv14;refine SG_storeW (hB4) rfl rfl rfl rfl Tryz.sizeOf54 rfl rfl ?_;intro ws1x8 hchs1x8 hBs1x8;replace hb0 := bchg hb0 hchs1x8 hle4;replace hS := hS.chg hchs1x8 (ne_hS_b4);replace hB2 := hB2.chg hchs1x8 ne_b2_4;replace hB3 := hB3.chg hchs1x8 ne_b3_4;replace hO14 := hO14.chg hchs1x8 (fun k e e2 => by first | exact ne_hO14_b4 k e e2 | (have := hO14.lt e; have := ne_hO14_b4; omega));clear hB4;refine SG_nil ?_;refine D_then ?_;refine W_seq ?_;refine W_region ?_;refine SG_alloc Tryz.zeroValue124 rfl rfl ?_;intro w5 b5 e5 hb5 hz5 hB5
 have hle5 : w.heap.size ≤ b5 := by have := hb0.size; omega
 have ne_hS_b5 : ∀ k, StB bs rM vC vO vR vU vT k → ¬ k = b5 := fun k hk => by have := hS.lt hk; omega
 have ne_b2_5 : ¬ b2 = b5 := by have := hB2.lt; omega
 have ne_b3_5 : ¬ b3 = b5 := by have := hB3.lt; omega
 have ne_hO14_b5 : ∀ k, Value.ownBlock (Value.slice a14 n14 c14) = some k → ¬ k = b5 := fun k e => by have := hO14.lt e; omega
 have ne_b4_5 : ¬ b4 = b5 := by have := hBs1x8.lt; omega
 replace hb0 := btr hb0 hb5;replace hS := hS.below hb5;replace hB2 := hB2.below hb5;replace hB3 := hB3.below hb5;replace hO14 := hO14.below hb5;replace hBs1x8 := hBs1x8.below hb5;refine SG_nil ?_;refine D_then ?_;refine W_seq ?_;refine W_region ?_;refine SG_q (Rq_makeFunc rfl) rfl ?_;refine SG_storeW (hB5) rfl rfl rfl rfl Tryz.sizeOf124 rfl rfl ?_;intro ws3x1 hchs3x1 hBs3x1;replace hb0 := bchg hb0 hchs3x1 hle5;replace hS := hS.chg hchs3x1 (ne_hS_b5);replace hB2 := hB2.chg hchs3x1 ne_b2_5;replace hB3 := hB3.chg hchs3x1 ne_b3_5;replace hO14 := hO14.chg hchs3x1 (fun k e e2 => by first | exact ne_hO14_b5 k e e2 | (have := hO14.lt e; have := ne_hO14_b5; omega));replace hBs1x8 := hBs1x8.chg hchs3x1 ne_b4_5;clear hB5
 obtain ⟨E, s, hV, hfv, hYb, hTB, hxs, hEJ, hEx, hcV, hcs⟩ : ∃ (E : VC Tryz.prog) (s : E.σ), V E [] [] s ws3x1 ∧ E.fv = 67 ∧ E.Y.b = 4 ∧ E.TB = 54 ∧ E.xs = foundR E.C ∧ (∀ s w, E.J (foundR E.C) s w → ∃ s', J (foundR C) s' w) ∧ (∀ pre s w, E.Jx pre s w → ∃ pre s', Jx pre s' w) ∧ b5 = E.cV ∧ b2 = E.cs := by
  refine ⟨⟨σ, J, Jx, M, w, b4, b2, b5, b3, bs, rM, lp, lo, Value.slice a14 n14 c14, vC, vO, vR, vU, vT, C, usedR C, truthsR C.ops, firstR C.ops, (⟨84, 76, 3, 4, 92⟩ : StTy), 54, 79, 124, 67, foundR C, hck, hJ, hJx, hM, yield, ?_, ?_, fun k hk => (hS0.lt hk).2⟩, s0, ⟨?_, ?_, ?_, ?_, ?_, ?_, ?_, ?_, ?_⟩, rfl, rfl, rfl, rfl, fun s w h => ⟨s, h⟩, fun pre s w h => ⟨pre, s, h⟩, rfl, rfl⟩
  ·rintro k (rfl | rfl | rfl | rfl | hk); exact hle4; exact hle2; exact hle5; exact hle3; exact Nat.le_trans (by omega) (hO14.lt hk).1
  ·exact fun k hk => ⟨ne_hO14_b4 k hk, fun e => by have := (hO14.lt hk).1; omega, ne_hO14_b5 k hk, fun e => by have := (hO14.lt hk).1; omega⟩
  ·exact hJ _ _ _ _ h0 (Chg.of_below _ hb0)
  ·exact hBs1x8
  ·dsimp only; rw [List.append_nil, seenL_none]; exact hO14.le (by omega)
  ·exact hB2
  ·exact hBs3x1
  ·exact hB3
  ·exact hS
  ·exact fun k hk hm => by have h1 := (hM _ _ _ _ h0 hm).1; rcases hk with rfl | rfl | rfl | rfl | hk; ((try dsimp only at h1); omega); ((try dsimp only at h1); omega); ((try dsimp only at h1); omega); ((try dsimp only at h1); omega); (have := (hO14.lt hk).1; omega)
  ·exact hb0.size
 clear hS;clear hB2;clear hB3;clear hO14;clear hBs1x8;clear hBs3x1;subst hcV hcs;clear hb0;have hb0 := Below.refl ws3x1.heap.size ws3x1;obtain ⟨⟨hl1, hl2, hl3⟩, hroots, hops⟩ := check_ok E.hck;refine SG_nil (D_then (W_seq (W_region (SG_q (Rq_loadB (hV.bs) Tryz.isAgg79 rfl rfl) rfl (SG_q (Rq_nilCheck rfl) rfl (SG_q (Rq_fieldAddr fa92_0 rfl) rfl (SG_q (Rq_fieldAddr fa26_2 rfl) rfl (SG_q (Rq_loadB (hV.st.blk) Tryz.isAgg24 rfl rfl) rfl ?_))))))))
 first | refine SG_q (Rq_len ((hS.oO.sl).below hb0) Tryz.runUnderlying24 rfl) rfl ?_ | refine SG_q (Rq_len (hV.st.oR.sl) Tryz.runUnderlying24 rfl) rfl ?_
 refine SG_q (Rq_move rfl) rfl (SG_nil (D_then (W_block ?_)));refine W_loop (α := Nat × E.σ) (fun x => [(22, .int .i64 (x.1 : Nat)), (21, .int .i64 (E.C.roots.length : Nat)), (20, E.vR), (5, .pointer (some ⟨E.cV, 0, none⟩))]) (fun x w' => x.1 ≤ E.C.roots.length ∧ V E ((E.C.roots.take x.1).foldl (visitF E.C.ops E.C.ops.length) []) [] x.2 w') (fun x => E.C.roots.length - x.1) ((0, s)) (by repeat (first | exact Sub.nil | refine Sub.cons rfl ?_)) ⟨Nat.zero_le _, hV⟩ ?_;clear hb0;clear hV;rintro x wl0 ⟨hx, hV⟩;have hb0 := Below.refl wl0.heap.size wl0;refine W_seq (W_region (SG_q (Rq_lss rfl rfl) rfl (SG_nil (D_then (W_seq ?_)))));refine W_cond rfl ?_ ?_
 ·intro g23
  try simp only [dd] at g23
  have hxl : x.1 < E.C.roots.length := by omega
  obtain ⟨m, hm⟩ : ∃ m, E.C.roots[x.1]? = some m := ⟨_, List.getElem?_eq_getElem hxl⟩
  refine W_skip (D_then (W_seq (W_block (W_seq (W_region ?_)))))
  first | refine SG_index ((hS.oO.sl).below hb0) Tryz.runUnderlying24 Tryz.sizeOf3 rfl rfl ?_ ?_ rfl ?_ | refine SG_index (hV.st.oR.sl) Tryz.runUnderlying24 Tryz.sizeOf3 rfl rfl ?_ ?_ rfl ?_
  ·omega
  ·omega
  intro x24 hx24 hc24;have ex24 := Option.some.inj ((hm).symm.trans hx24); subst ex24;refine SG_q (Rq_load Tryz.isAgg3 rfl ((hc24).cell 0 rfl)) rfl (SG_q (Rq_assign rfl) rfl (SG_nil (D_then (W_seq (W_region (SG_q (Rq_loadB (hV.bV) Tryz.isAgg124 rfl rfl) rfl (SG_q (Rq_move rfl) rfl ?_)))))));have hrm := hroots m (List.mem_of_getElem? hm)
  have hfo : (E.C.roots.take (x.1 + 1)).foldl (visitF E.C.ops E.C.ops.length) [] = visitF E.C.ops E.C.ops.length ((E.C.roots.take x.1).foldl (visitF E.C.ops E.C.ops.length) []) m := by rw [take_succ_get hm, List.foldl_append]; rfl
  refine SG_callvC (cap := E.ptrs) (by rw [← hfv]; rfl) rfl rfl Tryz.call67 rfl (K := fun v w' => ∃ b s', v = .bool b ∧ (b = true → V E ((E.C.roots.take (x.1 + 1)).foldl (visitF E.C.ops E.C.ops.length) []) [] s' w') ∧ (b = false → ∃ p, E.Jx p s' w')) ?_ ?_
  ·have hcl := f67_v hfv hYb hTB E.C.ops.length m ((E.C.roots.take x.1).foldl (visitF E.C.ops E.C.ops.length) []) [] x.2 wl0 hrm.1 hrm.2 (Nat.le_refl _) hV (fun o ho => by simp at ho) (by rw [← hfo, hxs, foundR]; have h := foldl_pre (visitF_pre E.C.ops E.C.ops.length) (E.C.roots.drop (x.1 + 1)) ((E.C.roots.take (x.1 + 1)).foldl (visitF E.C.ops E.C.ops.length) []); rwa [← List.foldl_append, List.take_append_drop] at h)
   rw [hfv] at hcl;refine Calls.mono hcl ?_;rintro e w' ⟨b, s', rfl, h1, h2, h3, h4⟩; exact ⟨_, rfl, b, s', rfl, (fun hb => by rw [hfo]; exact h3 hb), h4⟩
  rintro v28 w28 ⟨b28, s28, rfl, hv28, hx28⟩;clear hV;clear hb0;have hb0 := Below.refl w28.heap.size w28;refine SG_q (Rq_not rfl) rfl (SG_nil (D_then ?_));refine W_cond rfl ?_ ?_
  ·intro g29
   try simp only [dd] at g29
   refine W_ret (D_block_ret (D_then_ret (D_loop_ret ?_)));refine D_block_ret (D_body0 rfl rfl ?_);obtain ⟨p28, hp28⟩ := hx28 (by simpa using g29);exact ⟨⟨_, rfl⟩, .inr (hEx _ _ _ hp28)⟩
  ·intro g29
   try simp only [dd] at g29
   refine W_skip ?_;refine D_block ?_;refine D_then ?_;refine W_region ?_;refine SG_q (Rq_add rfl rfl (wrap_i64 (by omega) (by omega))) rfl ?_;refine SG_q (Rq_move rfl) rfl ?_;refine SG_nil ?_;refine D_loop ((x.1 + 1, s28)) (by repeat (first | exact Sub.nil | refine Sub.cons rfl ?_)) ⟨by dsimp only; omega, (hv28 (by simpa using g29)).below hb0⟩ (by dsimp only; omega)
 ·intro g23
  try simp only [dd] at g23
  refine W_exit (D_then_exit (D_loop_exit ?_));refine D_block_exit (D_body0 rfl rfl ?_)
  have hxe : E.C.roots.length ≤ x.1 := by omega
  rw [List.take_of_length_le hxe] at hV;exact ⟨⟨_, rfl⟩, .inl (hEJ _ _ hV.j)⟩
end Go.Proofs.YtphmoebiobjfhaaGreat
