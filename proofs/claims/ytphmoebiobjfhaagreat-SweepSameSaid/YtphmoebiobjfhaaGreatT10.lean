/- Walks of functions, printed by a program of the author. -/
import Derived.Test.YtphmoebiobjfhaaGreatT9
set_option linter.all false
namespace Go.Proofs.YtphmoebiobjfhaaGreat
open Go Go.Mi Go.RowKit
theorem info5 : (Tryz.prog.info? 5).map (fun i => (i.zero, i.size, i.bytes)) = some (some (Value.int IntKind.u8 0), 1, 1) := by kernel_rfl
theorem f26_c {vC vO vR : Value} {C : Co} {w : World} (hC : SL w vC 3 encC C.ch) (hO : SL w vO 5 encO C.ops) (hR : SL w vR 1 encI C.roots) (h1 : C.ch.length ≤ 100000) (h2 : C.ops.length ≤ 100000) (h3 : C.roots.length ≤ 100000) (op : Int) : Mi.Fn Tryz.prog 26 #[.agg [vC, vO, vR].toArray, .int .i64 op] w fun v w' => ∃ u, v = .tuple #[u, .int .i64 (rulesE C op)] ∧ OS w' u 5 1 encU (if rulesE C op = 0 then rulesC C op else []) w.heap.size := by
 have hb0 := Below.refl w.heap.size w;refine calls_of_WM Tryz.func26 rfl Tryz.ntmps26 rfl ?_;refine W_seq (W_region (SG_box rfl rfl rfl ?_));intro w2 b2 e2 hb2 hz2 hB2
 have hle2 : w.heap.size ≤ b2 := by have := hb0.size; omega
 replace hb0 := btr hb0 hb2;refine SG_alloc Tryz.zeroValue57 rfl rfl ?_;intro w4 b4 e4 hb4 hz4 hB4
 have hle4 : w.heap.size ≤ b4 := by have := hb0.size; omega
 have ne_b2_4 : ¬ b2 = b4 := by have := hB2.lt; omega
 replace hb0 := btr hb0 hb4;replace hB2 := hB2.below hb4;refine SG_q (Rq_assign rfl) rfl (SG_nil (D_then (W_seq (W_region ?_))))
 first | refine SG_q (Rq_loadBW (hB2) Tryz.isAgg26 Tryz.sizeOf26 rfl rfl) rfl ?_ | refine SG_q (Rq_loadBA (hB2) Tryz.isAgg26 Tryz.sizeOf26 rfl rfl rfl) rfl ?_
 refine SG_call rfl Tryz.call40 rfl (f40_k ((hC).below hb0) ((hO).below hb0) ((hR).below hb0) h1 h2 h3) ?_;rintro v10 w10 hb10 ⟨p, rfl, hP⟩;replace hb0 := btr hb0 hb10;replace hB4 := hB4.below hb10;refine SG_q (Rq_move rfl) rfl (SG_q (Rq_extract rfl rfl) rfl (SG_q (Rq_extract rfl rfl) rfl (SG_q (Rq_assign rfl) rfl (SG_q (Rq_assign rfl) rfl (SG_nil (D_then (W_seq (W_block (W_seq (W_region (SG_q (Rq_move rfl) rfl (SG_q (Rq_neq rfl rfl) rfl (SG_q (Rq_assign rfl) rfl (SG_nil (D_then ?_)))))))))))))));refine W_cond rfl ?_ ?_
 ·intro g13
  try simp only [dd] at g13
  refine W_seq ?_;refine W_region ?_;refine SG_q (Rq_move rfl) rfl ?_;refine SG_storeW (hB4) rfl rfl rfl rfl Tryz.sizeOf57 rfl rfl ?_;intro ws3x1 hchs3x1 hBs3x1;replace hb0 := bchg hb0 hchs3x1 hle4;clear hB4;refine SG_q (Rq_assign rfl) rfl ?_;refine SG_nil ?_;refine D_then ?_;refine W_ret ?_;refine D_block_ret ?_;refine D_then_ret ?_;refine D_bodyMR2 rfl rfl (Marks.nil _) (fun w9 hc9 => .cell rfl (hBs3x1.chg hc9 (fun hm => (Marks.nil _).ne hBs3x1 _ hm rfl)) Tryz.isAgg57 rfl) (fun w9 hc9 => .tmp rfl) (fun w9 hc9 => ?_);exact ⟨_, rfl, hb0.trans (hc9.below hb0.size (fun k hk e => by simp at e)), _, by rw [rulesE, if_pos (by simpa using g13)], by rw [if_neg (by rw [rulesE, if_pos (by simpa using g13)]; simpa using g13)]; exact OS.nil (fun _ => rfl) (by decide)⟩
 ·intro g13
  try simp only [dd] at g13
  have hck0 : checkR C = 0 := by simpa using g13
  obtain ⟨bs, rM, uC, uO, uR, uU, uT, rfl, hS⟩ := hP hck0
  have ne_hS_b4 : ∀ k, StB bs rM uC uO uR uU uT k → ¬ k = b4 := fun k hk => by have := hS.lt hk; omega
  refine W_seq ?_;refine W_region ?_;refine SG_q (Rq_move rfl) rfl ?_;refine SG_q (Rq_lss rfl rfl) rfl ?_;refine SG_q (Rq_move rfl) rfl ?_;refine SG_or (r := ?r20n1) 9 29 20 rfl ?_ ?_ ?_; rotate_left
  ·intro g20 K20
   have g20' := g20; try simp only [dd] at g20'
   have hm20 := Below.refl (w10).heap.size w10;refine SG_yes 20 rfl rfl g20 (SG_q (Rq_move rfl) rfl (SG_yes 20 rfl rfl g20 (SG_q (Rq_move rfl) rfl (SG_yes 20 rfl rfl g20 (SG_q (Rq_nilCheck rfl) rfl (SG_yes 20 rfl rfl g20 (SG_q (Rq_fieldAddr fa92_0 rfl) rfl (SG_yes 20 rfl rfl g20 (SG_q (Rq_fieldAddr fa26_1 rfl) rfl (SG_yes 20 rfl rfl g20 (SG_q (Rq_loadB (hS.blk) Tryz.isAgg23 rfl rfl) rfl (SG_yes 20 rfl rfl g20 (SG_q (Rq_len (hS.oO.sl) Tryz.runUnderlying23 rfl) rfl (SG_yes 20 rfl rfl g20 (SG_q (Rq_geq rfl rfl) rfl (SG_q (Rq_pick rfl (fun h => absurd (g20.symm.trans h) (by decide)) (fun _ => rfl)) rfl ?_))))))))))))))));exact K20 _ _ hm20 (by repeat (first | exact Sub.refl | refine Sub.shadow ?_ | refine Sub.same ?_ | refine Sub.push rfl ?_))
  ·intro g20 K20
   have g20' := g20; try simp only [dd] at g20'
   have hm20 := Below.refl (w10).heap.size w10;refine SG_no 20 rfl rfl g20 rfl (SG_no 20 rfl rfl g20 rfl (SG_no 20 rfl rfl g20 rfl (SG_no 20 rfl rfl g20 rfl (SG_no 20 rfl rfl g20 rfl (SG_no 20 rfl rfl g20 rfl (SG_no 20 rfl rfl g20 rfl (SG_no 20 rfl rfl g20 rfl (SG_q (Rq_pick rfl (fun _ => rfl) (fun h => absurd (g20.symm.trans h) (by decide))) rfl ?_))))))));exact K20 _ _ hm20 (by repeat (first | exact Sub.refl | refine Sub.shadow ?_ | refine Sub.same ?_ | refine Sub.push rfl ?_))
  intro wm20 hbm20;replace hb0 := btr hb0 hbm20;replace hB4 := hB4.below hbm20;replace hS := hS.below hbm20
  simp only [List.drop_succ_cons, List.drop_zero]
  refine SG_q (Rq_assign rfl) rfl (SG_nil (D_then ?_));refine W_cond rfl ?_ ?_
  ·intro g17
   try simp only [dd] at g17
   refine W_seq ?_;refine W_region ?_;refine SG_storeW (hB4) rfl rfl rfl rfl Tryz.sizeOf57 rfl rfl ?_;intro ws5x0 hchs5x0 hBs5x0;replace hb0 := bchg hb0 hchs5x0 hle4;clear hB4;refine SG_q (Rq_assign rfl) rfl ?_;refine SG_nil ?_;refine D_then ?_;refine W_ret ?_;refine D_block_ret ?_;refine D_then_ret ?_;refine D_bodyMR2 rfl rfl (Marks.nil _) (fun w9 hc9 => .cell rfl (hBs5x0.chg hc9 (fun hm => (Marks.nil _).ne hBs5x0 _ hm rfl)) Tryz.isAgg57 rfl) (fun w9 hc9 => .tmp rfl) (fun w9 hc9 => ?_);exact ⟨_, rfl, hb0.trans (hc9.below hb0.size (fun k hk e => by simp at e)), _, by rw [rulesE, if_neg (by simp [hck0]), if_pos (by simpa using g17)], by rw [if_neg (by rw [rulesE, if_neg (by simp [hck0]), if_pos (by simpa using g17)]; decide)]; exact OS.nil (fun _ => rfl) (by decide)⟩
  ·intro g17
   try simp only [dd] at g17
   refine W_skip (D_block (D_then (W_seq (W_seq (W_region (SG_q (Rq_move rfl) rfl (SG_q (Rq_move rfl) rfl (SG_call rfl Tryz.call52 rfl (f52_c _ _ _) ?_))))))));rintro v32 w32 hb32 ⟨c1, c2, rfl, hA1, hA2, hlA1, hlA2⟩;replace hb0 := btr hb0 hb32;replace hB4 := hB4.below hb32;replace hS := hS.below hb32;refine SG_nil (D_then (W_block ?_))
   have hSl : ∀ k, StB bs rM uC uO uR uU uT k → k < w32.heap.size := fun k hk => (hS.lt hk).2
   have hl32 : (rulesC C op).length ≤ 11 := rl_len _ _;have hb4z := hB4.lt;have hw32 := hb0.size;have hz10 := hb10.size;have hzm20 := hbm20.size;refine W_range rfl rfl Tryz.call66 (fun w' hb => f66_it (hS.below hb) (usedR_length C) (truthsR_length C.ops) (check_wf hck0) (i := op) (by omega) (by omega) (hA1.below hb) (hA2.below hb)) (by rintro k (hk | rfl | rfl); exact (hS.lt hk).2; exact hA1.lt; exact hA2.lt) (σ := Value) (fun pre v w' => Below w.heap.size w w' ∧ StF (⟨84, 76, 3, 4, 92⟩ : StTy) w4.heap.size w' bs rM uC uO uR uU uT C ∧ Blk w' b4 [v] 57 ∧ OS w' v 5 1 encU pre (w32.heap.size + 2)) (fun _ _ _ _ => False) (fun v k => k = b4 ∨ v.ownBlock = some k) (.slice none 0 0) ?hJ (fun _ _ _ _ _ h _ => h) ?hM (fun _ _ _ _ _ h _ => h.elim) ⟨hb0, hS, hB4, OS.nil (fun _ => rfl) (by decide)⟩ ?_ ?_ ?_
   case hJ => exact fun pre v w1 w2 ⟨hb, h1, h2, h3⟩ hc => ⟨hb.trans (hc.below hb.size fun k hk e => e (.inl (Nat.lt_of_lt_of_le hk hw32))), h1.chg hc (fun k hk e => e (.inl (hSl k hk))), h2.chg hc (fun e => e (.inr (.inl rfl))), h3.chg hc (fun b hb e => e (.inr (.inr hb)))⟩
   case hM => exact fun pre v w1 k h hm => by rcases hm with rfl | hm; (exact .inl ⟨hb4z, by rintro (hk | rfl | rfl); (have := hS.lt hk; omega); omega; omega⟩); exact .inr (h.2.2.2.lt hm)
   ·rintro pre r post v w6 hsp hJ6 hsz6
    have hb0 := Below.refl w6.heap.size w6;refine W_region (SG_q (Rq_assign rfl) rfl (SG_nil (D_as ?_)));rintro w7 ⟨⟨hbw7, hS, hB4, hV⟩, hsz7, hrec7⟩;have hb0 := Below.refl w7.heap.size w7
    have hlen : pre.length ≤ 10 := by have h := congrArg List.length hsp; simp only [List.length_append, List.length_cons] at h; have : (rulesAt C.ops (truthsR C.ops) (usedR C) (mget (firstR C.ops)) op).length ≤ 11 := hl32; omega
    have hcc := Chg.refl (fun k => k = b4 ∨ v.ownBlock = some k) w7;refine W_block (W_region (SG_q (Rq_loadB (hB4) Tryz.isAgg57 rfl rfl) rfl (SG_q (Rq_move rfl) rfl (SG_bslice (enc := encU) (val := (fun n : Int => .int .u8 n)) (os := [.tmp 35]) rfl rfl (MV.cons MV.nil) (fun _ => rfl) (fun _ => rfl) Tryz.runUnderlying57 Tryz.sizeOf5 Tryz.zeroValue5 rfl (by decide) (by decide) rfl ?_))));intro w36 v36 b36 e36 hb36 hz36 hob36 hO36
    have hle36 : w7.heap.size ≤ b36 := by have := hb0.size; omega
    have lt_b4_36 : b4 < b36 := by have := hB4.lt; omega
    replace hb0 := btr hb0 hb36;replace hcc := hcc.trans (Chg.of_below _ hb36);replace hS := hS.below hb36;replace hB4 := hB4.below hb36;replace hV := hV.below hb36;refine SG_append (hV) (hO36.sl) Tryz.underlying57 info5 rfl rfl rfl (fun _ _ => rfl) (by simp only [List.length_append, List.length_cons, List.length_nil]; omega) (by simp only [List.length_append, List.length_cons, List.length_nil]; omega) (by omega) rfl ?_;intro v37 w37 hO37 hch37 hsn37
    have hVl : ∀ k, v.ownBlock = some k → w32.heap.size + 2 ≤ k := fun k e => (hV.lt e).1
    have hz36 := hb36.size;obtain ⟨a37, c37, hv37⟩ := hO37.sl.len;subst hv37;have ne_hO37_b4 := hb4z;replace hcc := hcc.trans (hch37.mono (fun k _ hk => .inr hk));clear hb0;have hb0 := Below.refl w37.heap.size w37
    replace hS := (hS.chg hch37 (fun k hk e => by have := hSl k hk; have := hVl k e; omega))
    replace hB4 := (hB4.chg hch37 (fun e => by have := hVl _ e; omega))
    clear hO36;clear hV;refine SG_storeW (hB4) rfl rfl rfl rfl Tryz.sizeOf57 rfl rfl ?_;intro ws8x4 hchs8x4 hBs8x4;replace hcc := hcc.then hchs8x4 (fun k hk e => by first | (subst e; simp; done) | (exfalso; omega));clear hb0;have hb0 := Below.refl ws8x4.heap.size ws8x4;replace hS := hS.chg hchs8x4 (ne_hS_b4);replace hO37 := hO37.chg hchs8x4 (fun k e e2 => by first | exact ne_hO37_b4 k e e2 | (have := hO37.lt e; have := ne_hO37_b4; omega));clear hB4;refine SG_nil ?_;refine D_block ?_
    exact fun a _ => ⟨_, ⟨hbw7.trans (hcc.below hbw7.size (fun k hk e => by rcases e with rfl | e; omega; have := hVl k e; omega)), hS, hBs8x4, hO37⟩, hcc, fun k hk hm => by rcases hm with rfl | hm; exact .inl rfl; rcases hsn37 k hm with h | h; exact .inr h; exact absurd hk (by omega)⟩
   ·rintro v w8 ⟨hbw8, hS, hB4, hV⟩ hsz8 hmk8
    clear hb0;have hb0 := hbw8;obtain ⟨av, cv, hv⟩ := hV.sl.len;subst hv;have ne_hV_b4 := hb4z;have hz8 := hbw8.size;refine D_block ?_;refine D_then ?_;refine W_seq ?_;refine W_region ?_;refine SG_q (Rq_loadB (hB4) Tryz.isAgg57 rfl rfl) rfl ?_;refine SG_storeW (hB4) rfl rfl rfl rfl Tryz.sizeOf57 rfl rfl ?_;intro ws9x1 hchs9x1 hBs9x1;replace hb0 := bchg hb0 hchs9x1 hle4;replace hV := hV.chg hchs9x1 (fun k e e2 => by first | exact ne_hV_b4 k e e2 | (have := hV.lt e; have := ne_hV_b4; omega));clear hB4;refine SG_q (Rq_assign rfl) rfl ?_;refine SG_nil ?_;refine D_then ?_;refine W_ret ?_;have hMk := ((Marks.nil w8).cons hmk8 (fun D hD => by simp at hD)).chg hchs9x1 (fun D hD e => by simp at hD; omega);refine D_bodyMR2 rfl rfl hMk (fun w9 hc9 => .cell rfl (hBs9x1.chg hc9 (fun hm => hMk.ne hBs9x1 _ hm rfl)) Tryz.isAgg57 rfl) (fun w9 hc9 => .tmp rfl) (fun w9 hc9 => ?_);exact ⟨_, rfl, hb0.trans (hc9.below hb0.size (fun k hk e => by simp at e; omega)), _, by rw [rulesE, if_neg (by simp [hck0]), if_neg (by simpa using g17)], by rw [if_pos (by rw [rulesE, if_neg (by simp [hck0]), if_neg (by simpa using g17)])]; exact (hV.chg hc9 (fun b hb hm => by have := (hV.lt hb).1; simp at hm; omega)).le (by omega)⟩
   ·rintro c pre s w9 hx; exact hx.elim
end Go.Proofs.YtphmoebiobjfhaaGreat
