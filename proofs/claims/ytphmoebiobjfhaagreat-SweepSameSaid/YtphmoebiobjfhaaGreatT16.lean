/- Walks of functions, printed by a program of the author. -/
import Derived.Test.YtphmoebiobjfhaaGreatT15
set_option linter.all false
namespace Go.Proofs.YtphmoebiobjfhaaGreat
open Go Go.Mi Go.RowKit
theorem build26_ (w : World) : (Instr.build 26 #[]).run Tryz.prog w = .ok (.agg [(.slice none 0 0), (.slice none 0 0), (.slice none 0 0)].toArray) w := by
 unfold Instr.build
 simp [Sem.run_bind, Tryz.zeroValue26, Tryz.runUnderlying26, Tryz.sizeOf22, Tryz.sizeOf23, Tryz.sizeOf24, Instr.fill, Result.andThen, cells_agg]
theorem f29_c {vC vO vR : Value} {C : Co} {w : World} (hC : SL w vC 3 encC C.ch) (hO : SL w vO 5 encO C.ops) (hR : SL w vR 1 encI C.roots) (h1 : C.ch.length ≤ 100000) (h2 : C.ops.length ≤ 100000) (h3 : C.roots.length ≤ 100000) : Mi.Fn Tryz.prog 29 #[.agg [vC, vO, vR].toArray] w fun v w' => v = .tuple #[.int .i64 (if checkR C = 0 then ((foundR C).length : Nat) else 0), .int .i64 (checkR C)] := by
 have hb0 := Below.refl w.heap.size w;refine calls_of_WM Tryz.func29 rfl Tryz.ntmps29 rfl ?_;refine W_seq (W_region (SG_box rfl rfl rfl ?_));intro w1 b1 e1 hb1 hz1 hB1
 have hle1 : w.heap.size ≤ b1 := by have := hb0.size; omega
 replace hb0 := btr hb0 hb1;refine SG_alloc Tryz.zeroValue3 rfl rfl ?_;intro w2 b2 e2 hb2 hz2 hB2
 have hle2 : w.heap.size ≤ b2 := by have := hb0.size; omega
 have ne_b1_2 : ¬ b1 = b2 := by have := hB1.lt; omega
 replace hb0 := btr hb0 hb2;replace hB1 := hB1.below hb2;refine SG_q (Rq_assign rfl) rfl (SG_nil (D_then (W_seq (W_region ?_))))
 first | refine SG_q (Rq_loadBW (hB1) Tryz.isAgg26 Tryz.sizeOf26 rfl rfl) rfl ?_ | refine SG_q (Rq_loadBA (hB1) Tryz.isAgg26 Tryz.sizeOf26 rfl rfl rfl) rfl ?_
 refine SG_call rfl Tryz.call40 rfl (f40_k ((hC).below hb0) ((hO).below hb0) ((hR).below hb0) h1 h2 h3) ?_;rintro v7 w7 hb7 ⟨p, rfl, hP⟩;replace hb0 := btr hb0 hb7;replace hB2 := hB2.below hb7;refine SG_q (Rq_move rfl) rfl (SG_q (Rq_extract rfl rfl) rfl (SG_q (Rq_extract rfl rfl) rfl (SG_q (Rq_assign rfl) rfl (SG_q (Rq_assign rfl) rfl (SG_nil (D_then (W_seq (W_seq (W_region (SG_q (Rq_move rfl) rfl (SG_q (Rq_neq rfl rfl) rfl (SG_nil (D_then ?_)))))))))))));refine W_cond rfl ?_ ?_
 ·intro g11
  try simp only [dd] at g11
  refine W_seq (W_region (SG_q (Rq_move rfl) rfl (SG_storeW (hB2) rfl rfl rfl rfl Tryz.sizeOf3 rfl rfl ?_)));intro ws3x1 hchs3x1 hBs3x1;replace hb0 := bchg hb0 hchs3x1 hle2;clear hB2;refine SG_q (Rq_assign rfl) rfl (SG_nil (D_then (W_ret (D_then_ret (D_bodyMR2 rfl rfl (Marks.nil _) (fun w9 hc9 => .cell rfl (hBs3x1.chg hc9 (fun hm => (Marks.nil _).ne hBs3x1 _ hm rfl)) Tryz.isAgg3 rfl) (fun w9 hc9 => .tmp rfl) (fun w9 hc9 => ?_))))));exact ⟨_, rfl, hb0.trans (hc9.below hb0.size (fun k hk e => by simp at e)), by rw [if_neg (by simpa using g11)]⟩
 ·intro g11
  try simp only [dd] at g11
  have hck0 : checkR C = 0 := by simpa using g11
  obtain ⟨bs, rM, uC, uO, uR, uU, uT, rfl, hS⟩ := hP hck0
  have ne_hS_b2 : ∀ k, StB bs rM uC uO uR uU uT k → ¬ k = b2 := fun k hk => by have := hS.lt hk; omega
  refine W_skip (D_then (W_seq (W_seq (W_region (SG_q (Rq_move rfl) rfl (SG_q (Rq_makeFuncB rfl) rfl (SG_nil (D_then (W_block ?_)))))))))
  have hSl : ∀ k, StB bs rM uC uO uR uU uT k → k < w7.heap.size := fun k hk => (hS.lt hk).2
  have hb2z := hB2.lt;have hwW := hb0.size;have hfl := nodup_le (found_nodup hck0).1 (found_nodup hck0).2;refine W_rangeB rfl rfl Tryz.call53 (fun w' hb => f53_it (hS.below hb) hck0) (fun k hk => (hS.lt hk).2) (σ := Unit) (fun pre _ w' => Below w.heap.size w w' ∧ StF (⟨84, 76, 3, 4, 92⟩ : StTy) w2.heap.size w' bs rM uC uO uR uU uT C ∧ Blk w' b2 [.int .i64 ((pre).length : Nat)] 3) (fun _ _ _ _ => False) (fun _ k => k = b2) () ?hJ (fun _ _ _ _ _ h _ => h) ?hM (fun _ _ _ _ _ h _ => h.elim) ⟨hb0, hS, hB2⟩ ?_ ?_ ?_
  case hJ => exact fun pre u w1 w2 ⟨h0, h1, h2⟩ hc => ⟨h0.trans (hc.below h0.size fun k hk e => e (.inl (Nat.lt_of_lt_of_le hk hwW))), h1.chg hc (fun k hk e => e (.inl (hSl k hk))), h2.chg hc (fun e => e (.inr rfl))⟩
  case hM => exact fun pre u w1 k h hm => .inl ⟨by rw [hm]; exact hb2z, fun hk => ne_hS_b2 _ hk hm⟩
  ·rintro pre i post u wr6 hsp hJ6 hsz6
   have hb0 := Below.refl wr6.heap.size wr6;refine W_skip (D_as ?_);rintro wr7 ⟨⟨hbw7, hS, hB2⟩, hsz7, hLp⟩;have hb0 := Below.refl wr7.heap.size wr7
   have hpl : pre.length < 3000 := by have h := congrArg List.length hsp; simp only [List.length_append, List.length_cons] at h; have := (check_ok hck0).1; omega
   have hcc := Chg.refl (fun k => k = b2) wr7;refine W_block ?_;refine W_region ?_;refine SG_q (Rq_loadB (hB2) Tryz.isAgg3 rfl rfl) rfl ?_;refine SG_q (Rq_add rfl rfl (wrap_i64 (by omega) (by omega))) rfl ?_;refine SG_storeW (hB2) rfl rfl rfl rfl Tryz.sizeOf3 rfl rfl ?_;intro ws5x2 hchs5x2 hBs5x2;replace hcc := hcc.then hchs5x2 (fun k hk e => by first | (subst e; simp; done) | (exfalso; omega));clear hb0;have hb0 := Below.refl ws5x2.heap.size ws5x2;replace hS := hS.chg hchs5x2 (ne_hS_b2);clear hB2;refine SG_nil ?_;refine D_block ?_
   exact fun a _ => ⟨(), ⟨hbw7.trans (hcc.below hbw7.size (fun k hk e => by omega)), hS, by rw [List.length_append]; exact hBs5x2⟩, hcc, fun k _ h => h⟩
  ·rintro u w8 ⟨hbw8, hS, hB2⟩ hsz8 hmk8
   clear hb0;have hb0 := hbw8;refine D_block ?_;refine D_then ?_;refine W_seq ?_;refine W_region ?_;refine SG_q (Rq_loadB (hB2) Tryz.isAgg3 rfl rfl) rfl ?_;refine SG_storeW (hB2) rfl rfl rfl rfl Tryz.sizeOf3 rfl rfl ?_;intro ws6x1 hchs6x1 hBs6x1;replace hb0 := bchg hb0 hchs6x1 hle2;clear hB2;refine SG_q (Rq_assign rfl) rfl ?_;refine SG_nil ?_;refine D_then ?_;refine W_ret ?_;have hMk := ((Marks.nil w8).cons hmk8 (fun D hD => by simp at hD)).chg hchs6x1 (fun D hD e => by simp at hD; omega);refine D_bodyMR2 rfl rfl hMk (fun w9 hc9 => .cell rfl (hBs6x1.chg hc9 (fun hm => hMk.ne hBs6x1 _ hm rfl)) Tryz.isAgg3 rfl) (fun w9 hc9 => .tmp rfl) (fun w9 hc9 => ?_);exact ⟨_, rfl, hb0.trans (hc9.below hb0.size (fun k hk e => by simp at e; omega)), by rw [hck0, if_pos rfl]⟩
  ·rintro c pre s w9 hx; exact hx.elim
theorem f30_c {vC vO vR : Value} {C : Co} {w : World} (hC : SL w vC 3 encC C.ch) (hO : SL w vO 5 encO C.ops) (hR : SL w vR 1 encI C.roots) (h1 : C.ch.length ≤ 100000) (h2 : C.ops.length ≤ 100000) (h3 : C.roots.length ≤ 100000) : Mi.Fn Tryz.prog 30 #[.agg [vC, vO, vR].toArray] w fun v w' => ∃ u, v = .tuple #[u, .int .i64 (checkR C)] ∧ CoV w.heap.size w'.heap.size w' u (if checkR C = 0 then tidyR C else noCo) := by
 have hb0 := Below.refl w.heap.size w;refine calls_of_W Tryz.func30 rfl Tryz.ntmps30 rfl ?_;refine W_seq (W_region (SG_box rfl rfl rfl ?_));intro w1 b1 e1 hb1 hz1 hB1
 have hle1 : w.heap.size ≤ b1 := by have := hb0.size; omega
 replace hb0 := btr hb0 hb1;refine SG_alloc Tryz.zeroValue26 rfl rfl ?_;intro w2 b2 e2 hb2 hz2 hB2
 have hle2 : w.heap.size ≤ b2 := by have := hb0.size; omega
 have ne_b1_2 : ¬ b1 = b2 := by have := hB1.lt; omega
 replace hb0 := btr hb0 hb2;replace hB1 := hB1.below hb2;refine SG_q (Rq_assign rfl) rfl (SG_nil (D_then (W_seq (W_region ?_))))
 first | refine SG_q (Rq_loadBW (hB1) Tryz.isAgg26 Tryz.sizeOf26 rfl rfl) rfl ?_ | refine SG_q (Rq_loadBA (hB1) Tryz.isAgg26 Tryz.sizeOf26 rfl rfl rfl) rfl ?_
 refine SG_call rfl Tryz.call40 rfl (f40_k ((hC).below hb0) ((hO).below hb0) ((hR).below hb0) h1 h2 h3) ?_;rintro v8 w8 hb8 ⟨p, rfl, hP⟩;replace hb0 := btr hb0 hb8;replace hB2 := hB2.below hb8;refine SG_q (Rq_move rfl) rfl (SG_q (Rq_extract rfl rfl) rfl (SG_q (Rq_extract rfl rfl) rfl (SG_q (Rq_assign rfl) rfl (SG_q (Rq_assign rfl) rfl (SG_nil (D_then (W_seq (W_seq (W_region (SG_q (Rq_move rfl) rfl (SG_q (Rq_neq rfl rfl) rfl (SG_nil (D_then ?_)))))))))))));refine W_cond rfl ?_ ?_
 ·intro g12
  try simp only [dd] at g12
  refine W_seq ?_;refine W_region ?_;refine SG_q (Rq_build0 build26_) rfl ?_;refine SG_q (Rq_move rfl) rfl ?_;refine SG_storeW (hB2) rfl rfl rfl rfl Tryz.sizeOf26 rfl rfl ?_;intro ws3x2 hchs3x2 hBs3x2;replace hb0 := bchg hb0 hchs3x2 hle2;clear hB2;refine SG_q (Rq_assign rfl) rfl ?_;refine SG_nil ?_;refine D_then ?_;refine W_ret ?_;refine D_then_ret ?_;refine D_bodyR2 rfl rfl (.cellW rfl (hBs3x2) Tryz.isAgg26 Tryz.sizeOf26 rfl) (.tmp rfl) ?_;exact ⟨_, rfl, hb0, _, rfl, by rw [if_neg (by simpa using g12)]; exact CoV.no _ _ _⟩
 ·intro g12
  try simp only [dd] at g12
  have hck0 : checkR C = 0 := by simpa using g12
  obtain ⟨bs, rM, uC, uO, uR, uU, uT, rfl, hS⟩ := hP hck0
  have ne_hS_b2 : ∀ k, StB bs rM uC uO uR uU uT k → ¬ k = b2 := fun k hk => by have := hS.lt hk; omega
  have hb2lt := hB2.lt;have hb2w := (btr hb1 hb2).size;have hb9w := hb0.size;refine W_skip (D_then (W_seq (W_region (SG_q (Rq_move rfl) rfl (SG_call rfl Tryz.call42 rfl (f42_c (hS) hck0) ?_)))));rintro v16 w16 hb16 ⟨uO2, uR2, rfl, hU1, hU2⟩;replace hb0 := btr hb0 hb16;replace hB2 := hB2.below hb16;replace hS := hS.below hb16
  obtain ⟨a_uO2, n_uO2, c_uO2, h_uO2⟩ : ∃ a n c, uO2 = Value.slice a n c := by obtain ⟨a, c, h⟩ := (hU1.sl).len; exact ⟨_, _, _, h⟩
  subst h_uO2
  obtain ⟨a_uR2, n_uR2, c_uR2, h_uR2⟩ : ∃ a n c, uR2 = Value.slice a n c := by obtain ⟨a, c, h⟩ := (hU2.sl).len; exact ⟨_, _, _, h⟩
  subst h_uR2
  obtain ⟨a_uC, n_uC, c_uC, h_uC⟩ : ∃ a n c, uC = Value.slice a n c := by obtain ⟨a, c, h⟩ := (hS.oC.sl).len; exact ⟨_, _, _, h⟩
  subst h_uC
  have ne_hU1_b2 : ∀ k, Value.ownBlock (.slice a_uO2 n_uO2 c_uO2) = some k → ¬ k = b2 := fun k e => by have := (hU1.lt e).1; omega
  have ne_hU2_b2 : ∀ k, Value.ownBlock (.slice a_uR2 n_uR2 c_uR2) = some k → ¬ k = b2 := fun k e => by have := (hU2.lt e).1; omega
  refine SG_storeW (hB2) rfl rfl rfl rfl Tryz.sizeOf26 rfl rfl ?_;intro ws4x2 hchs4x2 hBs4x2;replace hb0 := bchg hb0 hchs4x2 hle2;replace hS := hS.chg hchs4x2 (ne_hS_b2);replace hU1 := hU1.chg hchs4x2 (fun k e e2 => by first | exact ne_hU1_b2 k e e2 | (have := hU1.lt e; have := ne_hU1_b2; omega));replace hU2 := hU2.chg hchs4x2 (fun k e e2 => by first | exact ne_hU2_b2 k e e2 | (have := hU2.lt e; have := ne_hU2_b2; omega));clear hB2;refine SG_q (Rq_assign rfl) rfl ?_;refine SG_nil ?_;refine D_then ?_;refine W_ret ?_;refine D_bodyR2 rfl rfl (.cellW rfl (hBs4x2) Tryz.isAgg26 Tryz.sizeOf26 rfl) (.tmp rfl) ?_;exact ⟨_, rfl, hb0, _, by rw [hck0], by rw [if_pos hck0]; exact .os (hS.oC.le hb2w) (hU1.le hb9w) (hU2.le hb9w)⟩
theorem f22_c {vC vO vR : Value} {C : Co} {w : World} (hC : SL w vC 3 encC C.ch) (hO : SL w vO 5 encO C.ops) (hR : SL w vR 1 encI C.roots) (h1 : C.ch.length ≤ 100000) (h2 : C.ops.length ≤ 100000) (h3 : C.roots.length ≤ 100000) : Mi.Fn Tryz.prog 22 #[.agg [vC, vO, vR].toArray] w fun v w' => v = .tuple #[valR (if checkR C = 0 then (nextR C).getD rw0 else rw0), .int .i64 (if checkR C ≠ 0 then checkR C else if (nextR C).isSome then 0 else 7)] := by
 have hb0 := Below.refl w.heap.size w;refine calls_of_W Tryz.func22 rfl Tryz.ntmps22 rfl ?_;refine W_seq (W_region (SG_box rfl rfl rfl ?_));intro w1 b1 e1 hb1 hz1 hB1
 have hle1 : w.heap.size ≤ b1 := by have := hb0.size; omega
 replace hb0 := btr hb0 hb1;refine SG_alloc Tryz.zeroValue45 rfl rfl ?_;intro w2 b2 e2 hb2 hz2 hB2
 have hle2 : w.heap.size ≤ b2 := by have := hb0.size; omega
 have ne_b1_2 : ¬ b1 = b2 := by have := hB1.lt; omega
 replace hb0 := btr hb0 hb2;replace hB1 := hB1.below hb2;refine SG_q (Rq_assign rfl) rfl (SG_nil (D_then (W_seq (W_region ?_))))
 first | refine SG_q (Rq_loadBW (hB1) Tryz.isAgg26 Tryz.sizeOf26 rfl rfl) rfl ?_ | refine SG_q (Rq_loadBA (hB1) Tryz.isAgg26 Tryz.sizeOf26 rfl rfl rfl) rfl ?_
 refine SG_call rfl Tryz.call40 rfl (f40_k ((hC).below hb0) ((hO).below hb0) ((hR).below hb0) h1 h2 h3) ?_;rintro v10 w10 hb10 ⟨p, rfl, hP⟩;replace hb0 := btr hb0 hb10;replace hB1 := hB1.below hb10;replace hB2 := hB2.below hb10;refine SG_q (Rq_move rfl) rfl (SG_q (Rq_extract rfl rfl) rfl (SG_q (Rq_extract rfl rfl) rfl (SG_q (Rq_assign rfl) rfl (SG_q (Rq_assign rfl) rfl (SG_nil (D_then (W_seq (W_seq (W_region (SG_q (Rq_move rfl) rfl (SG_q (Rq_neq rfl rfl) rfl (SG_nil (D_then ?_)))))))))))));refine W_cond rfl ?_ ?_
 ·intro g14
  try simp only [dd] at g14
  refine W_seq ?_;refine W_region ?_;refine SG_q (Rq_build0 build45_) rfl ?_;refine SG_q (Rq_move rfl) rfl ?_;refine SG_storeW (hB2) rfl rfl rfl rfl Tryz.sizeOf45 rfl rfl ?_;intro ws3x2 hchs3x2 hBs3x2;replace hb0 := bchg hb0 hchs3x2 hle2;clear hB2;refine SG_q (Rq_assign rfl) rfl ?_;refine SG_nil ?_;refine D_then ?_;refine W_ret ?_;refine D_then_ret ?_;refine D_bodyR2 rfl rfl (.cellW rfl (hBs3x2) Tryz.isAgg45 Tryz.sizeOf45 rfl) (.tmp rfl) ?_;exact ⟨_, rfl, hb0, by rw [if_neg (by simpa using g14), if_pos (by simpa using g14)]; rfl⟩
 ·intro g14
  try simp only [dd] at g14
  have hck0 : checkR C = 0 := by simpa using g14
  obtain ⟨bs, rM, uC, uO, uR, uU, uT, rfl, hS⟩ := hP hck0
  have ne_hS_b2 : ∀ k, StB bs rM uC uO uR uU uT k → ¬ k = b2 := fun k hk => by have := hS.lt hk; omega
  refine W_skip (D_then (W_seq (W_region (SG_q (Rq_move rfl) rfl (SG_call rfl Tryz.call48 rfl (f48_c (hS) hck0) ?_)))));rintro v19 w19 hb19 rfl;replace hb0 := btr hb0 hb19;replace hB1 := hB1.below hb19;replace hB2 := hB2.below hb19;replace hS := hS.below hb19;refine SG_q (Rq_move rfl) rfl (SG_q (Rq_extract rfl rfl) rfl (SG_q (Rq_extract rfl rfl) rfl (SG_alloc Tryz.zeroValue45 rfl rfl ?_)));intro w6 b6 e6 hb6 hz6 hB6
  have hle6 : w.heap.size ≤ b6 := by have := hb0.size; omega
  have ne_b1_6 : ¬ b1 = b6 := by have := hB1.lt; omega
  have ne_b2_6 : ¬ b2 = b6 := by have := hB2.lt; omega
  have ne_hS_b6 : ∀ k, StB bs rM uC uO uR uU uT k → ¬ k = b6 := fun k hk => by have := hS.lt hk; omega
  replace hb0 := btr hb0 hb6;replace hB2 := hB2.below hb6;refine SG_storeW (hB6) rfl rfl rfl rfl Tryz.sizeOf45 rfl rfl ?_;intro ws4x6 hchs4x6 hBs4x6;replace hb0 := bchg hb0 hchs4x6 hle6;replace hB2 := hB2.chg hchs4x6 ne_b2_6;clear hB6;refine SG_q (Rq_assign rfl) rfl (SG_nil (D_then (W_seq (W_seq (W_region (SG_q (Rq_move rfl) rfl (SG_q (Rq_not rfl) rfl (SG_nil (D_then ?_)))))))));refine W_cond rfl ?_ ?_
  ·intro g23
   try simp only [dd] at g23
   refine W_seq (W_region ?_)
   first | refine SG_q (Rq_loadBW (hBs4x6) Tryz.isAgg45 Tryz.sizeOf45 rfl rfl) rfl ?_ | refine SG_q (Rq_loadBA (hBs4x6) Tryz.isAgg45 Tryz.sizeOf45 rfl rfl rfl) rfl ?_
   refine SG_storeW (hB2) rfl rfl rfl rfl Tryz.sizeOf45 rfl rfl ?_;intro ws6x1 hchs6x1 hBs6x1;replace hb0 := bchg hb0 hchs6x1 hle2;clear hB2;refine SG_q (Rq_assign rfl) rfl ?_;refine SG_nil ?_;refine D_then ?_;refine W_ret ?_;refine D_then_ret ?_;refine D_bodyR2 rfl rfl (.cellW rfl (hBs6x1) Tryz.isAgg45 Tryz.sizeOf45 rfl) (.tmp rfl) ?_;exact ⟨_, rfl, hb0, by rw [if_pos hck0, if_neg (by simp [hck0]), if_neg (by simpa using g23)]; rfl⟩
  ·intro g23
   try simp only [dd] at g23
   refine W_skip (D_then (W_seq (W_region ?_)))
   first | refine SG_q (Rq_loadBW (hBs4x6) Tryz.isAgg45 Tryz.sizeOf45 rfl rfl) rfl ?_ | refine SG_q (Rq_loadBA (hBs4x6) Tryz.isAgg45 Tryz.sizeOf45 rfl rfl rfl) rfl ?_
   refine SG_storeW (hB2) rfl rfl rfl rfl Tryz.sizeOf45 rfl rfl ?_;intro ws7x1 hchs7x1 hBs7x1;replace hb0 := bchg hb0 hchs7x1 hle2;clear hB2;refine SG_q (Rq_assign rfl) rfl ?_;refine SG_nil ?_;refine D_then ?_;refine W_ret ?_;refine D_bodyR2 rfl rfl (.cellW rfl (hBs7x1) Tryz.isAgg45 Tryz.sizeOf45 rfl) (.tmp rfl) ?_;exact ⟨_, rfl, hb0, by rw [if_pos hck0, if_neg (by simp [hck0]), if_pos (by simpa using g23)]; rfl⟩
theorem f12_c {vC vO vR : Value} {C : Co} {w : World} (hC : SL w vC 3 encC C.ch) (hO : SL w vO 5 encO C.ops) (hR : SL w vR 1 encI C.roots) (h1 : C.ch.length ≤ 100000) (h2 : C.ops.length ≤ 100000) (h3 : C.roots.length ≤ 100000) : Mi.Fn Tryz.prog 12 #[.agg [vC, vO, vR].toArray] w fun v w' => ∃ u, v = .tuple #[u, .int .i64 (checkR C)] ∧ OS w' u 45 2 encR (if checkR C = 0 then (stepsR C).1 else []) w.heap.size := by
 have hb0 := Below.refl w.heap.size w;refine calls_of_W Tryz.func12 rfl Tryz.ntmps12 rfl ?_;refine W_seq (W_region (SG_box rfl rfl rfl ?_));intro w1 b1 e1 hb1 hz1 hB1
 have hle1 : w.heap.size ≤ b1 := by have := hb0.size; omega
 replace hb0 := btr hb0 hb1;refine SG_q (Rq_assign rfl) rfl (SG_q (Rq_assign rfl) rfl (SG_nil (D_then (W_seq (W_region ?_)))))
 first | refine SG_q (Rq_loadBW (hB1) Tryz.isAgg26 Tryz.sizeOf26 rfl rfl) rfl ?_ | refine SG_q (Rq_loadBA (hB1) Tryz.isAgg26 Tryz.sizeOf26 rfl rfl rfl) rfl ?_
 refine SG_call rfl Tryz.call40 rfl (f40_k ((hC).below hb0) ((hO).below hb0) ((hR).below hb0) h1 h2 h3) ?_;rintro v8 w8 hb8 ⟨p, rfl, hP⟩;replace hb0 := btr hb0 hb8;refine SG_q (Rq_move rfl) rfl (SG_q (Rq_extract rfl rfl) rfl (SG_q (Rq_extract rfl rfl) rfl (SG_q (Rq_assign rfl) rfl (SG_q (Rq_assign rfl) rfl (SG_nil (D_then (W_seq (W_seq (W_region (SG_q (Rq_move rfl) rfl (SG_q (Rq_neq rfl rfl) rfl (SG_nil (D_then ?_)))))))))))));refine W_cond rfl ?_ ?_
 ·intro g12
  try simp only [dd] at g12
  refine W_seq ?_;refine W_region ?_;refine SG_q (Rq_move rfl) rfl ?_;refine SG_q (Rq_assign rfl) rfl ?_;refine SG_q (Rq_assign rfl) rfl ?_;refine SG_nil ?_;refine D_then ?_;refine W_ret ?_;refine D_then_ret ?_;refine D_body2 rfl rfl rfl rfl ?_;exact ⟨_, rfl, hb0, _, rfl, by rw [if_neg (by simpa using g12)]; exact OS.nil (fun _ => rfl) (by decide)⟩
 ·intro g12
  try simp only [dd] at g12
  have hck0 : checkR C = 0 := by simpa using g12
  obtain ⟨bs, rM, uC, uO, uR, uU, uT, rfl, hS⟩ := hP hck0;have hw1z := hb1.size;refine W_skip (D_then (W_seq (W_region (SG_q (Rq_move rfl) rfl ?_))));have hb0z := hb0.size; have hloz := hS.lob;refine SG_callC rfl Tryz.call41 rfl (K := fun v w' => ∃ rM' vU' vT', StF (⟨84, 76, 3, 4, 92⟩ : StTy) w1.heap.size w' bs rM' uC uO uR vU' vT' (stepsR C).2 ∧ OS w' v 45 2 encR (stepsR C).1 w8.heap.size ∧ Below w.heap.size w w' ∧ Chg (StC bs uO uR) w8 w') ?_ ?_
  ·refine Calls.mono (f41_c hS hck0) ?_
   rintro e w' ⟨rM', vU', vT', u, rfl, h1, h2, h3, h4⟩; exact ⟨_, rfl, rM', vU', vT', h1, h2, hb0.trans (h3.below hb0.size (fun k hk e => by have := (hS.lt (StC.st (rM := rM) (vC := uC) (vU := uU) (vT := uT) e)).1; omega)), h3⟩
  rintro v15 w15 ⟨rM', vU', vT', hS', hO15, hbw, hcst⟩;have hw15 := hb0.size; have hzst := hcst.size;clear hb0;have hb0 := hbw;have hw15w := hbw.size;clear hB1;clear hS;have hS := hS';clear hS';refine SG_q (Rq_assign rfl) rfl ?_;refine SG_q (Rq_assign rfl) rfl ?_;refine SG_nil ?_;refine D_then ?_;refine W_ret ?_;refine D_body2 rfl rfl rfl rfl ?_;exact ⟨_, rfl, hb0, _, by rw [hck0], by rw [if_pos hck0]; exact hO15.le (by omega)⟩
theorem f13_c {vC vO vR : Value} {C : Co} {w : World} (hC : SL w vC 3 encC C.ch) (hO : SL w vO 5 encO C.ops) (hR : SL w vR 1 encI C.roots) (h1 : C.ch.length ≤ 100000) (h2 : C.ops.length ≤ 100000) (h3 : C.roots.length ≤ 100000) : Mi.Fn Tryz.prog 13 #[.agg [vC, vO, vR].toArray] w fun v w' => ∃ u, v = .tuple #[u, .int .i64 (checkR C)] ∧ CoV w.heap.size w'.heap.size w' u (if checkR C = 0 then tidyR (stepsR C).2 else noCo) := by
 have hb0 := Below.refl w.heap.size w;refine calls_of_W Tryz.func13 rfl Tryz.ntmps13 rfl ?_;refine W_seq (W_region (SG_box rfl rfl rfl ?_));intro w1 b1 e1 hb1 hz1 hB1
 have hle1 : w.heap.size ≤ b1 := by have := hb0.size; omega
 replace hb0 := btr hb0 hb1;refine SG_alloc Tryz.zeroValue26 rfl rfl ?_;intro w2 b2 e2 hb2 hz2 hB2
 have hle2 : w.heap.size ≤ b2 := by have := hb0.size; omega
 have ne_b1_2 : ¬ b1 = b2 := by have := hB1.lt; omega
 replace hb0 := btr hb0 hb2;replace hB1 := hB1.below hb2;refine SG_q (Rq_assign rfl) rfl (SG_nil (D_then (W_seq (W_region ?_))))
 first | refine SG_q (Rq_loadBW (hB1) Tryz.isAgg26 Tryz.sizeOf26 rfl rfl) rfl ?_ | refine SG_q (Rq_loadBA (hB1) Tryz.isAgg26 Tryz.sizeOf26 rfl rfl rfl) rfl ?_
 refine SG_call rfl Tryz.call40 rfl (f40_k ((hC).below hb0) ((hO).below hb0) ((hR).below hb0) h1 h2 h3) ?_;rintro v8 w8 hb8 ⟨p, rfl, hP⟩;replace hb0 := btr hb0 hb8;replace hB2 := hB2.below hb8;refine SG_q (Rq_move rfl) rfl (SG_q (Rq_extract rfl rfl) rfl (SG_q (Rq_extract rfl rfl) rfl (SG_q (Rq_assign rfl) rfl (SG_q (Rq_assign rfl) rfl (SG_nil (D_then (W_seq (W_seq (W_region (SG_q (Rq_move rfl) rfl (SG_q (Rq_neq rfl rfl) rfl (SG_nil (D_then ?_)))))))))))));refine W_cond rfl ?_ ?_
 ·intro g12
  try simp only [dd] at g12
  refine W_seq ?_;refine W_region ?_;refine SG_q (Rq_build0 build26_) rfl ?_;refine SG_q (Rq_move rfl) rfl ?_;refine SG_storeW (hB2) rfl rfl rfl rfl Tryz.sizeOf26 rfl rfl ?_;intro ws3x2 hchs3x2 hBs3x2;replace hb0 := bchg hb0 hchs3x2 hle2;clear hB2;refine SG_q (Rq_assign rfl) rfl ?_;refine SG_nil ?_;refine D_then ?_;refine W_ret ?_;refine D_then_ret ?_;refine D_bodyR2 rfl rfl (.cellW rfl (hBs3x2) Tryz.isAgg26 Tryz.sizeOf26 rfl) (.tmp rfl) ?_;exact ⟨_, rfl, hb0, _, rfl, by rw [if_neg (by simpa using g12)]; exact CoV.no _ _ _⟩
 ·intro g12
  try simp only [dd] at g12
  have hck0 : checkR C = 0 := by simpa using g12
  obtain ⟨bs, rM, uC, uO, uR, uU, uT, rfl, hS⟩ := hP hck0;have hb2lt := hB2.lt;have hw1z := hb1.size; have hw2z := hb2.size;have hb2w := (btr hb1 hb2).size;refine W_skip (D_then (W_seq (W_region (SG_q (Rq_move rfl) rfl ?_))));have hb0z := hb0.size; have hloz := hS.lob;refine SG_callC rfl Tryz.call41 rfl (K := fun v w' => ∃ rM' vU' vT', StF (⟨84, 76, 3, 4, 92⟩ : StTy) w2.heap.size w' bs rM' uC uO uR vU' vT' (stepsR C).2 ∧ OS w' v 45 2 encR (stepsR C).1 w8.heap.size ∧ Below w.heap.size w w' ∧ Chg (StC bs uO uR) w8 w') ?_ ?_
  ·refine Calls.mono (f41_c hS hck0) ?_
   rintro e w' ⟨rM', vU', vT', u, rfl, h1, h2, h3, h4⟩; exact ⟨_, rfl, rM', vU', vT', h1, h2, hb0.trans (h3.below hb0.size (fun k hk e => by have := (hS.lt (StC.st (rM := rM) (vC := uC) (vU := uU) (vT := uT) e)).1; omega)), h3⟩
  rintro v16 w16 ⟨rM', vU', vT', hS', hO16, hbw, hcst⟩;have hw15 := hb0.size; have hzst := hcst.size;clear hb0;have hb0 := hbw;have hw16w := hbw.size;clear hB1;replace hB2 := hB2.chg hcst (fun e => by have := (hS.lt (StC.st (rM := rM) (vC := uC) (vU := uU) (vT := uT) e)).1; omega);clear hS;have hS := hS';clear hS';refine SG_nil ?_;refine D_then ?_;refine W_seq ?_;refine W_region ?_;refine SG_q (Rq_move rfl) rfl ?_;refine SG_call rfl Tryz.call42 rfl (f42_c (hS) (steps_len hck0).2) ?_;rintro v18 w18 hb18 ⟨uO2, uR2, rfl, hU1, hU2⟩;replace hb0 := btr hb0 hb18;replace hB2 := hB2.below hb18;replace hS := hS.below hb18
  obtain ⟨a_uO2, n_uO2, c_uO2, h_uO2⟩ : ∃ a n c, uO2 = Value.slice a n c := by obtain ⟨a, c, h⟩ := (hU1.sl).len; exact ⟨_, _, _, h⟩
  subst h_uO2
  obtain ⟨a_uR2, n_uR2, c_uR2, h_uR2⟩ : ∃ a n c, uR2 = Value.slice a n c := by obtain ⟨a, c, h⟩ := (hU2.sl).len; exact ⟨_, _, _, h⟩
  subst h_uR2
  obtain ⟨a_uC, n_uC, c_uC, h_uC⟩ : ∃ a n c, uC = Value.slice a n c := by obtain ⟨a, c, h⟩ := (hS.oC.sl).len; exact ⟨_, _, _, h⟩
  subst h_uC
  have ne_hS_b2 : ∀ k, StB bs rM' (Value.slice a_uC n_uC c_uC) uO uR vU' vT' k → ¬ k = b2 := fun k hk => by have := hS.lt hk; omega
  have ne_hU1_b2 : ∀ k, Value.ownBlock (.slice a_uO2 n_uO2 c_uO2) = some k → ¬ k = b2 := fun k e => by have := (hU1.lt e).1; omega
  have ne_hU2_b2 : ∀ k, Value.ownBlock (.slice a_uR2 n_uR2 c_uR2) = some k → ¬ k = b2 := fun k e => by have := (hU2.lt e).1; omega
  clear hO16;have hb9w := hw16w;refine SG_storeW (hB2) rfl rfl rfl rfl Tryz.sizeOf26 rfl rfl ?_;intro ws5x2 hchs5x2 hBs5x2;replace hb0 := bchg hb0 hchs5x2 hle2;replace hS := hS.chg hchs5x2 (ne_hS_b2);replace hU1 := hU1.chg hchs5x2 (fun k e e2 => by first | exact ne_hU1_b2 k e e2 | (have := hU1.lt e; have := ne_hU1_b2; omega));replace hU2 := hU2.chg hchs5x2 (fun k e e2 => by first | exact ne_hU2_b2 k e e2 | (have := hU2.lt e; have := ne_hU2_b2; omega));clear hB2;refine SG_q (Rq_assign rfl) rfl ?_;refine SG_nil ?_;refine D_then ?_;refine W_ret ?_;refine D_bodyR2 rfl rfl (.cellW rfl (hBs5x2) Tryz.isAgg26 Tryz.sizeOf26 rfl) (.tmp rfl) ?_;exact ⟨_, rfl, hb0, _, by rw [hck0], by rw [if_pos hck0]; exact .os (C := tidyR (stepsR C).2) (hS.oC.le hb2w) (hU1.le hb9w) (hU2.le hb9w)⟩
end Go.Proofs.YtphmoebiobjfhaaGreat
