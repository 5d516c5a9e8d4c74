/- Walks of functions, printed by a program of the author. -/
import Derived.Test.YtphmoebiobjfhaaGreatT16
set_option linter.all false
namespace Go.Proofs.YtphmoebiobjfhaaGreat
open Go Go.Mi Go.RowKit Tryz Go.Proofs.Tryz
set_option maxHeartbeats 1000000 in
theorem f19_w {vC vO vR : Value} {C : Co} {w : World} (hC : SL w vC 3 encC C.ch) (hO : SL w vO 5 encO C.ops) (hR : SL w vR 1 encI C.roots) (h1 : C.ch.length ≤ 100000) (h2 : C.ops.length ≤ 100000) (h3 : C.roots.length ≤ 100000) {vL : Value} {l : List Rw} (hL : SL w vL 2 encR l) : Mi.Fn prog 19 #[.agg [vC, vO, vR].toArray, vL] w fun v w' => ∃ u, v = .tuple #[u, .int .i64 (replayR C l).2.1, .int .i64 (replayR C l).2.2] ∧ CoO 84 76 3 w.heap.size w' u (replayR C l).1 := by
 have hb0 := Below.refl w.heap.size w;refine zE func19 rfl ntmps19 rfl ?_;refine zg (za (qe rfl rfl rfl ?_));intro w2 b2 e2 hb2 hz2 hB2
 have hle2 : w.heap.size ≤ b2 := by have := hb0.size; omega
 replace hb0 := btr hb0 hb2;refine zM zeroValue26 rfl rfl ?_;intro w4 b4 e4 hb4 hz4 hB4
 have hle4 : w.heap.size ≤ b4 := by have := hb0.size; omega
 have ne_b2_4 : ¬ b2 = b4 := by have := hB2.lt; omega
 replace hb0 := btr hb0 hb4;replace hB2 := hB2.below hb4;refine SQ (ze rfl) (SQ (ze rfl) (zd (zb (zg (za ?_)))))
 first | refine SQ (zC (hB2) isAgg26 sizeOf26 rfl rfl) ?_ | refine SQ (zD (hB2) isAgg26 sizeOf26 rfl rfl rfl) ?_
 refine qf rfl call40 rfl (f40_k ((hC).below hb0) ((hO).below hb0) ((hR).below hb0) h1 h2 h3) ?_;rintro v13 w13 hb13 ⟨p, rfl, hP⟩;replace hb0 := btr hb0 hb13;replace hB4 := hB4.below hb13;refine SQ (zf rfl) (SQ (zK rfl rfl) (SQ (zK rfl rfl) (SQ (ze rfl) (SQ (ze rfl) (zd (zb (zg (zL (zg (za (SQ (zf rfl) (SQ (qp rfl rfl) (SQ (ze rfl) (zd (zb ?_)))))))))))))));refine zw rfl ?_ ?_
 ·intro g16
  try simp only [dd] at g16
  refine zg (za ?_)
  first | refine SQ (zC (hB4) isAgg26 sizeOf26 rfl rfl) ?_ | refine SQ (zD (hB4) isAgg26 sizeOf26 rfl rfl rfl) ?_
  refine SQ (zf rfl) ?_;refine zm (hB4) rfl rfl rfl rfl sizeOf26 rfl rfl ?_;intro ws3x2 hchs3x2 hBs3x2;replace hb0 := bchg hb0 hchs3x2 hle4;clear hB4;refine SQ (ze rfl) ?_;refine SQ (ze rfl) ?_;refine zd ?_;refine zb ?_;refine zu ?_;refine zt ?_;refine zl ?_;refine D_bodyR3 rfl rfl (.cellW rfl (hBs3x2) isAgg26 sizeOf26 rfl) (.tmp rfl) (.tmp rfl) ?_;exact ⟨_, rfl, hb0, _, by rw [replayR, if_pos (by simpa using g16)], by rw [replayR, if_pos (by simpa using g16)]; exact CoO.no⟩
 ·intro g16
  try simp only [dd] at g16
  have hck0 : checkR C = 0 := by simpa using g16
  obtain ⟨bs, rM, uC, uO, uR, uU, uT, rfl, hS⟩ := hP hck0
  have ne_hS_b4 : ∀ k, StB bs rM uC uO uR uU uT k → ¬ k = b4 := fun k hk => by have := hS.lt hk; omega
  have hw4z := (btr hb2 hb4).size;refine zg (za (SQ (zf rfl) ?_))
  first | refine SQ (zr ((hL).below hb0) zU30 rfl) ?_ | refine SQ (zr ((hL.below hbw).below hb0) zU30 rfl) ?_
  refine SQ (qu rfl rfl) (SQ (ze rfl) (zd (zb ?_)));refine zw rfl ?_ ?_
  ·intro g21
   try simp only [dd] at g21
   refine zg (za ?_)
   first | refine SQ (zC (hB4) isAgg26 sizeOf26 rfl rfl) ?_ | refine SQ (zD (hB4) isAgg26 sizeOf26 rfl rfl rfl) ?_
   refine zm (hB4) rfl rfl rfl rfl sizeOf26 rfl rfl ?_;intro ws5x1 hchs5x1 hBs5x1;replace hb0 := bchg hb0 hchs5x1 hle4;clear hB4;refine SQ (ze rfl) ?_;refine SQ (ze rfl) ?_;refine zd ?_;refine zb ?_;refine zu ?_;refine zt ?_;refine zl ?_;refine D_bodyR3 rfl rfl (.cellW rfl (hBs5x1) isAgg26 sizeOf26 rfl) (.tmp rfl) (.tmp rfl) ?_;exact ⟨_, rfl, hb0, _, by rw [replayR, if_neg (by simp [hck0]), if_pos (by omega)], by rw [replayR, if_neg (by simp [hck0]), if_pos (by omega)]; exact CoO.no⟩
  ·intro g21
   try simp only [dd] at g21
   have hll : l.length ≤ 9000 := by omega
   refine zH (zQ (zb (zg (zg (za (SQ (zf rfl) ?_))))))
   first | refine SQ (zr ((hL).below hb0) zU30 rfl) ?_ | refine SQ (zr ((hL.below hbw).below hb0) zU30 rfl) ?_
   refine SQ (zf rfl) ?_;refine zd ?_;refine zb ?_;refine zL ?_;refine qo (α := Rx) (fun x => [(28, .int .i64 (x.n : Nat)), (27, .int .i64 (l.length : Nat)), (26, vL), (7, .pointer (some ⟨bs, 0, none⟩)), (4, .pointer (some ⟨b4, 0, none⟩)), (1, vL)]) (fun x w' => x.n ≤ l.length ∧ checkR x.C = 0 ∧ replayR C l = replayF x.C x.n (l.drop x.n) ∧ Below w.heap.size w w' ∧ StF (⟨84, 76, 3, 4, 92⟩ : StTy) w4.heap.size w' bs x.rM uC uO uR x.vU x.vT x.C ∧ Blk w' b4 [.slice none 0 0, .slice none 0 0, .slice none 0 0] 26) (fun x => l.length - x.n) ((⟨0, C, rM, uU, uT⟩ : Rx)) (by repeat (first | exact Sub.nil | refine Sub.cons rfl ?_)) ⟨Nat.zero_le _, hck0, by rw [replayR, if_neg (by simp [hck0]), if_neg (by omega)]; rfl, hb0, hS, hB4⟩ ?_;clear hb0;clear hB2;clear hB4;clear hS;rintro x wl0 ⟨hx, hckx, hI, hbw, hS, hB4⟩;have hb0 := Below.refl wl0.heap.size wl0;refine zg ?_;refine za ?_;refine SQ (qi rfl rfl) ?_;refine zd ?_;refine zb ?_;refine zg ?_;refine zw rfl ?_ ?_
   ·intro g29
    try simp only [dd] at g29
    have hxl : x.n < l.length := by omega
    obtain ⟨r, hr⟩ : ∃ r, l[x.n]? = some r := ⟨_, List.getElem?_eq_getElem hxl⟩
    obtain ⟨hs1, hs2⟩ := replay_step hI hr;have hbz := hbw.size;refine zH (zb (zg (zL (zg (za (SQ (zf rfl) ?_))))))
    first | refine zy ((hL).below hb0) zU30 sizeOf45 rfl rfl ?_ ?_ rfl ?_ | refine zy ((hL.below hbw).below hb0) zU30 sizeOf45 rfl rfl ?_ ?_ rfl ?_
    ·omega
    ·omega
    intro x31 hx31 hc31;have ex31 := Option.some.inj ((hr).symm.trans hx31); subst ex31;refine SQ (qg isAgg45 sizeOf45 rfl ((hc31)) rfl) (zM zeroValue45 rfl rfl ?_);intro w9 b9 e9 hb9 hz9 hB9
    have hle9 : wl0.heap.size ≤ b9 := by have := hb0.size; omega
    have ne_hS_b9 : ∀ k, StB bs x.rM uC uO uR x.vU x.vT k → ¬ k = b9 := fun k hk => by have := hS.lt hk; omega
    have ne_b4_9 : ¬ b4 = b9 := by have := hB4.lt; omega
    replace hb0 := btr hb0 hb9;replace hS := hS.below hb9;replace hB4 := hB4.below hb9;refine SQ (ze rfl) (zm (hB9) rfl rfl rfl rfl sizeOf45 rfl rfl ?_);intro ws8x5 hchs8x5 hBs8x5;replace hb0 := bchg hb0 hchs8x5 hle9;replace hS := hS.chg hchs8x5 (ne_hS_b9);replace hB4 := hB4.chg hchs8x5 ne_b4_9;clear hc31;clear hB9;refine zd (zb (zg (za (SQ (zf rfl) ?_))))
    first | refine SQ (zC (hBs8x5) isAgg45 sizeOf45 rfl rfl) ?_ | refine SQ (zD (hBs8x5) isAgg45 sizeOf45 rfl rfl rfl) ?_
    refine jU rfl call47 rfl (K := fun v w' => ∃ rM' vU' vT', v = .int .i64 (applyR x.C r).2 ∧ StF (⟨84, 76, 3, 4, 92⟩ : StTy) w4.heap.size w' bs rM' uC uO uR vU' vT' (applyR x.C r).1 ∧ Chg (StC bs uO uR) ws8x5 w') ?_ ?_
    ·refine Calls.mono (f47_c hS hckx r) ?_
     rintro e w' ⟨rM', vU', vT', rfl, h1, h2, h3⟩; exact ⟨_, rfl, rM', vU', vT', rfl, h1, h2⟩
    rintro v35 w35 ⟨rM', vU', vT', rfl, hS', hcap⟩
    have hge : ∀ k, StC bs uO uR k → w4.heap.size ≤ k := fun k e => (hS.lt (StC.st (rM := x.rM) (vC := uC) (vU := x.vU) (vT := x.vT) e)).1
    replace hbw := (btr hbw hb0).trans (hcap.below (btr hbw hb0).size (fun k hk e => by have := hge k e; omega));replace hB4 := hB4.chg hcap (fun e => by have := hge _ e; omega);clear hS;have hS := hS';clear hS';clear hBs8x5;clear hb0;have hb0 := Below.refl w35.heap.size w35;refine SQ (ze rfl) ?_;refine zd ?_;refine zb ?_;refine zg ?_;refine za ?_;refine SQ (zf rfl) ?_;refine SQ (qp rfl rfl) ?_;refine zd ?_;refine zb ?_;refine zw rfl ?_ ?_
    ·intro g37
     try simp only [dd] at g37
     clear hb0;have hb0 := hbw
     have ne_hS_b4 : ∀ k, StB bs rM' uC uO uR vU' vT' k → ¬ k = b4 := fun k hk => by have := hS.lt hk; omega
     refine zg (za ?_)
     first | refine SQ (zC (hB4) isAgg26 sizeOf26 rfl rfl) ?_ | refine SQ (zD (hB4) isAgg26 sizeOf26 rfl rfl rfl) ?_
     refine SQ (zf rfl) ?_;refine SQ (zf rfl) ?_;refine zm (hB4) rfl rfl rfl rfl sizeOf26 rfl rfl ?_;intro ws11x3 hchs11x3 hBs11x3;replace hb0 := bchg hb0 hchs11x3 hle4;clear hB4;refine SQ (ze rfl) ?_;refine SQ (ze rfl) ?_;refine zd ?_;refine zb ?_;refine zu ?_;refine zt ?_;refine zl ?_;refine qn ?_;refine zt ?_;refine zl ?_;refine D_bodyR3 rfl rfl (.cellW rfl (hBs11x3) isAgg26 sizeOf26 rfl) (.tmp rfl) (.tmp rfl) ?_;exact ⟨_, rfl, hb0, _, by rw [hs1 (by simpa using g37)], by rw [hs1 (by simpa using g37)]; exact CoO.no⟩
    ·intro g37
     try simp only [dd] at g37
     refine zH ?_;refine zQ ?_;refine zb ?_;refine za ?_;refine SQ (qb rfl rfl (zS (by omega) (by omega))) ?_;refine SQ (zf rfl) ?_;refine zd ?_;refine qh ((⟨x.n + 1, (applyR x.C r).1, rM', vU', vT'⟩ : Rx)) (by repeat (first | exact Sub.nil | refine Sub.cons rfl ?_)) ⟨by dsimp only; omega, applyR_check hckx r, hs2 (by simpa using g37), btr hbw hb0, hS, hB4⟩ (by dsimp only; omega)
   ·intro g29
    try simp only [dd] at g29
    clear hb0;have hb0 := hbw
    obtain ⟨a_uC, n_uC, c_uC, h_uC⟩ : ∃ a n c, uC = Value.slice a n c := by obtain ⟨a, c, h⟩ := (hS.oC.sl).len; exact ⟨_, _, _, h⟩
    subst h_uC
    obtain ⟨a_uO, n_uO, c_uO, h_uO⟩ : ∃ a n c, uO = Value.slice a n c := by obtain ⟨a, c, h⟩ := (hS.oO.sl).len; exact ⟨_, _, _, h⟩
    subst h_uO
    obtain ⟨a_uR, n_uR, c_uR, h_uR⟩ : ∃ a n c, uR = Value.slice a n c := by obtain ⟨a, c, h⟩ := (hS.oR.sl).len; exact ⟨_, _, _, h⟩
    subst h_uR
    have ne_hSx : ∀ k, StB bs x.rM (Value.slice a_uC n_uC c_uC) (Value.slice a_uO n_uO c_uO) (Value.slice a_uR n_uR c_uR) x.vU x.vT k → ¬ k = b4 := fun k hk => by have := hS.lt hk; omega
    have ne_hS_b4 := ne_hSx;refine qk (z0 (z9 ?_));refine zX (zb (zg (za (SQ (zf rfl) (SQ (zT rfl) (SQ (zh qx rfl) ?_))))))
    first | refine SQ (zC (hS.blk) isAgg26 sizeOf26 rfl rfl) ?_ | refine SQ (zD (hS.blk) isAgg26 sizeOf26 rfl rfl rfl) ?_
    refine SQ (zf rfl) ?_
    first | refine SQ (zr ((hL).below hb0) zU30 rfl) ?_ | refine SQ (zr ((hL.below hbw).below hb0) zU30 rfl) ?_
    refine zm (hB4) rfl rfl rfl rfl sizeOf26 rfl rfl ?_;intro ws13x6 hchs13x6 hBs13x6;replace hb0 := bchg hb0 hchs13x6 hle4;replace hS := hS.chg hchs13x6 (ne_hS_b4);clear hB4;refine SQ (ze rfl) (SQ (ze rfl) (zd (zb (zu (D_bodyR3 rfl rfl (.cellW rfl (hBs13x6) isAgg26 sizeOf26 rfl) (.tmp rfl) (.tmp rfl) ?_)))))
    have hxe : x.n = l.length := by omega
    rw [List.drop_of_length_le (by omega), replayF, hxe] at hI;exact ⟨_, rfl, hb0, _, by rw [hI], by rw [hI]; exact ⟨_, _, _, rfl, hS.oC.le hw4z, hS.oO.le hw4z, hS.oR.le hw4z⟩⟩
theorem f19_c {vC vO vR : Value} {C : Co} {w : World} (hC : SL w vC 3 encC C.ch) (hO : SL w vO 5 encO C.ops) (hR : SL w vR 1 encI C.roots) (h1 : C.ch.length ≤ 100000) (h2 : C.ops.length ≤ 100000) (h3 : C.roots.length ≤ 100000) {vL : Value} {l : List Rw} (hL : SL w vL 2 encR l) : Mi.Fn prog 19 #[.agg [vC, vO, vR].toArray, vL] w fun v w' => ∃ u, v = .tuple #[u, .int .i64 (replayR C l).2.1, .int .i64 (replayR C l).2.2] ∧ CoV w.heap.size w'.heap.size w' u (replayR C l).1 := Fn.mono (f19_w hC hO hR h1 h2 h3 hL) fun _ _ _ ⟨u, e, h⟩ => ⟨u, e, h.cv⟩
end Go.Proofs.YtphmoebiobjfhaaGreat
