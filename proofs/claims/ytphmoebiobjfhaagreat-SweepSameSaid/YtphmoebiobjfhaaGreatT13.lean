/- Walks of functions, printed by a program of the author. -/
import Derived.Test.YtphmoebiobjfhaaGreatVi
import Derived.Test.YtphmoebiobjfhaaGreatT12
set_option linter.all false
namespace Go.Proofs.YtphmoebiobjfhaaGreat
open Go Go.Mi Go.RowKit
set_option maxHeartbeats 1000000 in
theorem f67_s {E : VC Tryz.prog} {f : Nat} (hfv : E.fv = 67) (hB : E.Y.b = 4) (hTB : E.TB = 54) (ih : Visit E f) : Visit E (f + 1) := by
 intro i found opn s0 w hi0 hif hfn hV hopn hpx;rw [hfv];have hb0 := Below.refl w.heap.size w
 obtain ⟨y, hy⟩ : ∃ y, getO E.C.ops i = y := ⟨_, rfl⟩
 have hin : i < E.C.ops.length := by omega
 have hbd := opsOf_bd E.hck hi0 hin;rw [hy] at hbd;have hyi := getO_some hi0 hin;rw [hy] at hyi
 have hni : ¬ i ∈ opn := fun h => by have := hopn i h; omega
 have hgsn : ((seenL E.C.ops.length (opn ++ found)).length : Int) = E.C.ops.length := by rw [seenL_len]
 have hgs0 := getB_some hi0 (show i < ((seenL E.C.ops.length (opn ++ found)).length : Int) by omega);rw [seenL_get hi0 hin] at hgs0;refine calls_of_WM Tryz.func67 rfl Tryz.ntmps67 rfl ?_;refine W_seq (W_region (SG_alloc Tryz.zeroValue4 rfl rfl ?_));intro w6 b6 e6 hb6 hz6 hB6
 have hle6 : w.heap.size ≤ b6 := by have := hb0.size; omega
 have ne_hV_b6 := hV.fresh (k := b6) (by omega);replace hb0 := btr hb0 hb6;replace hV := hV.below hb6;refine SG_nil (D_then (W_seq (W_seq (W_region (SG_q (Rq_loadB (hV.bS) Tryz.isAgg54 rfl rfl) rfl (SG_q (Rq_move rfl) rfl ?_))))))
 first | refine SG_index (hV.oS.sl) Tryz.runUnderlying54 Tryz.sizeOf4 rfl rfl ?_ ?_ rfl ?_ | refine SG_index (hV.st.oO.sl) Tryz.runUnderlying54 Tryz.sizeOf4 rfl rfl ?_ ?_ rfl ?_
 ·(try rw [hgsn]); omega
 ·(try rw [hgsn]); omega
 intro x11 hx11 hc11;have ex11 := Option.some.inj ((hgs0).symm.trans hx11); subst ex11;refine SG_q (Rq_load Tryz.isAgg4 rfl ((hc11).cell 0 rfl)) rfl (SG_nil (D_then ?_));refine W_cond rfl ?_ ?_
 ·intro g12
  try simp only [dd] at g12
  have hif2 : i ∈ found := by simpa [hni] using g12
  refine W_seq ?_;refine W_region ?_;refine SG_storeW (hB6) rfl rfl rfl rfl Tryz.sizeOf4 rfl rfl ?_;intro ws2x0 hchs2x0 hBs2x0;replace hb0 := bchg hb0 hchs2x0 hle6;replace hV := hV.chg hchs2x0 (fun k _ e => by subst e; exact ne_hV_b6);clear hc11;clear hB6;refine SG_nil ?_;refine D_then ?_;refine W_ret ?_;refine D_then_ret ?_;refine D_bodyMR1 rfl rfl (Marks.nil _) (fun w9 hc9 => .cell rfl (hBs2x0.chg hc9 (fun hm => (Marks.nil _).ne hBs2x0 _ hm rfl)) Tryz.isAgg4 rfl) (fun w9 hc9 => ?_)
  have hn9 : ∀ k, ¬ k ∈ ([] : List Nat) := fun k h => by simp at h
  exact ⟨true, s0, rfl, (Chg.of_below _ hb0).then hc9 (fun k _ h => (hn9 k h).elim), fun k _ h => h, fun _ => by rw [visitF_old hif2]; exact hV.chg hc9 (fun k _ h => (hn9 k h).elim), fun h => by cases h⟩
 ·intro g12
  try simp only [dd] at g12
  have hnf : ¬ i ∈ found := fun h => by simp [h] at g12
  have hgs : (seenL E.C.ops.length (opn ++ found))[i.toNat]? = some false := by rw [hgs0]; simp [hnf, hni]
  refine W_skip (D_then (W_seq (W_region (SG_q (Rq_loadB (hV.bS) Tryz.isAgg54 rfl rfl) rfl (SG_q (Rq_move rfl) rfl (SG_q (Rq_index (hV.oS.sl) Tryz.runUnderlying54 Tryz.sizeOf4 rfl rfl hi0 (by omega)) rfl (SG_storeE (n := 1) (o := 0) (elt := false) (elt' := true) hV.oS rfl rfl rfl rfl Tryz.sizeOf4 rfl hgs (Nat.le_refl 1) rfl ?_)))))));intro ws3 hcs3 hOs3;rw [seenL_set hi0] at hOs3;have hch : Chg (fun k => E.vS.ownBlock = some k ∨ E.M s0 k) w ws3 := (Chg.of_below _ hb0).trans (hcs3.mono fun k _ e => .inl e);replace hV := hV.seen (opn' := i :: opn) (found' := found) hcs3 hOs3;replace hB6 := hB6.chg hcs3 (fun e => ne_hV_b6.2.2 (.inr (.inr (.inr (.inr e)))));clear hc11;clear hb0;have hb0 := Below.refl ws3.heap.size ws3;refine SG_nil (D_then (W_seq (W_region (SG_q (Rq_loadB (hV.bs) Tryz.isAgg79 rfl rfl) rfl (SG_q (Rq_nilCheck rfl) rfl (SG_q (Rq_fieldAddr fa92_0 rfl) rfl (SG_q (Rq_fieldAddr fa26_1 rfl) rfl (SG_q (Rq_loadB (hV.st.blk) Tryz.isAgg23 rfl rfl) rfl (SG_q (Rq_move rfl) rfl ?_)))))))))
  first | refine SG_index (hV.oS.sl) Tryz.runUnderlying23 Tryz.sizeOf76 rfl rfl ?_ ?_ rfl ?_ | refine SG_index (hV.st.oO.sl) Tryz.runUnderlying23 Tryz.sizeOf76 rfl rfl ?_ ?_ rfl ?_
  ·(try rw [hgsn]); omega
  ·(try rw [hgsn]); omega
  intro x22 hx22 hc22;have ex22 := Option.some.inj ((hyi).symm.trans hx22); subst ex22;refine SG_q (Rq_loadA Tryz.isAgg76 Tryz.sizeOf76 rfl ((hc22)) rfl) rfl (SG_alloc Tryz.zeroValue76 rfl rfl ?_);intro w7 b7 e7 hb7 hz7 hB7
  have hle7 : ws3.heap.size ≤ b7 := by have := hb0.size; omega
  have ne_hV_b7 := hV.fresh (k := b7) (by omega)
  have ne_b6_7 : ¬ b6 = b7 := by have := hB6.lt; omega
  replace hb0 := btr hb0 hb7;replace hV := hV.below hb7;replace hB6 := hB6.below hb7;refine SG_storeW (hB7) rfl rfl rfl rfl Tryz.sizeOf76 rfl rfl ?_;intro ws4x9 hchs4x9 hBs4x9;replace hb0 := bchg hb0 hchs4x9 hle7;replace hV := hV.chg hchs4x9 (fun k _ e => by subst e; exact ne_hV_b7);replace hB6 := hB6.chg hchs4x9 ne_b6_7;clear hc22;clear hB7;refine SG_nil ?_;refine D_then ?_;refine W_seq ?_;refine W_seq ?_;refine W_region ?_;refine SG_call rfl Tryz.call60 rfl (f60_c _ rfl _) ?_;rintro v24 w24 hb24 ⟨c24, rfl, hK24, hkl24⟩;replace hb0 := btr hb0 hb24;replace hV := hV.below hb24;replace hB6 := hB6.below hb24;replace hBs4x9 := hBs4x9.below hb24;refine SG_nil ?_;refine D_then ?_;refine W_block ?_;have hch24 := hch.trans (Chg.of_below _ hb0)
  have hmw0 : ∀ k, E.M s0 k → k < w24.heap.size := fun k hk => hV.ltM hk
  have hb6z := hB6.lt;have hb7z := hBs4x9.lt;have hw24 := hch24.size;have hsz24 := hV.sz
  have hown24 : ∀ k, E.own k → k < w24.heap.size := fun k hk => hV.ltO hk
  refine W_range rfl rfl Tryz.call74 (fun w' hb => f74_it (hK24.below hb) ((hBs4x9.below hb).cells rfl)) (fun k h => h.elim) (σ := E.σ) (fun pre s w' => (V E (((opsOf y).take pre.length).foldl (visitF E.C.ops f) found) (i :: opn) s w' ∧ Blk w' b6 [.bool false] 4 ∧ Blk w' b7 (encO y) 76 ∧ ¬ E.M s b6 ∧ ¬ E.M s b7 ∧ (∀ k, E.M s k → k < w24.heap.size ∨ w24.heap.size + 2 ≤ k)) ∧ (∀ k, k < w.heap.size → E.M s k → E.M s0 k) ∧ Chg (fun k => E.vS.ownBlock = some k ∨ E.M s0 k) w w') (fun c pre s w' => c = .ret ∧ ((∃ p, E.Jx p s w') ∧ Blk w' b6 [.bool false] 4 ∧ ¬ E.M s b6 ∧ (∀ k, E.M s k → k < w24.heap.size ∨ w24.heap.size + 2 ≤ k)) ∧ (∀ k, k < w.heap.size → E.M s k → E.M s0 k) ∧ Chg (fun k => E.vS.ownBlock = some k ∨ E.M s0 k) w w') (fun s k => k = b6 ∨ E.vS.ownBlock = some k ∨ E.M s k) s0 ?hJ ?hJx ?hM ?hMx ⟨⟨hV, hB6, hBs4x9, ne_hV_b6.2.1, ne_hV_b7.2.1, fun k hk => .inl (hmw0 k hk)⟩, fun k _ h => h, hch24⟩ ?_ ?_ ?_
  case hJ => exact fun pre s w1 w2 ⟨⟨h1, h2, h3, h4, h5, h6⟩, h7, h8⟩ hc => ⟨⟨h1.chg hc (fun k _ e => ⟨Nat.le_of_not_lt fun h => e (.inl (Nat.lt_of_lt_of_le h hsz24)), fun h => e (.inr (.inr (.inr h))), fun h => e (.inl (hown24 k h))⟩), h2.chg hc (fun e => e (.inl hb6z)), h3.chg hc (fun e => e (.inl hb7z)), h4, h5, h6⟩, h7, h8.then hc (fun k hk e => (e (.inl (Nat.lt_of_lt_of_le hk hw24))).elim)⟩
  case hJx => exact fun c pre s w1 w2 ⟨hc0, ⟨⟨p, hx⟩, h2, h3, h4⟩, h7, h8⟩ hc => ⟨hc0, ⟨⟨p, E.hJx _ _ _ _ hx (hc.mono fun k _ e hor => e (hor.elim (fun h => .inl (Nat.lt_of_lt_of_le h hsz24)) (fun h => .inr (.inr (.inr h)))))⟩, h2.chg hc (fun e => e (.inl hb6z)), h3, h4⟩, h7, h8.then hc (fun k hk e => (e (.inl (Nat.lt_of_lt_of_le hk hw24))).elim)⟩
  case hM => exact fun pre s w1 k h hm => by rcases hm with rfl | hm | hm; exact .inl ⟨hb6z, fun h => h⟩; exact .inl ⟨hown24 k (.inr (.inr (.inr (.inr hm)))), fun h => h⟩; (rcases h.1.2.2.2.2.2 k hm with h' | h'; exact .inl ⟨h', fun h => h⟩; exact .inr ⟨h', h.1.1.ltM hm⟩)
  case hMx => exact fun c pre s w1 k h hm => by rcases hm with rfl | hm | hm; exact .inl hb6z; exact .inl (hown24 k (.inr (.inr (.inr (.inr hm))))); exact h.2.1.2.2.2 k hm
  ·rintro pre j post s w6 hsp hJ6 hsz6
   have hb0 := Below.refl w6.heap.size w6;refine W_region (SG_q (Rq_assign rfl) rfl (SG_nil (D_as ?_)));rintro w7 ⟨⟨⟨hV, hB6, hB7, hm6, hm7, hmw⟩, hss, hcw⟩, hsz7, hrec7⟩;have hb0 := Below.refl w7.heap.size w7;obtain ⟨hjp, hjn⟩ := rangeSplit hsp;subst hjp
   have hj3 : pre.length < 3 := by have := arN_le y.code; omega
   have hcc := Chg.refl (fun k => k = b6 ∨ E.vS.ownBlock = some k ∨ E.M s k) w7;refine W_block ?_;refine W_seq ?_;refine W_any 4 [[], [], [1], [2]] [det [] ?a7_0n1, det [] ?a7_1n1, det [1] ?a7_2n1, det [2] ?a7_3n1] Tryz.mixed (by kernel_rfl) rfl ⟨det_stab _ _, det_stab _ _, det_stab _ _, det_stab _ _, trivial⟩ ?_ ?_; rotate_left 4
   ·refine Obls_cons ?_ ?_
    ·intro wq hbq
     refine Obl_nil ?_
     refine Ex_q2 (Rq_loadB ((hV.bV).below hbq) Tryz.isAgg124 rfl rfl) ?_; first | exact rfl | rfl
    refine Obls_cons ?_ ?_
    ·intro wq hbq
     refine Obl_nil ?_
     refine Ex_q2 (Rq_move rfl) ?_; first | exact rfl | rfl
    refine Obls_cons ?_ ?_
    ·intro wq hbq
     refine Obl_det rfl rfl (Obl_nil ?_)
     refine Ex_q2 (Rq_nilCheck rfl) ?_; first | exact rfl | rfl
    refine Obls_cons ?_ ?_
    ·intro wq hbq
     refine Obl_det rfl rfl (Obl_nil ?_)
     refine Ex_q2 (Rq_load Tryz.isAgg3 rfl (opnd_cell (hB7.below hbq) hj3)) ?_; first | exact rfl | rfl
    exact Obls_nil
   ·intro wa7 hba7
    replace hb0 := btr hb0 hba7;replace hcc := hcc.trans (Chg.of_below _ hba7);replace hV := hV.below hba7;replace hB6 := hB6.below hba7;replace hB7 := hB7.below hba7;refine Fin_det rfl (Fin_det rfl (Fin_det rfl (Fin_det rfl (Fin_nil ?_))))
    simp only [List.drop_succ_cons, List.drop_zero]
    have hvm : (opndR y).getD pre.length 0 ∈ opsOf y := List.mem_of_getElem? (opsOf_get hjn);have hvb := hbd _ hvm
    have hfo : ((opsOf y).take (pre.length + 1)).foldl (visitF E.C.ops f) found = visitF E.C.ops f (((opsOf y).take pre.length).foldl (visitF E.C.ops f) found) ((opndR y).getD pre.length 0) := by rw [take_succ_get (opsOf_get hjn), List.foldl_append]; rfl
    refine SG_callvC (cap := E.ptrs) (by rw [← hfv]; rfl) rfl rfl Tryz.call67 rfl (K := fun v w' => ∃ b s', v = .bool b ∧ Chg (fun k => E.vS.ownBlock = some k ∨ E.M s k) wa7 w' ∧ (∀ k, k < wa7.heap.size → E.M s' k → E.M s k) ∧ (b = true → V E (((opsOf y).take (pre.length + 1)).foldl (visitF E.C.ops f) found) (i :: opn) s' w') ∧ (b = false → ∃ p, E.Jx p s' w')) ?_ ?_
    ·have hcl := ih _ (((opsOf y).take pre.length).foldl (visitF E.C.ops f) found) (i :: opn) s wa7 hvb.1 (by omega) (by omega) hV (fun o ho => by rcases List.mem_cons.1 ho with rfl | ho; exact hvb.2; exact Int.lt_trans hvb.2 (hopn o ho)) (by rw [← hfo]; exact pre_trans (by have h := foldl_pre (visitF_pre E.C.ops f) ((opsOf y).drop (pre.length + 1)) (((opsOf y).take (pre.length + 1)).foldl (visitF E.C.ops f) found); rwa [← List.foldl_append, List.take_append_drop] at h) (pre_trans (List.prefix_append _ [i]) (by rw [visitF_new hnf, hy] at hpx; exact hpx)))
     rw [hfv] at hcl;refine Calls.mono hcl ?_;rintro e w' ⟨b, s', rfl, h1, h2, h3, h4⟩; exact ⟨_, rfl, b, s', rfl, h1, h2, (fun hb => by rw [hfo]; exact h3 hb), h4⟩
    rintro v30 w30 ⟨b30, s30, rfl, hc30, hs30, hv30, hx30⟩;replace hcc := hcc.trans (hc30.mono fun k _ h => .inr h);have hlt6 := hB6.lt; have hlt7 := hB7.lt
    have hn6 : ¬ (E.vS.ownBlock = some b6 ∨ E.M s b6) := fun e => e.elim (fun e => ne_hV_b6.2.2 (.inr (.inr (.inr (.inr e))))) hm6
    have hn7 : ¬ (E.vS.ownBlock = some b7 ∨ E.M s b7) := fun e => e.elim (fun e => ne_hV_b7.2.2 (.inr (.inr (.inr (.inr e))))) hm7
    replace hB6 := hB6.chg hc30 hn6; replace hB7 := hB7.chg hc30 hn7
    have hm6' : ¬ E.M s30 b6 := fun h => hm6 (hs30 _ hlt6 h)
    have hm7' : ¬ E.M s30 b7 := fun h => hm7 (hs30 _ hlt7 h)
    have hmw' : ∀ k, E.M s30 k → k < w24.heap.size ∨ w24.heap.size + 2 ≤ k := fun k hk => by
     by_cases hlt : k < wa7.heap.size
     ·exact hmw k (hs30 k hlt hk)
     ·exact .inr (by have := hba7.size; omega)
    have hMM : ∀ k, k < w7.heap.size → (k = b6 ∨ E.vS.ownBlock = some k ∨ E.M s30 k) → (k = b6 ∨ E.vS.ownBlock = some k ∨ E.M s k) := fun k hk h => h.imp id (Or.imp id fun h => hs30 k (Nat.lt_of_lt_of_le hk hba7.size) h)
    have hss' : ∀ k, k < w.heap.size → E.M s30 k → E.M s0 k := fun k hk h => hss k hk (hs30 k (by have := hba7.size; omega) h)
    have hcw' : Chg (fun k => E.vS.ownBlock = some k ∨ E.M s0 k) w w30 := hcw.then hcc (fun k hk h => by rcases h with rfl | h | h; (exfalso; omega); exact .inl h; exact .inr (hss k hk h));clear hV;clear hb0;have hb0 := Below.refl w30.heap.size w30;refine SG_q (Rq_not rfl) rfl ?_;refine SG_nil ?_;refine D_then ?_;refine W_cond rfl ?_ ?_
    ·intro g31
     try simp only [dd] at g31
     refine W_seq ?_;refine W_region ?_;refine SG_storeW (hB6) rfl rfl rfl rfl Tryz.sizeOf4 rfl rfl ?_;intro ws8x0 hchs8x0 hBs8x0;replace hcc := hcc.then hchs8x0 (fun k hk e => by first | (subst e; simp; done) | (exfalso; omega));clear hb0;have hb0 := Below.refl ws8x0.heap.size ws8x0;clear hB6;refine SG_nil ?_;refine D_then ?_;refine W_ret ?_;refine D_block_ret ?_;obtain ⟨p30, hp30⟩ := hx30 (by simpa using g31)
     exact fun a _ => ⟨s30, ⟨rfl, ⟨⟨p30, E.hJx _ _ _ _ hp30 (hchs8x0.mono fun k _ e hor => by subst e; exact hor.elim (fun h => by have := ne_hV_b6.1; omega) hm6')⟩, hBs8x0, hm6', hmw'⟩, hss', hcw'.then hchs8x0 (fun k hk e => by exfalso; omega)⟩, hcc, hMM⟩
    ·intro g31
     try simp only [dd] at g31
     refine W_skip (D_block ?_)
     exact fun a _ => ⟨s30, ⟨⟨by rw [List.length_append]; exact hv30 (by simpa using g31), hB6, hB7, hm6', hm7', hmw'⟩, hss', hcw'⟩, hcc, hMM⟩
  ·rintro s w8 ⟨⟨hV, hB6, hB7, hm6, hm7, hmw⟩, hss, hch8⟩ hsz8 hmk8
   have hb0 := Below.refl w8.heap.size w8;have hMk8 := (Marks.nil w8).cons hmk8 (fun D hD => by simp at hD);rw [List.length_range, ← opsOf_len, List.take_length] at hV;refine D_block ?_;refine D_then ?_;refine W_seq ?_;refine W_region ?_;refine SG_q (Rq_loadB (hV.bY) Tryz.isAgg124 rfl rfl) rfl ?_;refine SG_q (Rq_move rfl) rfl ?_;obtain ⟨post9, hpost9⟩ := hpx;rw [visitF_new hnf, hy] at hpost9;refine SG_yield rfl rfl rfl (E.yield _ i post9 s w8 (by rw [← hpost9, List.append_assoc]; rfl) hV.sz hV.j) (fun e w' h => by obtain ⟨b, _, rfl, _⟩ := h; exact ⟨_, rfl⟩) ?_;rintro u34 w34 ⟨b34, s34, e34, hc34, hs34, hjt34, hjf34⟩;obtain rfl := Ending.returned.inj e34;have hmk34 := hMk8.chg hc34 (fun D hD e => by simp at hD; subst hD; have := hmw _ e; omega);have hlt6 := hB6.lt;replace hB6 := hB6.chg hc34 hm6
   have hV34 : b34 = true → V E (visitF E.C.ops (f + 1) found i) (i :: opn) s34 w34 := fun hb => by rw [visitF_new hnf, hy]; exact hV.round hc34 hs34 (hjt34 hb) (fun x => mem_snoc)
   have hm6' : ¬ E.M s34 b6 := fun h => hm6 (hs34 _ hlt6 h)
   clear hB7;have hc8 : Chg (fun k => E.vS.ownBlock = some k ∨ E.M s0 k) w w34 := hch8.then hc34 (fun k hk h => .inr (hss k hk h))
   have hss34 : ∀ k, k < w.heap.size → E.M s34 k → E.M s0 k := fun k hk h => hss k hk (hs34 k (by omega) h)
   have hdm34 : ∀ k, k < w24.heap.size + 2 → w24.heap.size ≤ k → ¬ E.M s34 k := fun k h1 h2 h => by have := hmw k (hs34 k (by omega) h); omega
   clear hV;clear hb0;have hb0 := Below.refl w34.heap.size w34;refine SG_storeW (hB6) rfl rfl rfl rfl Tryz.sizeOf4 rfl rfl ?_;intro ws9 hch9 hB9;clear hB6;refine SG_nil ?_;refine D_then ?_;refine W_ret ?_;have hMk9 := hmk34.chg hch9 (fun D hD e => by simp at hD; omega);refine D_bodyMR1 rfl rfl hMk9 (fun w9 hc9 => .cell rfl (hB9.chg hc9 (fun hm => hMk9.ne hB9 _ hm rfl)) Tryz.isAgg4 rfl) (fun w9 hc9 => ?_)
   have hD : ∀ k, k ∈ [w24.heap.size] → k = w24.heap.size := fun k h => by simpa using h
   have hown34 : ∀ k, E.own k → k < w24.heap.size := hown24;exact ⟨b34, s34, rfl, (hc8.then hch9 (fun k hk e => by exfalso; omega)).then hc9 (fun k hk h => by have := hD k h; exfalso; omega), hss34, fun hb => ((((hV34 hb).reopen (fun x => by rw [visitF_new hnf]; exact mem_close)).chg hch9 (fun k _ e => by subst e; exact ⟨ne_hV_b6.1, hm6', ne_hV_b6.2.2⟩)).chg hc9 (fun k _ h => by have := hD k h; subst this; exact ⟨hsz24, hdm34 _ (by omega) (Nat.le_refl _), fun h => Nat.lt_irrefl _ (hown34 _ h)⟩)), fun hb => ⟨_, E.hJx _ _ _ _ (E.hJx _ _ _ _ (hjf34 hb) (hch9.mono fun k _ e hor => by subst e; exact hor.elim (fun h => by have := ne_hV_b6.1; omega) hm6')) (hc9.mono fun k _ h hor => by have := hD k h; subst this; exact hor.elim (fun h => by omega) (hdm34 _ (by omega) (Nat.le_refl _)))⟩⟩
  ·rintro c pre s w8 ⟨rfl, ⟨hx, hB6, hm6, hmw⟩, hss, hch8⟩ hsz8 hmk8
   have hb0 := Below.refl w8.heap.size w8;have hMk8 := (Marks.nil w8).cons hmk8 (fun D hD => by simp at hD);refine W_ret (D_block_ret (D_then_ret (D_bodyMR1 rfl rfl hMk8 (fun w9 hc9 => .cell rfl (hB6.chg hc9 (fun hm => hMk8.ne hB6 _ hm rfl)) Tryz.isAgg4 rfl) (fun w9 hc9 => ?_))))
   have hD : ∀ k, k ∈ [w24.heap.size] → k = w24.heap.size := fun k h => by simpa using h
   obtain ⟨p8, hp8⟩ := hx;exact ⟨false, s, rfl, hch8.then hc9 (fun k hk h => by have := hD k h; exfalso; omega), hss, fun h => (by cases h), fun _ => ⟨p8, E.hJx _ _ _ _ hp8 (hc9.mono fun k _ h hor => by have := hD k h; subst this; exact hor.elim (fun h => by omega) (fun h => by have := hmw _ h; omega))⟩⟩
end Go.Proofs.YtphmoebiobjfhaaGreat
