/- Walks of functions, printed by a program of the author. -/
import Derived.Test.YtphmoebiobjfhaaOr
import Derived.Test.YtphmoebiobjfhaaT41
set_option linter.all false
namespace Go.Proofs.Ytphmoebiobjfhaa
open Go Go.Mi Go.RowKit
theorem build29_0 (v : Value) (w : World) (hv : one1 v = true) : (Instr.build 29 #[(0, v)]).run Try.prog w = .ok (.agg [v, (.slice none 0 0), (.slice none 0 0)].toArray) w := by
 unfold Instr.build
 simp [Sem.run_bind, Try.zeroValue29, Try.runUnderlying29, Try.sizeOf25, Try.sizeOf26, Try.sizeOf27, Instr.fill, cells_one hv, Result.andThen, cells_agg]
set_option maxHeartbeats 8000000 in
theorem f5_c {vx vp : Value} {xs : List Qd} {ps : List Int} {w : World} (hx : SL w vx 4 encQ xs) (hq : ∀ z ∈ xs, okQ z) (hp : SL w vp 1 encU ps) (hps : ∀ p ∈ ps, 0 ≤ p ∧ p ≤ 255) : Pure Try.prog 5 #[vx, vp] w (.bool true) := by
 have hpl1 := hp.lt;have hqq := hq;clear hq;have hpsq := hps;clear hps;have hb0 := Below.refl w.heap.size w;refine calls_of_W Try.func5 rfl Try.ntmps5 rfl ?_;refine W_seq (W_region (SG_q (Rq_assign rfl) rfl (SG_nil (D_then (W_seq (W_region (SG_q (Rq_move rfl) rfl (SG_call rfl Try.call6 rfl (f6_c (hx) hqq) ?_))))))));rintro v23 w23 hb23 ⟨C, hg, sa1, sn1, sc1, sa2, sn2, sc2, sa3, sn3, sc3, rfl, hs1, hs2, hs3⟩;replace hb0 := btr hb0 hb23;replace hp := hp.below hb23;replace hs1 := hs1.sl;replace hs2 := hs2.sl;replace hs3 := hs3.sl;have hsz1 := hs1.lt; have hsz2 := hs2.lt; have hsz3 := hs3.lt;have hck := hg.check
 have hgl := hg.len; have hgr := hg.roots; have hgc : C.ch.length = 2 := by rw [hg.ch]; rfl
 have p1 : C.ch.length ≤ 100000 := by omega
 have p2 : C.ops.length ≤ 100000 := by omega
 have p3 : C.roots.length ≤ 100000 := by omega
 refine SG_alloc Try.zeroValue29 rfl rfl ?_;intro w5 b5 e5 hb5 hz5 hB5
 have hle5 : w.heap.size ≤ b5 := by have := hb0.size; omega
 have ne_hp_b5 := hp.fresh (b := b5) (by omega);have ne_hs1_b5 := hs1.fresh (b := b5) (by omega);have ne_hs2_b5 := hs2.fresh (b := b5) (by omega);have ne_hs3_b5 := hs3.fresh (b := b5) (by omega);replace hb0 := btr hb0 hb5;replace hp := hp.below hb5;replace hs1 := hs1.below hb5;replace hs2 := hs2.below hb5;replace hs3 := hs3.below hb5;refine SG_storeW (hB5) rfl rfl rfl rfl Try.sizeOf29 rfl rfl ?_;intro ws1x3 hchs1x3 hBs1x3;replace hb0 := bchg hb0 hchs1x3 hle5;replace hp := hp.chg hchs1x3 ne_hp_b5;replace hs1 := hs1.chg hchs1x3 ne_hs1_b5;replace hs2 := hs2.chg hchs1x3 ne_hs2_b5;replace hs3 := hs3.chg hchs1x3 ne_hs3_b5;clear hB5;refine SG_nil (D_then (W_seq (W_region (SG_bslice (enc := encC) (val := valC) (os := []) rfl rfl MV.nil (fun _ => rfl) (fun _ => rfl) Try.runUnderlying25 Try.sizeOf59 Try.zeroValue59 rfl (by decide) (by decide) rfl ?_))));intro w24 v24 b24 e24 hb24 hz24 hob24 hO24
 have hle24 : w.heap.size ≤ b24 := by have := hb0.size; omega
 have lt_b5_24 : b5 < b24 := by have := hBs1x3.lt; omega
 replace hb0 := btr hb0 hb24;replace hp := hp.below hb24;replace hs1 := hs1.below hb24;replace hs2 := hs2.below hb24;replace hs3 := hs3.below hb24;replace hBs1x3 := hBs1x3.below hb24;refine SG_q (Rq_fieldAddr fa29_0 rfl) rfl ?_;refine SG_q (Rq_loadB (hBs1x3) Try.isAgg25 rfl rfl) rfl ?_;refine SG_append (hO24) (hs1) Try.underlying25 info59 rfl rfl rfl (fun _ _ => rfl) (by simp only [List.length_append, List.length_cons, List.length_nil]; omega) (by simp only [List.length_append, List.length_cons, List.length_nil]; omega) (by omega) rfl ?_;intro v27 w27 hO27 hch27 hsn27
 obtain ⟨aK, nK, cK, hvK⟩ : ∃ a n c, v27 = Value.slice a n c := by obtain ⟨a, c, h⟩ := hO27.sl.len; exact ⟨_, _, _, h⟩
 subst hvK;replace hb0 := hb0.trans (hch27.below hb0.size (fun k hk e => by have := (hO24).lt e; omega));clear hx
 replace hp := (hp.chg hch27 (fun hq e => by have e9 := Option.some.inj (hob24.symm.trans e); have := hpl1 hq; omega))
 replace hs1 := (hs1.chg hch27 (fun hp e => by have e9 := Option.some.inj (hob24.symm.trans e); have := hsz1 hp; omega))
 replace hs2 := (hs2.chg hch27 (fun hp e => by have e9 := Option.some.inj (hob24.symm.trans e); have := hsz2 hp; omega))
 replace hs3 := (hs3.chg hch27 (fun hp e => by have e9 := Option.some.inj (hob24.symm.trans e); have := hsz3 hp; omega))
 replace hBs1x3 := hBs1x3.chg hch27 (fun e => by have := (hO24).lt e; omega);clear hO24;rw [List.nil_append] at hO27;refine SG_q (Rq_build1 build29_0 rfl rfl ) rfl ?_;refine SG_alloc Try.zeroValue29 rfl rfl ?_;intro w6 b6 e6 hb6 hz6 hB6
 have hle6 : w.heap.size ≤ b6 := by have := hb0.size; omega
 have ne_hp_b6 := hp.fresh (b := b6) (by omega);have ne_hs1_b6 := hs1.fresh (b := b6) (by omega);have ne_hs2_b6 := hs2.fresh (b := b6) (by omega);have ne_hs3_b6 := hs3.fresh (b := b6) (by omega)
 have ne_b5_6 : ¬ b5 = b6 := by have := hBs1x3.lt; omega
 have ne_hO27_b6 : ∀ k, Value.ownBlock (.slice aK nK cK) = some k → ¬ k = b6 := fun k e => by have := hO27.lt e; omega
 replace hb0 := btr hb0 hb6;replace hp := hp.below hb6;replace hs1 := hs1.below hb6;replace hs2 := hs2.below hb6;replace hs3 := hs3.below hb6;replace hBs1x3 := hBs1x3.below hb6;replace hO27 := hO27.below hb6;refine SG_storeW (hB6) rfl rfl rfl rfl Try.sizeOf29 rfl rfl ?_;intro ws2x6 hchs2x6 hBs2x6;replace hb0 := bchg hb0 hchs2x6 hle6;replace hp := hp.chg hchs2x6 ne_hp_b6;replace hs1 := hs1.chg hchs2x6 ne_hs1_b6;replace hs2 := hs2.chg hchs2x6 ne_hs2_b6;replace hs3 := hs3.chg hchs2x6 ne_hs3_b6;replace hBs1x3 := hBs1x3.chg hchs2x6 ne_b5_6;replace hO27 := hO27.chg hchs2x6 (fun k e e2 => by first | exact ne_hO27_b6 k e e2 | (have := hO27.lt e; have := ne_hO27_b6; omega));clear hB6;refine SG_nil ?_;refine D_then ?_;refine W_seq ?_;have hzp := hBs2x6.lt; have hzq := hBs1x3.lt;refine W_any 8 [[], [0], [1], [2], [], [4], [5], [3]] [det [] ?a3_0n1, det [0] ?a3_1n1, det [1] ?a3_2n1, frs [2] (OsR ws2x6.heap.size 3 1 encI (List.replicate C.ops.length 0)), det [] ?a3_4n1, det [4] ?a3_5n1, det [5] ?a3_6n1, frs [3] (OsV ws2x6.heap.size 3 1 encI (List.replicate C.ops.length 0))] Try.mixed (by kernel_rfl) rfl ⟨det_stab _ _, det_stab _ _, det_stab _ _, OsR.stab, det_stab _ _, det_stab _ _, det_stab _ _, OsV.stab, trivial⟩ ?_ ?_; rotate_left 6
 ·refine Obls_cons ?_ ?_
  ·intro wq hbq
   refine Obl_nil ?_
   refine Ex_q2 (Rq_fieldAddr fa29_1 rfl) ?_; first | exact rfl | rfl
  refine Obls_cons ?_ ?_
  ·intro wq hbq
   refine Obl_det rfl rfl (Obl_nil ?_)
   refine Ex_q2 (Rq_loadB ((hBs1x3).below hbq) Try.isAgg26 rfl rfl) ?_; first | exact rfl | rfl
  refine Obls_cons ?_ ?_
  ·intro wq hbq
   refine Obl_det rfl rfl (Obl_nil ?_)
   first | (refine Ex_q2 (Rq_len ((hp).below hbq) Try.runUnderlying26 rfl) ?_; first | exact rfl | rfl) | (refine Ex_q2 (Rq_len ((hs1).below hbq) Try.runUnderlying26 rfl) ?_; first | exact rfl | rfl) | (refine Ex_q2 (Rq_len ((hs2).below hbq) Try.runUnderlying26 rfl) ?_; first | exact rfl | rfl) | (refine Ex_q2 (Rq_len ((hs3).below hbq) Try.runUnderlying26 rfl) ?_; first | exact rfl | rfl) | (refine Ex_q2 (Rq_len ((hO27.sl).below hbq) Try.runUnderlying26 rfl) ?_; first | exact rfl | rfl)
  refine Obls_cons ?_ ?_
  ·intro wq hbq
   refine Obl_det rfl rfl ?_;refine Obl_nil ?_;exact Ex_make1 (by have := hbq.size; omega) Try.underlying27 info3 rfl rfl (by omega) (by omega) rfl (fun _ => rfl)
  refine Obls_cons ?_ ?_
  ·intro wq hbq
   refine Obl_nil ?_
   refine Ex_q2 (Rq_fieldAddr fa29_1 rfl) ?_; first | exact rfl | rfl
  refine Obls_cons ?_ ?_
  ·intro wq hbq
   refine Obl_det rfl rfl (Obl_nil ?_)
   refine Ex_q2 (Rq_loadB ((hBs1x3).below hbq) Try.isAgg26 rfl rfl) ?_; first | exact rfl | rfl
  refine Obls_cons ?_ ?_
  ·intro wq hbq
   refine Obl_det rfl rfl (Obl_nil ?_)
   first | (refine Ex_q2 (Rq_len ((hp).below hbq) Try.runUnderlying26 rfl) ?_; first | exact rfl | rfl) | (refine Ex_q2 (Rq_len ((hs1).below hbq) Try.runUnderlying26 rfl) ?_; first | exact rfl | rfl) | (refine Ex_q2 (Rq_len ((hs2).below hbq) Try.runUnderlying26 rfl) ?_; first | exact rfl | rfl) | (refine Ex_q2 (Rq_len ((hs3).below hbq) Try.runUnderlying26 rfl) ?_; first | exact rfl | rfl) | (refine Ex_q2 (Rq_len ((hO27.sl).below hbq) Try.runUnderlying26 rfl) ?_; first | exact rfl | rfl)
  refine Obls_cons ?_ ?_
  ·intro wq hbq
   refine Obl_frs rfl rfl ?_; intro v32 lo32 hi32 hle32 hR32;refine Obl_nil ?_;exact Ex_qR (Rq_assign rfl) (fun _ _ => ⟨hR32.1, hR32.2.2⟩)
  exact Obls_nil
 ·intro wa3 hba3
  replace hb0 := btr hb0 hba3;replace hp := hp.below hba3;replace hs1 := hs1.below hba3;replace hs2 := hs2.below hba3;replace hs3 := hs3.below hba3;replace hBs1x3 := hBs1x3.below hba3;replace hO27 := hO27.below hba3;replace hBs2x6 := hBs2x6.below hba3;refine Fin_det rfl (Fin_det rfl (Fin_det rfl (Fin_frs rfl ?_))); intro v32 lo32 hi32 hR32 hlB32 hlh32 hhw32 hdj32;refine Fin_det rfl (Fin_det rfl (Fin_det rfl (Fin_frs rfl ?_))); intro v7 lo7 hi7 hR7 hlB7 hlh7 hhw7 hdj7;refine Fin_nil ?_
  simp only [List.drop_succ_cons, List.drop_zero]
  have hT := hR7.1;refine SG_q (Rq_assign rfl) rfl (SG_nil (D_then (W_seq (W_seq (W_region (SG_q (Rq_assign rfl) rfl (SG_nil (D_then (W_block ?_)))))))))
  have hKb6 : ∀ k, Value.ownBlock (.slice aK nK cK) = some k → ¬ k = b6 := fun k e => ne_hO27_b6 k e
  have hb56 : ¬ b5 = b6 := ne_b5_6
  have hTc5 : ¬ v7.ownBlock = some b5 := fun e => by have := (hT.lt e).1; omega
  have hTc6 : ¬ v7.ownBlock = some b6 := fun e => by have := (hT.lt e).1; omega
  have hsl1 : 0 < C.ch.length → sb (.slice sa1 sn1 sc1) < b5 := fun hp => by have := hsz1 hp; omega
  have hsl2 : 0 < C.ops.length → sb (.slice sa2 sn2 sc2) < b5 := fun hp => by have := hsz2 hp; omega
  have hsl3 : 0 < C.roots.length → sb (.slice sa3 sn3 sc3) < b5 := fun hp => by have := hsz3 hp; omega
  have hpl0 : 0 < ps.length → sb vp < b5 := fun hq => by have := hpl1 hq; omega
  refine W_loop (α := Nat) (fun x => [(9, .int .i64 (x : Nat)), (7, v7), (8, .int .i64 (C.ops.length : Nat)), (1, vp), (5, .pointer (some ⟨b5, 0, none⟩)), (6, .pointer (some ⟨b6, 0, none⟩))]) (fun x w' => Below w.heap.size w w' ∧ x ≤ C.ops.length ∧ Blk w' b5 [.slice sa1 sn1 sc1, .slice sa2 sn2 sc2, .slice sa3 sn3 sc3] 29 ∧ (SL w' (.slice sa1 sn1 sc1) 3 encC C.ch ∧ SL w' (.slice sa2 sn2 sc2) 5 encO C.ops ∧ SL w' (.slice sa3 sn3 sc3) 1 encI C.roots) ∧ SL w' vp 1 encU ps ∧ OS w' (.slice aK nK cK) 59 3 encC C.ch b5 ∧ (Blk w' b6 [.slice aK nK cK, .slice none 0 0, .slice none 0 0] 29) ∧ OS w' v7 3 1 encI (neg C.ops.length x) b5) (fun x => C.ops.length - x) (0) (by repeat (first | exact Sub.nil | refine Sub.cons rfl ?_)) ⟨hb0, Nat.zero_le _, hBs1x3, ⟨hs1, hs2, hs3⟩, hp, hO27.le (by omega), hBs2x6, by rw [neg_zero]; exact hT.le (by omega)⟩ ?_;clear hb0;clear hp;clear hs1;clear hs2;clear hs3;clear hBs1x3;clear hO27;clear hBs2x6;clear hT;rintro x wl0 ⟨hb0, hxi, hB5, ⟨hs1, hs2, hs3⟩, hp, hK, hB6, hT⟩;have hTb5 : ¬ v7.ownBlock = some b5 := hTc5;have hTb6 : ¬ v7.ownBlock = some b6 := hTc6;refine W_seq ?_;refine W_seq ?_;refine W_region ?_;refine SG_q (Rq_move rfl) rfl ?_;refine SG_q (Rq_move rfl) rfl ?_
  first | refine SG_q (Rq_len (hs1) Try.runUnderlying27 rfl) rfl ?_ | refine SG_q (Rq_len (hs2) Try.runUnderlying27 rfl) rfl ?_ | refine SG_q (Rq_len (hs3) Try.runUnderlying27 rfl) rfl ?_ | refine SG_q (Rq_len (hp) Try.runUnderlying27 rfl) rfl ?_ | refine SG_q (Rq_len (hK.sl) Try.runUnderlying27 rfl) rfl ?_ | refine SG_q (Rq_len (hT.sl) Try.runUnderlying27 rfl) rfl ?_
  refine SG_q (Rq_lss rfl rfl) rfl (SG_nil (D_then ?_));refine W_cond rfl ?_ ?_
  ·intro g39
   try simp only [dd] at g39
   rw [neg_len hxi] at g39;refine W_skip (D_then (W_seq (W_block (W_region (SG_q (Rq_move rfl) rfl (SG_q (Rq_move rfl) rfl ?_))))))
   first | refine SG_index (hs1) Try.runUnderlying27 Try.sizeOf3 rfl rfl ?_ ?_ rfl ?_ | refine SG_index (hs2) Try.runUnderlying27 Try.sizeOf3 rfl rfl ?_ ?_ rfl ?_ | refine SG_index (hs3) Try.runUnderlying27 Try.sizeOf3 rfl rfl ?_ ?_ rfl ?_ | refine SG_index (hp) Try.runUnderlying27 Try.sizeOf3 rfl rfl ?_ ?_ rfl ?_ | refine SG_index (hK.sl) Try.runUnderlying27 Try.sizeOf3 rfl rfl ?_ ?_ rfl ?_ | refine SG_index (hT.sl) Try.runUnderlying27 Try.sizeOf3 rfl rfl ?_ ?_ rfl ?_
   ·first | omega | (rw [hI.len]; omega) | (rw [neg_len hxi]; omega)
   ·first | omega | (rw [hI.len]; omega) | (rw [neg_len hxi]; omega)
   intro x44 hx44 hc44;refine SG_storeE (n := 1) (o := 0) (elt := x44) (elt' := -1) hT rfl rfl rfl rfl Try.sizeOf3 rfl hx44 (Nat.le_refl 1) rfl ?_;intro ws7 hcs7 hO7;replace hb0 := hb0.trans (hcs7.below hb0.size (fun q hq e => by have := (hT.lt e).1; omega));replace hB5 := hB5.chg hcs7 (fun e => hTb5 e);replace hs1 := hs1.chg hcs7 (fun hp e => by have := hsl1 hp; have := (hT.lt e).1; omega);replace hs2 := hs2.chg hcs7 (fun hp e => by have := hsl2 hp; have := (hT.lt e).1; omega);replace hs3 := hs3.chg hcs7 (fun hp e => by have := hsl3 hp; have := (hT.lt e).1; omega);replace hp := hp.chg hcs7 (fun hq e => by have := hpl0 hq; have := (hT.lt e).1; omega);replace hK := hK.chg hcs7 (fun b hb e => OS.ne_type hK hT (by decide) b hb e);replace hB6 := hB6.chg hcs7 (fun e => hTb6 e);clear hc44;clear hT;have hT := hO7;rw [neg_set (show x < C.ops.length by omega)] at hT;refine SG_nil ?_;refine D_block ?_;refine D_then ?_;refine W_region ?_;refine SG_q (Rq_move rfl) rfl ?_;refine SG_q (Rq_add rfl rfl (wrap_i64 (by omega) (by omega))) rfl ?_;refine SG_q (Rq_assign rfl) rfl ?_;refine SG_nil ?_;refine D_loop (x + 1) (by repeat (first | exact Sub.nil | refine Sub.cons rfl ?_)) ⟨hb0, by omega, hB5, ⟨hs1, hs2, hs3⟩, hp, hK, hB6, hT⟩ (by omega)
  ·intro g39
   try simp only [dd] at g39
   rw [neg_len hxi] at g39;rw [neg_end (show C.ops.length ≤ x by omega) hxi] at hT;refine W_exit ?_;refine D_then_exit ?_;refine D_loop_exit ?_;refine D_block_exit ?_;refine D_then ?_;refine W_seq ?_;refine W_seq ?_;refine W_region ?_;refine SG_q (Rq_assign rfl) rfl ?_;refine SG_nil ?_;refine D_then ?_;refine W_block ?_;refine W_loop (α := Oy) (fun x => [(10, .int .i64 (x.n : Nat)), (8, .int .i64 x.lf), (7, v7), (1, vp), (5, .pointer (some ⟨b5, 0, none⟩)), (6, .pointer (some ⟨b6, 0, none⟩))]) (fun x w' => Below w.heap.size w w' ∧ (OI C x.to x.F x.lf.toNat ∧ 0 ≤ x.lf ∧ (x.n : Int) + x.lf = C.ops.length) ∧ Blk w' b5 [.slice sa1 sn1 sc1, .slice sa2 sn2 sc2, .slice sa3 sn3 sc3] 29 ∧ (SL w' (.slice sa1 sn1 sc1) 3 encC C.ch ∧ SL w' (.slice sa2 sn2 sc2) 5 encO C.ops ∧ SL w' (.slice sa3 sn3 sc3) 1 encI C.roots) ∧ SL w' vp 1 encU ps ∧ OS w' (.slice aK nK cK) 59 3 encC C.ch b5 ∧ (Blk w' b6 [.slice aK nK cK, x.vF, .slice none 0 0] 29) ∧ OS w' v7 3 1 encI (x.to) b5 ∧ OS w' x.vF 55 5 encO (x.F) b5 ∧ (∀ k, x.vF.ownBlock = some k → k ≠ b5 ∧ k ≠ b6)) (fun x => x.lf.toNat) ((⟨0, List.replicate C.ops.length (-1), [], (C.ops.length : Int), .slice none 0 0⟩ : Oy)) (by repeat (first | exact Sub.nil | refine Sub.cons rfl ?_)) ⟨hb0, ⟨by dsimp only; rw [Int.toNat_natCast]; exact OI.zero C, by dsimp only; omega, by dsimp only; omega⟩, hB5, ⟨hs1, hs2, hs3⟩, hp, hK, hB6, hT, OS.nil (fun _ => rfl) (by decide), fun k e => by cases e⟩ ?_;clear hb0;clear hB5;clear hs1;clear hs2;clear hs3;clear hp;clear hK;clear hB6;clear hT;rintro x wl1 ⟨hb0, ⟨hI, hlf0, hnl⟩, hB5, ⟨hs1, hs2, hs3⟩, hp, hK, hB6, hT, hF, hFb⟩;have hTb5 : ¬ v7.ownBlock = some b5 := hTc5;have hTb6 : ¬ v7.ownBlock = some b6 := hTc6;have ne_hK_b6 : ∀ k, Value.ownBlock (.slice aK nK cK) = some k → ¬ k = b6 := hKb6
   have ne_hT_b6 : ∀ k, v7.ownBlock = some k → ¬ k = b6 := fun k e e2 => hTc6 (e2 ▸ e)
   have ne_b5_6 : ¬ b5 = b6 := hb56
   have ne_hs1_b6 : 0 < C.ch.length → ¬ sb (.slice sa1 sn1 sc1) = b6 := fun hp e => by have := hsl1 hp; omega
   have ne_hs2_b6 : 0 < C.ops.length → ¬ sb (.slice sa2 sn2 sc2) = b6 := fun hp e => by have := hsl2 hp; omega
   have ne_hs3_b6 : 0 < C.roots.length → ¬ sb (.slice sa3 sn3 sc3) = b6 := fun hp e => by have := hsl3 hp; omega
   have ne_hp_b6 : 0 < ps.length → ¬ sb vp = b6 := fun hq e => by have := hpl0 hq; omega
   have hTl : ∀ k, v7.ownBlock = some k → k < wl1.heap.size := fun k e => (hT.lt e).2
   have hKl : ∀ k, Value.ownBlock (.slice aK nK cK) = some k → k < wl1.heap.size := fun k e => (hK.lt e).2
   have hFl : ∀ k, x.vF.ownBlock = some k → k < wl1.heap.size := fun k e => (hF.lt e).2
   have hzb5 := hB5.lt; have hzb6 := hB6.lt;have hw0 := hb0.size;have hfew := hI.few; have hIl := hI.len;refine W_seq (W_seq (W_region (SG_q (Rq_move rfl) rfl (SG_q (Rq_gtr rfl rfl) rfl (SG_nil (D_then ?_))))));refine W_cond rfl ?_ ?_
   ·intro g46
    try simp only [dd] at g46
    have hl9 : 0 < x.lf.toNat := by omega
    obtain ⟨lf, hlf⟩ : ∃ lf, x.lf.toNat = lf + 1 := ⟨x.lf.toNat - 1, by omega⟩
    have hI2 : OI C x.to x.F (lf + 1) := hlf ▸ hI;refine W_skip (D_then (W_seq (W_block (W_seq (W_region (SG_q (Rq_assign rfl) rfl (SG_nil (D_then (W_seq (W_seq (W_region (SG_q (Rq_move rfl) rfl ?_))))))))))))
    first | refine SG_q (Rq_len (hs1) Try.runUnderlying24 rfl) rfl ?_ | refine SG_q (Rq_len (hs2) Try.runUnderlying24 rfl) rfl ?_ | refine SG_q (Rq_len (hs3) Try.runUnderlying24 rfl) rfl ?_ | refine SG_q (Rq_len (hp) Try.runUnderlying24 rfl) rfl ?_ | refine SG_q (Rq_len (hK.sl) Try.runUnderlying24 rfl) rfl ?_ | refine SG_q (Rq_len (hT.sl) Try.runUnderlying24 rfl) rfl ?_ | refine SG_q (Rq_len (hF.sl) Try.runUnderlying24 rfl) rfl ?_
    refine SG_q (Rq_gtr rfl rfl) rfl (SG_nil (D_then ?_));refine W_joinI 11 (fun n => 0 ≤ n ∧ n ≤ 255) rfl ?_ ?_ ?_
    ·intro g51 KJ51
     try simp only [dd] at g51
     refine W_region (SG_q (Rq_move rfl) rfl (SG_q (Rq_move rfl) rfl (SG_q (Rq_move rfl) rfl ?_)))
     first | refine SG_q (Rq_len (hs1) Try.runUnderlying24 rfl) rfl ?_ | refine SG_q (Rq_len (hs2) Try.runUnderlying24 rfl) rfl ?_ | refine SG_q (Rq_len (hs3) Try.runUnderlying24 rfl) rfl ?_ | refine SG_q (Rq_len (hp) Try.runUnderlying24 rfl) rfl ?_ | refine SG_q (Rq_len (hK.sl) Try.runUnderlying24 rfl) rfl ?_ | refine SG_q (Rq_len (hT.sl) Try.runUnderlying24 rfl) rfl ?_ | refine SG_q (Rq_len (hF.sl) Try.runUnderlying24 rfl) rfl ?_
     have hm56 := tmod_bd (a := (x.n : Int)) (n := (ps.length : Int)) (by omega) (by omega);refine SG_q (Rq_rem rfl rfl (by omega) ) rfl ?_
     first | refine SG_index (hs1) Try.runUnderlying24 Try.sizeOf5 rfl rfl ?_ ?_ rfl ?_ | refine SG_index (hs2) Try.runUnderlying24 Try.sizeOf5 rfl rfl ?_ ?_ rfl ?_ | refine SG_index (hs3) Try.runUnderlying24 Try.sizeOf5 rfl rfl ?_ ?_ rfl ?_ | refine SG_index (hp) Try.runUnderlying24 Try.sizeOf5 rfl rfl ?_ ?_ rfl ?_ | refine SG_index (hK.sl) Try.runUnderlying24 Try.sizeOf5 rfl rfl ?_ ?_ rfl ?_ | refine SG_index (hT.sl) Try.runUnderlying24 Try.sizeOf5 rfl rfl ?_ ?_ rfl ?_ | refine SG_index (hF.sl) Try.runUnderlying24 Try.sizeOf5 rfl rfl ?_ ?_ rfl ?_
     ·first | omega | (rw [hI.len]; omega) | (rw [neg_len hxi]; omega)
     ·first | omega | (rw [hI.len]; omega) | (rw [neg_len hxi]; omega)
     intro x57 hx57 hc57;refine SG_q (Rq_load Try.isAgg5 rfl ((hc57).cell 0 rfl)) rfl ?_;have hpp := hpsq _ (List.mem_of_getElem? hx57);refine SG_q (Rq_convert Try.runUnderlying5 Try.runUnderlying3 rfl (wrap_i64 (by omega) (by omega))) rfl (SG_q (Rq_assign rfl) rfl (SG_nil ?_));exact KJ51 _ hpp _ (by first | exact Sub.refl | exact Sub.cons rfl Sub.refl | (repeat (first | exact Sub.refl | refine Sub.shadow ?_ | refine Sub.same ?_ | refine Sub.push rfl ?_)))
    ·intro g51 KJ51
     try simp only [dd] at g51
     refine W_skip ?_;exact KJ51 0 ⟨by decide, by decide⟩ _ (by first | exact Sub.refl | exact Sub.cons rfl Sub.refl | (repeat (first | exact Sub.refl | refine Sub.shadow ?_ | refine Sub.same ?_ | refine Sub.push rfl ?_)))
    intro x57 hpp;refine D_then (W_seq (W_region (SG_bslice (enc := encI) (val := valI) (os := []) rfl rfl MV.nil (fun _ => rfl) (fun _ => rfl) Try.runUnderlying27 Try.sizeOf3 Try.zeroValue3 rfl (by decide) (by decide) rfl ?_)));intro w60 v60 b60 e60 hb60 hz60 hob60 hO60
    have hle60 : w.heap.size ≤ b60 := by have := hb0.size; omega
    have lt_b5_60 : b5 < b60 := by have := hB5.lt; omega
    have lt_b6_60 : b6 < b60 := by have := hB6.lt; omega
    replace hb0 := btr hb0 hb60;replace hB5 := hB5.below hb60;replace hs1 := hs1.below hb60;replace hs2 := hs2.below hb60;replace hs3 := hs3.below hb60;replace hp := hp.below hb60;replace hK := hK.below hb60;replace hB6 := hB6.below hb60;replace hT := hT.below hb60;replace hF := hF.below hb60;refine SG_q (Rq_assign rfl) rfl ?_;refine SG_nil ?_;refine D_then ?_;refine W_seq ?_;refine W_seq ?_;refine W_region ?_;refine SG_q (Rq_assign rfl) rfl ?_;refine SG_nil ?_;refine D_then ?_;refine W_block ?_;refine W_loop (α := Nat × Value × Int) (fun z => [(13, .int .i64 (z.1 : Nat)), (12, z.2.1), (11, .int .i64 z.2.2), (10, .int .i64 (x.n : Nat)), (8, .int .i64 x.lf), (7, v7), (1, vp), (5, .pointer (some ⟨b5, 0, none⟩)), (6, .pointer (some ⟨b6, 0, none⟩))]) (fun z w' => Below w.heap.size w w' ∧ (z.1 ≤ C.ops.length ∧ wl1.heap.size ≤ w'.heap.size ∧ 0 ≤ z.2.2 ∧ z.2.2 ≤ 255) ∧ OS w' z.2.1 3 1 encI (canO C x.to z.1) wl1.heap.size ∧ Blk w' b5 [.slice sa1 sn1 sc1, .slice sa2 sn2 sc2, .slice sa3 sn3 sc3] 29 ∧ (SL w' (.slice sa1 sn1 sc1) 3 encC C.ch ∧ SL w' (.slice sa2 sn2 sc2) 5 encO C.ops ∧ SL w' (.slice sa3 sn3 sc3) 1 encI C.roots) ∧ SL w' vp 1 encU ps ∧ OS w' (.slice aK nK cK) 59 3 encC C.ch b5 ∧ (Blk w' b6 [.slice aK nK cK, x.vF, .slice none 0 0] 29) ∧ OS w' v7 3 1 encI (x.to) b5 ∧ OS w' x.vF 55 5 encO (x.F) b5) (fun z => C.ops.length - z.1) ((0, v60, _)) (by repeat (first | exact Sub.nil | refine Sub.cons rfl ?_)) ⟨hb0, ⟨Nat.zero_le _, hb60.size, by dsimp only; omega, by dsimp only; omega⟩, hO60.le (by omega), hB5, ⟨hs1, hs2, hs3⟩, hp, hK, hB6, hT, hF⟩ ?_;clear hb0;clear hB5;clear hs1;clear hs2;clear hs3;clear hp;clear hK;clear hB6;clear hT;clear hF;clear hO60;rintro z wl2 ⟨hb0, ⟨hzi, hzw, hz0, hz2⟩, hZ, hB5, ⟨hs1, hs2, hs3⟩, hp, hK, hB6, hT, hF⟩;refine W_seq ?_;refine W_seq ?_;refine W_region ?_;refine SG_q (Rq_move rfl) rfl ?_;refine SG_q (Rq_fieldAddr fa29_1 rfl) rfl ?_;refine SG_q (Rq_loadB (hB5) Try.isAgg26 rfl rfl) rfl ?_
    first | refine SG_q (Rq_len (hs1) Try.runUnderlying26 rfl) rfl ?_ | refine SG_q (Rq_len (hs2) Try.runUnderlying26 rfl) rfl ?_ | refine SG_q (Rq_len (hs3) Try.runUnderlying26 rfl) rfl ?_ | refine SG_q (Rq_len (hp) Try.runUnderlying26 rfl) rfl ?_ | refine SG_q (Rq_len (hK.sl) Try.runUnderlying26 rfl) rfl ?_ | refine SG_q (Rq_len (hT.sl) Try.runUnderlying26 rfl) rfl ?_ | refine SG_q (Rq_len (hF.sl) Try.runUnderlying26 rfl) rfl ?_ | refine SG_q (Rq_len (hZ.sl) Try.runUnderlying26 rfl) rfl ?_
    refine SG_q (Rq_lss rfl rfl) rfl (SG_nil (D_then ?_));refine W_cond rfl ?_ ?_
    ·intro g65
     try simp only [dd] at g65
     have hzl : z.1 < C.ops.length := by omega
     obtain ⟨y, hy⟩ : ∃ y, C.ops[(z.1 : Int).toNat]? = some y := ⟨_, List.getElem?_eq_getElem (by omega)⟩
     have hbx := opnd_in hck (by simpa using hy);obtain ⟨⟨ya0, ya2⟩, ⟨yb0, yb2⟩, yc0, yc2⟩ := hbx;refine W_skip (D_then (W_seq (W_block (W_seq (W_region (SG_q (Rq_fieldAddr fa29_1 rfl) rfl (SG_q (Rq_loadB (hB5) Try.isAgg26 rfl rfl) rfl (SG_q (Rq_move rfl) rfl ?_))))))))
     first | refine SG_index (hs1) Try.runUnderlying26 Try.sizeOf55 rfl rfl ?_ ?_ rfl ?_ | refine SG_index (hs2) Try.runUnderlying26 Try.sizeOf55 rfl rfl ?_ ?_ rfl ?_ | refine SG_index (hs3) Try.runUnderlying26 Try.sizeOf55 rfl rfl ?_ ?_ rfl ?_ | refine SG_index (hp) Try.runUnderlying26 Try.sizeOf55 rfl rfl ?_ ?_ rfl ?_ | refine SG_index (hK.sl) Try.runUnderlying26 Try.sizeOf55 rfl rfl ?_ ?_ rfl ?_ | refine SG_index (hT.sl) Try.runUnderlying26 Try.sizeOf55 rfl rfl ?_ ?_ rfl ?_ | refine SG_index (hF.sl) Try.runUnderlying26 Try.sizeOf55 rfl rfl ?_ ?_ rfl ?_ | refine SG_index (hZ.sl) Try.runUnderlying26 Try.sizeOf55 rfl rfl ?_ ?_ rfl ?_
     ·first | omega | (rw [hI.len]; omega) | (rw [neg_len hxi]; omega)
     ·first | omega | (rw [hI.len]; omega) | (rw [neg_len hxi]; omega)
     intro x71 hx71 hc71;have ex71 := Option.some.inj ((hy).symm.trans hx71); subst ex71;refine SG_q (Rq_loadA Try.isAgg55 Try.sizeOf55 rfl ((hc71)) rfl) rfl (SG_alloc Try.zeroValue55 rfl rfl ?_);intro w14 b14 e14 hb14 hz14 hB14
     have hle14 : w.heap.size ≤ b14 := by have := hb0.size; omega
     have ne_b5_14 : ¬ b5 = b14 := by have := hB5.lt; omega
     have ne_hs1_b14 := hs1.fresh (b := b14) (by omega);have ne_hs2_b14 := hs2.fresh (b := b14) (by omega);have ne_hs3_b14 := hs3.fresh (b := b14) (by omega);have ne_hp_b14 := hp.fresh (b := b14) (by omega)
     have ne_hK_b14 : ∀ k, Value.ownBlock (.slice aK nK cK) = some k → ¬ k = b14 := fun k e => by have := hK.lt e; omega
     have ne_b6_14 : ¬ b6 = b14 := by have := hB6.lt; omega
     have ne_hT_b14 : ∀ k, Value.ownBlock v7 = some k → ¬ k = b14 := fun k e => by have := hT.lt e; omega
     have ne_hF_b14 : ∀ k, Value.ownBlock x.vF = some k → ¬ k = b14 := fun k e => by have := hF.lt e; omega
     have ne_hZ_b14 : ∀ k, Value.ownBlock z.2.1 = some k → ¬ k = b14 := fun k e => by have := hZ.lt e; omega
     replace hb0 := btr hb0 hb14;replace hB5 := hB5.below hb14;replace hs1 := hs1.below hb14;replace hs2 := hs2.below hb14;replace hs3 := hs3.below hb14;replace hp := hp.below hb14;replace hK := hK.below hb14;replace hB6 := hB6.below hb14;replace hT := hT.below hb14;replace hF := hF.below hb14;replace hZ := hZ.below hb14;refine SG_storeW (hB14) rfl rfl rfl rfl Try.sizeOf55 rfl rfl ?_;intro ws18x6 hchs18x6 hBs18x6;replace hb0 := bchg hb0 hchs18x6 hle14;replace hB5 := hB5.chg hchs18x6 ne_b5_14;replace hs1 := hs1.chg hchs18x6 ne_hs1_b14;replace hs2 := hs2.chg hchs18x6 ne_hs2_b14;replace hs3 := hs3.chg hchs18x6 ne_hs3_b14;replace hp := hp.chg hchs18x6 ne_hp_b14;replace hK := hK.chg hchs18x6 (fun k e e2 => by first | exact ne_hK_b14 k e e2 | (have := hK.lt e; have := ne_hK_b14; omega));replace hB6 := hB6.chg hchs18x6 ne_b6_14;replace hT := hT.chg hchs18x6 (fun k e e2 => by first | exact ne_hT_b14 k e e2 | (have := hT.lt e; have := ne_hT_b14; omega));replace hF := hF.chg hchs18x6 (fun k e e2 => by first | exact ne_hF_b14 k e e2 | (have := hF.lt e; have := ne_hF_b14; omega));replace hZ := hZ.chg hchs18x6 (fun k e e2 => by first | exact ne_hZ_b14 k e e2 | (have := hZ.lt e; have := ne_hZ_b14; omega));clear hc71;clear hB14;refine SG_nil ?_;refine D_then ?_;refine W_seq ?_;refine W_region ?_;refine SG_q (Rq_move rfl) rfl ?_;refine SG_q (Rq_move rfl) rfl ?_
     first | refine SG_index (hs1) Try.runUnderlying27 Try.sizeOf3 rfl rfl ?_ ?_ rfl ?_ | refine SG_index (hs2) Try.runUnderlying27 Try.sizeOf3 rfl rfl ?_ ?_ rfl ?_ | refine SG_index (hs3) Try.runUnderlying27 Try.sizeOf3 rfl rfl ?_ ?_ rfl ?_ | refine SG_index (hp) Try.runUnderlying27 Try.sizeOf3 rfl rfl ?_ ?_ rfl ?_ | refine SG_index (hK.sl) Try.runUnderlying27 Try.sizeOf3 rfl rfl ?_ ?_ rfl ?_ | refine SG_index (hT.sl) Try.runUnderlying27 Try.sizeOf3 rfl rfl ?_ ?_ rfl ?_ | refine SG_index (hF.sl) Try.runUnderlying27 Try.sizeOf3 rfl rfl ?_ ?_ rfl ?_ | refine SG_index (hZ.sl) Try.runUnderlying27 Try.sizeOf3 rfl rfl ?_ ?_ rfl ?_
     ·first | omega | (rw [hI.len]; omega) | (rw [neg_len hxi]; omega)
     ·first | omega | (rw [hI.len]; omega) | (rw [neg_len hxi]; omega)
     intro x75 hx75 hc75;have ex75 := Option.some.inj (((gI_some (l := x.to) (k := (z.1 : Int)) (by omega) (by rw [hI.len]; omega))).symm.trans hx75); subst ex75;refine SG_q (Rq_load Try.isAgg3 rfl ((hc75).cell 0 rfl)) rfl ?_;refine SG_q (Rq_lss rfl rfl) rfl ?_;refine SG_q (Rq_move rfl) rfl ?_;refine SG_and (r := ?r78n2) 12 90 78 rfl ?_ ?_ ?_; rotate_left
     ·intro g78 K78
      have g78' := g78; try simp only [dd] at g78'
      have hm78 := Below.refl (ws18x6).heap.size ws18x6;refine SG_yes 78 rfl rfl g78 ?_;refine SG_q (Rq_fieldAddr fa55_0 rfl) rfl ?_;refine SG_yes 78 rfl rfl g78 ?_;refine SG_q (Rq_loadB (hBs18x6) Try.isAgg5 rfl rfl) rfl ?_;refine SG_yes 78 rfl rfl g78 ?_;refine SG_q (Rq_lss rfl rfl) rfl ?_;refine SG_yes 78 rfl rfl g78 ?_;refine SG_q (Rq_move rfl) rfl ?_;refine SG_or (r := ?r82n3) 7 89 82 rfl ?_ ?_ ?_; rotate_left
      ·intro g82 K82
       have g82' := g82; try simp only [dd] at g82'
       have hm82 := Below.refl (ws18x6).heap.size ws18x6;refine SG_yes 82 rfl rfl g82 (SG_q (Rq_move rfl) rfl (SG_yes 82 rfl rfl g82 (SG_q (Rq_fieldAddr fa55_1 rfl) rfl (SG_yes 82 rfl rfl g82 (SG_q (Rq_loadB (hBs18x6) Try.isAgg3 rfl rfl) rfl (SG_yes 82 rfl rfl g82 ?_))))))
       first | refine SG_index (hs1) Try.runUnderlying27 Try.sizeOf3 rfl rfl ?_ ?_ rfl ?_ | refine SG_index (hs2) Try.runUnderlying27 Try.sizeOf3 rfl rfl ?_ ?_ rfl ?_ | refine SG_index (hs3) Try.runUnderlying27 Try.sizeOf3 rfl rfl ?_ ?_ rfl ?_ | refine SG_index (hp) Try.runUnderlying27 Try.sizeOf3 rfl rfl ?_ ?_ rfl ?_ | refine SG_index (hK.sl) Try.runUnderlying27 Try.sizeOf3 rfl rfl ?_ ?_ rfl ?_ | refine SG_index (hT.sl) Try.runUnderlying27 Try.sizeOf3 rfl rfl ?_ ?_ rfl ?_ | refine SG_index (hF.sl) Try.runUnderlying27 Try.sizeOf3 rfl rfl ?_ ?_ rfl ?_ | refine SG_index (hZ.sl) Try.runUnderlying27 Try.sizeOf3 rfl rfl ?_ ?_ rfl ?_
       ·first | omega | (rw [hI.len]; omega) | (rw [neg_len hxi]; omega)
       ·first | omega | (rw [hI.len]; omega) | (rw [neg_len hxi]; omega)
       intro x86 hx86 hc86;have ex86 := Option.some.inj (((gI_some (l := x.to) (k := y.a) (by omega) (by rw [hI.len]; omega))).symm.trans hx86); subst ex86;refine SG_yes 82 rfl rfl g82 ?_;refine SG_q (Rq_load Try.isAgg3 rfl ((hc86).cell 0 rfl)) rfl ?_;refine SG_yes 82 rfl rfl g82 ?_;refine SG_q (Rq_geq rfl rfl) rfl ?_;refine SG_yes 78 rfl rfl g78 ?_;refine SG_q (Rq_pick rfl (fun h => absurd (g82.symm.trans h) (by decide)) (fun _ => rfl)) rfl ?_;exact K82 _ _ hm82 (by repeat (first | exact Sub.refl | refine Sub.shadow ?_ | refine Sub.same ?_ | refine Sub.push rfl ?_))
      ·intro g82 K82
       have g82' := g82; try simp only [dd] at g82'
       have hm82 := Below.refl (ws18x6).heap.size ws18x6;refine SG_no 82 rfl rfl g82 rfl (SG_no 82 rfl rfl g82 rfl (SG_no 82 rfl rfl g82 rfl (SG_no 82 rfl rfl g82 rfl (SG_no 82 rfl rfl g82 rfl (SG_no 82 rfl rfl g82 rfl (SG_yes 78 rfl rfl g78 (SG_q (Rq_pick rfl (fun _ => rfl) (fun h => absurd (g82.symm.trans h) (by decide))) rfl ?_)))))));exact K82 _ _ hm82 (by repeat (first | exact Sub.refl | refine Sub.shadow ?_ | refine Sub.same ?_ | refine Sub.push rfl ?_))
      intro wm82 hbm82;replace hb0 := btr hb0 hbm82;replace hm78 := btr hm78 hbm82
      simp only [List.drop_succ_cons, List.drop_zero]
      refine SG_q (Rq_pick rfl (fun _ => rfl) (fun h => absurd (g78.symm.trans h) (by decide))) rfl ?_;exact K78 _ _ hm78 (by repeat (first | exact Sub.refl | refine Sub.shadow ?_ | refine Sub.same ?_ | refine Sub.push rfl ?_))
     ·intro g78 K78
      have g78' := g78; try simp only [dd] at g78'
      have hm78 := Below.refl (ws18x6).heap.size ws18x6;refine SG_no 78 rfl rfl g78 rfl (SG_no 78 rfl rfl g78 rfl (SG_no 78 rfl rfl g78 rfl (SG_no 78 rfl rfl g78 rfl (SG_skip 82 rfl rfl rfl (SG_skip 82 rfl rfl rfl (SG_skip 82 rfl rfl rfl (SG_skip 82 rfl rfl rfl (SG_skip 82 rfl rfl rfl (SG_skip 82 rfl rfl rfl (SG_no 78 rfl rfl g78 rfl (SG_q (Rq_pick rfl (fun h => absurd (g78.symm.trans h) (by decide)) (fun _ => rfl)) rfl ?_)))))))))));exact K78 _ _ hm78 (by repeat (first | exact Sub.refl | refine Sub.shadow ?_ | refine Sub.same ?_ | refine Sub.push rfl ?_))
     intro wm78 hbm78;replace hb0 := btr hb0 hbm78;replace hB5 := hB5.below hbm78;replace hs1 := hs1.below hbm78;replace hs2 := hs2.below hbm78;replace hs3 := hs3.below hbm78;replace hp := hp.below hbm78;replace hK := hK.below hbm78;replace hB6 := hB6.below hbm78;replace hT := hT.below hbm78;replace hF := hF.below hbm78;replace hZ := hZ.below hbm78;replace hBs18x6 := hBs18x6.below hbm78
     simp only [List.drop_succ_cons, List.drop_zero]
     refine SG_q (Rq_move rfl) rfl ?_;refine SG_and (r := ?r91n4) 12 103 91 rfl ?_ ?_ ?_; rotate_left
     ·intro g91 K91
      have g91' := g91; try simp only [dd] at g91'
      have hm91 := Below.refl (wm78).heap.size wm78;refine SG_yes 91 rfl rfl g91 ?_;refine SG_q (Rq_fieldAddr fa55_0 rfl) rfl ?_;refine SG_yes 91 rfl rfl g91 ?_;refine SG_q (Rq_loadB (hBs18x6) Try.isAgg5 rfl rfl) rfl ?_;refine SG_yes 91 rfl rfl g91 ?_;refine SG_q (Rq_lss rfl rfl) rfl ?_;refine SG_yes 91 rfl rfl g91 ?_;refine SG_q (Rq_move rfl) rfl ?_;refine SG_or (r := ?r95n5) 7 102 95 rfl ?_ ?_ ?_; rotate_left
      ·intro g95 K95
       have g95' := g95; try simp only [dd] at g95'
       have hm95 := Below.refl (wm78).heap.size wm78;refine SG_yes 95 rfl rfl g95 (SG_q (Rq_move rfl) rfl (SG_yes 95 rfl rfl g95 (SG_q (Rq_fieldAddr fa55_2 rfl) rfl (SG_yes 95 rfl rfl g95 (SG_q (Rq_loadB (hBs18x6) Try.isAgg3 rfl rfl) rfl (SG_yes 95 rfl rfl g95 ?_))))))
       first | refine SG_index (hs1) Try.runUnderlying27 Try.sizeOf3 rfl rfl ?_ ?_ rfl ?_ | refine SG_index (hs2) Try.runUnderlying27 Try.sizeOf3 rfl rfl ?_ ?_ rfl ?_ | refine SG_index (hs3) Try.runUnderlying27 Try.sizeOf3 rfl rfl ?_ ?_ rfl ?_ | refine SG_index (hp) Try.runUnderlying27 Try.sizeOf3 rfl rfl ?_ ?_ rfl ?_ | refine SG_index (hK.sl) Try.runUnderlying27 Try.sizeOf3 rfl rfl ?_ ?_ rfl ?_ | refine SG_index (hT.sl) Try.runUnderlying27 Try.sizeOf3 rfl rfl ?_ ?_ rfl ?_ | refine SG_index (hF.sl) Try.runUnderlying27 Try.sizeOf3 rfl rfl ?_ ?_ rfl ?_ | refine SG_index (hZ.sl) Try.runUnderlying27 Try.sizeOf3 rfl rfl ?_ ?_ rfl ?_
       ·first | omega | (rw [hI.len]; omega) | (rw [neg_len hxi]; omega)
       ·first | omega | (rw [hI.len]; omega) | (rw [neg_len hxi]; omega)
       intro x99 hx99 hc99;have ex99 := Option.some.inj (((gI_some (l := x.to) (k := y.b) (by omega) (by rw [hI.len]; omega))).symm.trans hx99); subst ex99;refine SG_yes 95 rfl rfl g95 ?_;refine SG_q (Rq_load Try.isAgg3 rfl ((hc99).cell 0 rfl)) rfl ?_;refine SG_yes 95 rfl rfl g95 ?_;refine SG_q (Rq_geq rfl rfl) rfl ?_;refine SG_yes 91 rfl rfl g91 ?_;refine SG_q (Rq_pick rfl (fun h => absurd (g95.symm.trans h) (by decide)) (fun _ => rfl)) rfl ?_;exact K95 _ _ hm95 (by repeat (first | exact Sub.refl | refine Sub.shadow ?_ | refine Sub.same ?_ | refine Sub.push rfl ?_))
      ·intro g95 K95
       have g95' := g95; try simp only [dd] at g95'
       have hm95 := Below.refl (wm78).heap.size wm78;refine SG_no 95 rfl rfl g95 rfl (SG_no 95 rfl rfl g95 rfl (SG_no 95 rfl rfl g95 rfl (SG_no 95 rfl rfl g95 rfl (SG_no 95 rfl rfl g95 rfl (SG_no 95 rfl rfl g95 rfl (SG_yes 91 rfl rfl g91 (SG_q (Rq_pick rfl (fun _ => rfl) (fun h => absurd (g95.symm.trans h) (by decide))) rfl ?_)))))));exact K95 _ _ hm95 (by repeat (first | exact Sub.refl | refine Sub.shadow ?_ | refine Sub.same ?_ | refine Sub.push rfl ?_))
      intro wm95 hbm95;replace hb0 := btr hb0 hbm95;replace hm91 := btr hm91 hbm95
      simp only [List.drop_succ_cons, List.drop_zero]
      refine SG_q (Rq_pick rfl (fun _ => rfl) (fun h => absurd (g91.symm.trans h) (by decide))) rfl ?_;exact K91 _ _ hm91 (by repeat (first | exact Sub.refl | refine Sub.shadow ?_ | refine Sub.same ?_ | refine Sub.push rfl ?_))
     ·intro g91 K91
      have g91' := g91; try simp only [dd] at g91'
      have hm91 := Below.refl (wm78).heap.size wm78;refine SG_no 91 rfl rfl g91 rfl (SG_no 91 rfl rfl g91 rfl (SG_no 91 rfl rfl g91 rfl (SG_no 91 rfl rfl g91 rfl (SG_skip 95 rfl rfl rfl (SG_skip 95 rfl rfl rfl (SG_skip 95 rfl rfl rfl (SG_skip 95 rfl rfl rfl (SG_skip 95 rfl rfl rfl (SG_skip 95 rfl rfl rfl (SG_no 91 rfl rfl g91 rfl (SG_q (Rq_pick rfl (fun h => absurd (g91.symm.trans h) (by decide)) (fun _ => rfl)) rfl ?_)))))))))));exact K91 _ _ hm91 (by repeat (first | exact Sub.refl | refine Sub.shadow ?_ | refine Sub.same ?_ | refine Sub.push rfl ?_))
     intro wm91 hbm91;replace hb0 := btr hb0 hbm91;replace hB5 := hB5.below hbm91;replace hs1 := hs1.below hbm91;replace hs2 := hs2.below hbm91;replace hs3 := hs3.below hbm91;replace hp := hp.below hbm91;replace hK := hK.below hbm91;replace hB6 := hB6.below hbm91;replace hT := hT.below hbm91;replace hF := hF.below hbm91;replace hZ := hZ.below hbm91;replace hBs18x6 := hBs18x6.below hbm91
     simp only [List.drop_succ_cons, List.drop_zero]
     refine SG_q (Rq_move rfl) rfl ?_;refine SG_and (r := ?r104n6) 12 116 104 rfl ?_ ?_ ?_; rotate_left
     ·intro g104 K104
      have g104' := g104; try simp only [dd] at g104'
      have hm104 := Below.refl (wm91).heap.size wm91;refine SG_yes 104 rfl rfl g104 ?_;refine SG_q (Rq_fieldAddr fa55_0 rfl) rfl ?_;refine SG_yes 104 rfl rfl g104 ?_;refine SG_q (Rq_loadB (hBs18x6) Try.isAgg5 rfl rfl) rfl ?_;refine SG_yes 104 rfl rfl g104 ?_;refine SG_q (Rq_neq rfl rfl) rfl ?_;refine SG_yes 104 rfl rfl g104 ?_;refine SG_q (Rq_move rfl) rfl ?_;refine SG_or (r := ?r108n7) 7 115 108 rfl ?_ ?_ ?_; rotate_left
      ·intro g108 K108
       have g108' := g108; try simp only [dd] at g108'
       have hm108 := Below.refl (wm91).heap.size wm91;refine SG_yes 108 rfl rfl g108 (SG_q (Rq_move rfl) rfl (SG_yes 108 rfl rfl g108 (SG_q (Rq_fieldAddr fa55_3 rfl) rfl (SG_yes 108 rfl rfl g108 (SG_q (Rq_loadB (hBs18x6) Try.isAgg3 rfl rfl) rfl (SG_yes 108 rfl rfl g108 ?_))))))
       first | refine SG_index (hs1) Try.runUnderlying27 Try.sizeOf3 rfl rfl ?_ ?_ rfl ?_ | refine SG_index (hs2) Try.runUnderlying27 Try.sizeOf3 rfl rfl ?_ ?_ rfl ?_ | refine SG_index (hs3) Try.runUnderlying27 Try.sizeOf3 rfl rfl ?_ ?_ rfl ?_ | refine SG_index (hp) Try.runUnderlying27 Try.sizeOf3 rfl rfl ?_ ?_ rfl ?_ | refine SG_index (hK.sl) Try.runUnderlying27 Try.sizeOf3 rfl rfl ?_ ?_ rfl ?_ | refine SG_index (hT.sl) Try.runUnderlying27 Try.sizeOf3 rfl rfl ?_ ?_ rfl ?_ | refine SG_index (hF.sl) Try.runUnderlying27 Try.sizeOf3 rfl rfl ?_ ?_ rfl ?_ | refine SG_index (hZ.sl) Try.runUnderlying27 Try.sizeOf3 rfl rfl ?_ ?_ rfl ?_
       ·first | omega | (rw [hI.len]; omega) | (rw [neg_len hxi]; omega)
       ·first | omega | (rw [hI.len]; omega) | (rw [neg_len hxi]; omega)
       intro x112 hx112 hc112;have ex112 := Option.some.inj (((gI_some (l := x.to) (k := y.c) (by omega) (by rw [hI.len]; omega))).symm.trans hx112); subst ex112;refine SG_yes 108 rfl rfl g108 ?_;refine SG_q (Rq_load Try.isAgg3 rfl ((hc112).cell 0 rfl)) rfl ?_;refine SG_yes 108 rfl rfl g108 ?_;refine SG_q (Rq_geq rfl rfl) rfl ?_;refine SG_yes 104 rfl rfl g104 ?_;refine SG_q (Rq_pick rfl (fun h => absurd (g108.symm.trans h) (by decide)) (fun _ => rfl)) rfl ?_;exact K108 _ _ hm108 (by repeat (first | exact Sub.refl | refine Sub.shadow ?_ | refine Sub.same ?_ | refine Sub.push rfl ?_))
      ·intro g108 K108
       have g108' := g108; try simp only [dd] at g108'
       have hm108 := Below.refl (wm91).heap.size wm91;refine SG_no 108 rfl rfl g108 rfl (SG_no 108 rfl rfl g108 rfl (SG_no 108 rfl rfl g108 rfl (SG_no 108 rfl rfl g108 rfl (SG_no 108 rfl rfl g108 rfl (SG_no 108 rfl rfl g108 rfl (SG_yes 104 rfl rfl g104 (SG_q (Rq_pick rfl (fun _ => rfl) (fun h => absurd (g108.symm.trans h) (by decide))) rfl ?_)))))));exact K108 _ _ hm108 (by repeat (first | exact Sub.refl | refine Sub.shadow ?_ | refine Sub.same ?_ | refine Sub.push rfl ?_))
      intro wm108 hbm108;replace hb0 := btr hb0 hbm108;replace hm104 := btr hm104 hbm108
      simp only [List.drop_succ_cons, List.drop_zero]
      refine SG_q (Rq_pick rfl (fun _ => rfl) (fun h => absurd (g104.symm.trans h) (by decide))) rfl ?_;exact K104 _ _ hm104 (by repeat (first | exact Sub.refl | refine Sub.shadow ?_ | refine Sub.same ?_ | refine Sub.push rfl ?_))
     ·intro g104 K104
      have g104' := g104; try simp only [dd] at g104'
      have hm104 := Below.refl (wm91).heap.size wm91;refine SG_no 104 rfl rfl g104 rfl (SG_no 104 rfl rfl g104 rfl (SG_no 104 rfl rfl g104 rfl (SG_no 104 rfl rfl g104 rfl (SG_skip 108 rfl rfl rfl (SG_skip 108 rfl rfl rfl (SG_skip 108 rfl rfl rfl (SG_skip 108 rfl rfl rfl (SG_skip 108 rfl rfl rfl (SG_skip 108 rfl rfl rfl (SG_no 104 rfl rfl g104 rfl (SG_q (Rq_pick rfl (fun h => absurd (g104.symm.trans h) (by decide)) (fun _ => rfl)) rfl ?_)))))))))));exact K104 _ _ hm104 (by repeat (first | exact Sub.refl | refine Sub.shadow ?_ | refine Sub.same ?_ | refine Sub.push rfl ?_))
     intro wm104 hbm104;replace hb0 := btr hb0 hbm104;replace hB5 := hB5.below hbm104;replace hs1 := hs1.below hbm104;replace hs2 := hs2.below hbm104;replace hs3 := hs3.below hbm104;replace hp := hp.below hbm104;replace hK := hK.below hbm104;replace hB6 := hB6.below hbm104;replace hT := hT.below hbm104;replace hF := hF.below hbm104;replace hZ := hZ.below hbm104;replace hBs18x6 := hBs18x6.below hbm104
     simp only [List.drop_succ_cons, List.drop_zero]
     refine SG_nil (D_then ?_);refine W_cond rfl ?_ ?_
     ·intro g116
      try simp only [dd] at g116
      have hrd : rdy C x.to (z.1 : Int) = true := by rw [rdy_eq hck (y := y) (by omega) (by omega) (getO_of (by simpa using hy))]; simpa [and_assoc] using g116
      refine W_region (SG_q (Rq_move rfl) rfl (SG_q (Rq_move rfl) rfl (SG_bslice (enc := encI) (val := valI) (os := [.tmp 118]) rfl rfl (MV.cons (x := (z.1 : Int)) MV.nil) (fun _ => rfl) (fun _ => rfl) Try.runUnderlying27 Try.sizeOf3 Try.zeroValue3 rfl (by decide) (by decide) rfl ?_)));intro w119 v119 b119 e119 hb119 hz119 hob119 hO119
      have hle119 : w.heap.size ≤ b119 := by have := hb0.size; omega
      have lt_b5_119 : b5 < b119 := by have := hB5.lt; omega
      have lt_b6_119 : b6 < b119 := by have := hB6.lt; omega
      have lt_b14_119 : b14 < b119 := by have := hBs18x6.lt; omega
      replace hb0 := btr hb0 hb119;replace hB5 := hB5.below hb119;replace hs1 := hs1.below hb119;replace hs2 := hs2.below hb119;replace hs3 := hs3.below hb119;replace hp := hp.below hb119;replace hK := hK.below hb119;replace hB6 := hB6.below hb119;replace hT := hT.below hb119;replace hF := hF.below hb119;replace hZ := hZ.below hb119;refine SG_append (hZ) (hO119.sl) Try.underlying27 info3 rfl rfl rfl (fun _ _ => rfl) (by simp only [List.length_append, List.length_cons, List.length_nil]; (have := canO_len C x.to z.1; omega)) (by simp only [List.length_append, List.length_cons, List.length_nil]; (have := canO_len C x.to z.1; omega)) (by have q1 := hb14.size; have q2 := hchs18x6.size; have q3 := hbm78.size; have q4 := hbm91.size; have q5 := hbm104.size; have := hb119.size; omega) rfl ?_;intro v120 w120 hO120 hch120 hsn120;replace hb0 := hb0.trans (hch120.below hb0.size (fun k hk e => by have := (hZ).lt e; omega))
      replace hB5 := (hB5.chg hch120 (fun e => by have := (hZ.lt e).1; omega))
      replace hs1 := (hs1.chg hch120 (fun hp e => by have := hsl1 hp; have := (hZ.lt e).1; omega))
      replace hs2 := (hs2.chg hch120 (fun hp e => by have := hsl2 hp; have := (hZ.lt e).1; omega))
      replace hs3 := (hs3.chg hch120 (fun hp e => by have := hsl3 hp; have := (hZ.lt e).1; omega))
      replace hp := (hp.chg hch120 (fun hq e => by have := hpl0 hq; have := (hZ.lt e).1; omega))
      replace hK := (hK.chg hch120 (fun b hb e => OS.ne_type hK hZ (by decide) b hb e))
      replace hB6 := (hB6.chg hch120 (fun e => by have := (hZ.lt e).1; omega))
      replace hT := (hT.chg hch120 (fun b hb e => by have := hTl b hb; have := (hZ.lt e).1; omega))
      replace hF := (hF.chg hch120 (fun b hb e => OS.ne_type hF hZ (by decide) b hb e))
      clear hBs18x6;clear hc75;clear hO119;clear hZ;refine SG_q (Rq_assign rfl) rfl ?_;refine SG_nil ?_;refine D_block ?_;refine D_then ?_;refine W_region ?_;refine SG_q (Rq_move rfl) rfl ?_;refine SG_q (Rq_add rfl rfl (wrap_i64 (by omega) (by omega))) rfl ?_;refine SG_q (Rq_assign rfl) rfl ?_;refine SG_nil ?_;refine D_loop ((z.1 + 1, v120, z.2.2)) (by repeat (first | exact Sub.nil | refine Sub.cons rfl ?_)) ⟨hb0, ⟨by dsimp only; omega, by have q1 := hb14.size; have q2 := hchs18x6.size; have q3 := hbm78.size; have q4 := hbm91.size; have q5 := hbm104.size; have := hb119.size; have := hch120.size; omega, hz0, hz2⟩, by dsimp only; rw [canO_succ, if_pos hrd]; exact hO120, hB5, ⟨hs1, hs2, hs3⟩, hp, hK, hB6, hT, hF⟩ (by dsimp only; omega)
     ·intro g116
      try simp only [dd] at g116
      have hrd : rdy C x.to (z.1 : Int) = false := by rw [rdy_eq hck (y := y) (by omega) (by omega) (getO_of (by simpa using hy))]; exact Bool.eq_false_iff.2 (fun hh => by have h9 : gI x.to z.1 < 0 ∧ (y.code < 5 ∨ 0 ≤ gI x.to y.a) ∧ (y.code < 7 ∨ 0 ≤ gI x.to y.b) ∧ (¬ y.code = 17 ∨ 0 ≤ gI x.to y.c) := (by simpa [and_assoc] using hh); have h8 := g116 ⟨⟨h9.1, h9.2.1⟩, h9.2.2.1⟩; omega)
      refine W_skip ?_;refine D_block ?_;refine D_then ?_;refine W_region ?_;refine SG_q (Rq_move rfl) rfl ?_;refine SG_q (Rq_add rfl rfl (wrap_i64 (by omega) (by omega))) rfl ?_;refine SG_q (Rq_assign rfl) rfl ?_;refine SG_nil ?_;refine D_loop ((z.1 + 1, z.2.1, z.2.2)) (by repeat (first | exact Sub.nil | refine Sub.cons rfl ?_)) ⟨hb0, ⟨by dsimp only; omega, by have q1 := hb14.size; have q2 := hchs18x6.size; have q3 := hbm78.size; have q4 := hbm91.size; have q5 := hbm104.size; omega, hz0, hz2⟩, by dsimp only; rw [canO_succ, if_neg (by rw [hrd]; decide), List.append_nil]; exact hZ, hB5, ⟨hs1, hs2, hs3⟩, hp, hK, hB6, hT, hF⟩ (by dsimp only; omega)
    ·intro g65
     try simp only [dd] at g65
     have hze : z.1 = C.ops.length := by omega
     rw [hze] at hZ;have hcp := hI.can hck (by omega);refine W_exit (D_then_exit (D_loop_exit ?_));refine D_block_exit (D_then (W_seq (W_region (SG_q (Rq_move rfl) rfl (SG_q (Rq_move rfl) rfl (SG_q (Rq_move rfl) rfl ?_))))))
     first | refine SG_q (Rq_len (hs1) Try.runUnderlying27 rfl) rfl ?_ | refine SG_q (Rq_len (hs2) Try.runUnderlying27 rfl) rfl ?_ | refine SG_q (Rq_len (hs3) Try.runUnderlying27 rfl) rfl ?_ | refine SG_q (Rq_len (hp) Try.runUnderlying27 rfl) rfl ?_ | refine SG_q (Rq_len (hK.sl) Try.runUnderlying27 rfl) rfl ?_ | refine SG_q (Rq_len (hT.sl) Try.runUnderlying27 rfl) rfl ?_ | refine SG_q (Rq_len (hF.sl) Try.runUnderlying27 rfl) rfl ?_ | refine SG_q (Rq_len (hZ.sl) Try.runUnderlying27 rfl) rfl ?_
     have hm125 := tmod_bd (a := z.2.2) (n := ((canO C x.to C.ops.length).length : Int)) (by omega) (by omega);refine SG_q (Rq_rem rfl rfl (by omega) ) rfl ?_
     first | refine SG_index (hs1) Try.runUnderlying27 Try.sizeOf3 rfl rfl ?_ ?_ rfl ?_ | refine SG_index (hs2) Try.runUnderlying27 Try.sizeOf3 rfl rfl ?_ ?_ rfl ?_ | refine SG_index (hs3) Try.runUnderlying27 Try.sizeOf3 rfl rfl ?_ ?_ rfl ?_ | refine SG_index (hp) Try.runUnderlying27 Try.sizeOf3 rfl rfl ?_ ?_ rfl ?_ | refine SG_index (hK.sl) Try.runUnderlying27 Try.sizeOf3 rfl rfl ?_ ?_ rfl ?_ | refine SG_index (hT.sl) Try.runUnderlying27 Try.sizeOf3 rfl rfl ?_ ?_ rfl ?_ | refine SG_index (hF.sl) Try.runUnderlying27 Try.sizeOf3 rfl rfl ?_ ?_ rfl ?_ | refine SG_index (hZ.sl) Try.runUnderlying27 Try.sizeOf3 rfl rfl ?_ ?_ rfl ?_
     ·first | omega | (rw [hI.len]; omega) | (rw [neg_len hxi]; omega)
     ·first | omega | (rw [hI.len]; omega) | (rw [neg_len hxi]; omega)
     intro x126 hx126 hc126;refine SG_q (Rq_load Try.isAgg3 rfl ((hc126).cell 0 rfl)) rfl ?_;obtain ⟨hci0, hci1, hcr⟩ := canO_mem (List.mem_of_getElem? hx126)
     obtain ⟨y, hy⟩ : ∃ y, C.ops[x126.toNat]? = some y := ⟨_, List.getElem?_eq_getElem (by omega)⟩
     have hc17 := (opnd_iff.1 ((check_ok hck).2.2 _ _ hy)).1.2.1;have hc1 := (opnd_iff.1 ((check_ok hck).2.2 _ _ hy)).1.1;have hbx := opnd_in hck (hy);obtain ⟨⟨ya0, ya2⟩, ⟨yb0, yb2⟩, yc0, yc2⟩ := hbx;have hgy : getO C.ops x126 = y := getO_of hy;clear hZ;refine SG_q (Rq_assign rfl) rfl (SG_nil (D_then (W_seq (W_region (SG_q (Rq_fieldAddr fa29_1 rfl) rfl (SG_q (Rq_loadB (hB5) Try.isAgg26 rfl rfl) rfl (SG_q (Rq_move rfl) rfl ?_)))))))
     first | refine SG_index (hs1) Try.runUnderlying26 Try.sizeOf55 rfl rfl ?_ ?_ rfl ?_ | refine SG_index (hs2) Try.runUnderlying26 Try.sizeOf55 rfl rfl ?_ ?_ rfl ?_ | refine SG_index (hs3) Try.runUnderlying26 Try.sizeOf55 rfl rfl ?_ ?_ rfl ?_ | refine SG_index (hp) Try.runUnderlying26 Try.sizeOf55 rfl rfl ?_ ?_ rfl ?_ | refine SG_index (hK.sl) Try.runUnderlying26 Try.sizeOf55 rfl rfl ?_ ?_ rfl ?_ | refine SG_index (hT.sl) Try.runUnderlying26 Try.sizeOf55 rfl rfl ?_ ?_ rfl ?_ | refine SG_index (hF.sl) Try.runUnderlying26 Try.sizeOf55 rfl rfl ?_ ?_ rfl ?_
     ·first | omega | (rw [hI.len]; omega) | (rw [neg_len hxi]; omega)
     ·first | omega | (rw [hI.len]; omega) | (rw [neg_len hxi]; omega)
     intro x131 hx131 hc131;have ex131 := Option.some.inj ((hy).symm.trans hx131); subst ex131;refine SG_q (Rq_loadA Try.isAgg55 Try.sizeOf55 rfl ((hc131)) rfl) rfl (SG_alloc Try.zeroValue55 rfl rfl ?_);intro w16 b16 e16 hb16 hz16 hB16
     have hle16 : w.heap.size ≤ b16 := by have := hb0.size; omega
     have ne_b5_16 : ¬ b5 = b16 := by have := hB5.lt; omega
     have ne_hs1_b16 := hs1.fresh (b := b16) (by omega);have ne_hs2_b16 := hs2.fresh (b := b16) (by omega);have ne_hs3_b16 := hs3.fresh (b := b16) (by omega);have ne_hp_b16 := hp.fresh (b := b16) (by omega)
     have ne_hK_b16 : ∀ k, Value.ownBlock (.slice aK nK cK) = some k → ¬ k = b16 := fun k e => by have := hK.lt e; omega
     have ne_b6_16 : ¬ b6 = b16 := by have := hB6.lt; omega
     have ne_b16_6 : ¬ b16 = b6 := by omega
     have ne_hT_b16 : ∀ k, Value.ownBlock v7 = some k → ¬ k = b16 := fun k e => by have := hT.lt e; omega
     have ne_hF_b16 : ∀ k, Value.ownBlock x.vF = some k → ¬ k = b16 := fun k e => by have := hF.lt e; omega
     replace hb0 := btr hb0 hb16;replace hB5 := hB5.below hb16;replace hs1 := hs1.below hb16;replace hs2 := hs2.below hb16;replace hs3 := hs3.below hb16;replace hp := hp.below hb16;replace hK := hK.below hb16;replace hB6 := hB6.below hb16;replace hT := hT.below hb16;replace hF := hF.below hb16;refine SG_storeW (hB16) rfl rfl rfl rfl Try.sizeOf55 rfl rfl ?_;intro ws22x6 hchs22x6 hBs22x6;replace hb0 := bchg hb0 hchs22x6 hle16;replace hB5 := hB5.chg hchs22x6 ne_b5_16;replace hs1 := hs1.chg hchs22x6 ne_hs1_b16;replace hs2 := hs2.chg hchs22x6 ne_hs2_b16;replace hs3 := hs3.chg hchs22x6 ne_hs3_b16;replace hp := hp.chg hchs22x6 ne_hp_b16;replace hK := hK.chg hchs22x6 (fun k e e2 => by first | exact ne_hK_b16 k e e2 | (have := hK.lt e; have := ne_hK_b16; omega));replace hB6 := hB6.chg hchs22x6 ne_b6_16;replace hT := hT.chg hchs22x6 (fun k e e2 => by first | exact ne_hT_b16 k e e2 | (have := hT.lt e; have := ne_hT_b16; omega));replace hF := hF.chg hchs22x6 (fun k e e2 => by first | exact ne_hF_b16 k e e2 | (have := hF.lt e; have := ne_hF_b16; omega));clear hc126;clear hc131;clear hB16;refine SG_nil ?_;refine D_then ?_;refine W_seq ?_;refine W_seq ?_;refine W_region ?_;refine SG_q (Rq_fieldAddr fa55_0 rfl) rfl ?_;refine SG_q (Rq_loadB (hBs22x6) Try.isAgg5 rfl rfl) rfl ?_;refine SG_q (Rq_geq rfl rfl) rfl ?_;refine SG_nil ?_;refine D_then ?_;refine W_joinW (fun w9 => Chg (· = b16) ws22x6 w9 ∧ Blk w9 b16 [.int .u8 y.code, .int .i64 (if 5 ≤ y.code then gI x.to y.a else y.a), .int .i64 y.b, .int .i64 y.c, .int .i64 y.n] 55) rfl ?_ ?_ ?_
     ·intro g135 KJ135
      try simp only [dd] at g135
      refine W_region (SG_q (Rq_move rfl) rfl (SG_q (Rq_fieldAddr fa55_1 rfl) rfl (SG_q (Rq_loadB (hBs22x6) Try.isAgg3 rfl rfl) rfl ?_)))
      first | refine SG_index (hs1) Try.runUnderlying27 Try.sizeOf3 rfl rfl ?_ ?_ rfl ?_ | refine SG_index (hs2) Try.runUnderlying27 Try.sizeOf3 rfl rfl ?_ ?_ rfl ?_ | refine SG_index (hs3) Try.runUnderlying27 Try.sizeOf3 rfl rfl ?_ ?_ rfl ?_ | refine SG_index (hp) Try.runUnderlying27 Try.sizeOf3 rfl rfl ?_ ?_ rfl ?_ | refine SG_index (hK.sl) Try.runUnderlying27 Try.sizeOf3 rfl rfl ?_ ?_ rfl ?_ | refine SG_index (hT.sl) Try.runUnderlying27 Try.sizeOf3 rfl rfl ?_ ?_ rfl ?_ | refine SG_index (hF.sl) Try.runUnderlying27 Try.sizeOf3 rfl rfl ?_ ?_ rfl ?_
      ·first | omega | (rw [hI.len]; omega) | (rw [neg_len hxi]; omega)
      ·first | omega | (rw [hI.len]; omega) | (rw [neg_len hxi]; omega)
      intro x139 hx139 hc139;have ex139 := Option.some.inj (((gI_some (l := x.to) (k := y.a) (by omega) (by rw [hI.len]; omega))).symm.trans hx139); subst ex139;refine SG_q (Rq_load Try.isAgg3 rfl ((hc139).cell 0 rfl)) rfl ?_;refine SG_q (Rq_fieldAddr fa55_1 rfl) rfl ?_;refine SG_store (hBs22x6) rfl rfl rfl rfl Try.sizeOf3 rfl rfl ?_;intro ws24x6 hchs24x6 hBs24x6
      dsimp only [setAll, List.set] at hBs24x6
      replace hb0 := bchg hb0 hchs24x6 hle16;replace hK := hK.chg hchs24x6 (fun k e e2 => by first | exact ne_hK_b16 k e e2 | (have := hK.lt e; have := ne_hK_b16; omega));replace hT := hT.chg hchs24x6 (fun k e e2 => by first | exact ne_hT_b16 k e e2 | (have := hT.lt e; have := ne_hT_b16; omega));replace hF := hF.chg hchs24x6 (fun k e e2 => by first | exact ne_hF_b16 k e e2 | (have := hF.lt e; have := ne_hF_b16; omega));clear hc139;clear hBs22x6;refine SG_nil ?_;exact KJ135 _ ⟨hchs24x6, by rw [if_pos g135]; exact hBs24x6⟩ _ (by first | exact Sub.refl | exact Sub.cons rfl Sub.refl | (repeat (first | exact Sub.refl | refine Sub.shadow ?_ | refine Sub.same ?_ | refine Sub.push rfl ?_)))
     ·intro g135 KJ135
      try simp only [dd] at g135
      refine W_skip ?_;exact KJ135 _ ⟨Chg.refl _ _, by rw [if_neg (show ¬ 5 ≤ y.code from by omega)]; exact hBs22x6⟩ _ (by first | exact Sub.refl | exact Sub.cons rfl Sub.refl | (repeat (first | exact Sub.refl | refine Sub.shadow ?_ | refine Sub.same ?_ | refine Sub.push rfl ?_)))
     intro wj1 hj1;obtain ⟨hcj1, hBj1⟩ := hj1;replace hb0 := bchg hb0 hcj1 hle16;replace hB5 := hB5.chg hcj1 (by omega);replace hs1 := hs1.chg hcj1 (fun hp e => by have := hsl1 hp; omega);replace hs2 := hs2.chg hcj1 (fun hp e => by have := hsl2 hp; omega);replace hs3 := hs3.chg hcj1 (fun hp e => by have := hsl3 hp; omega);replace hp := hp.chg hcj1 (fun hq e => by have := hpl0 hq; omega);replace hK := hK.chg hcj1 (fun b hb e => by have := hKl b hb; omega);replace hB6 := hB6.chg hcj1 (by omega);replace hT := hT.chg hcj1 (fun b hb e => by have := hTl b hb; omega);replace hF := hF.chg hcj1 (fun b hb e => by have := hFl b hb; omega);clear hBs22x6;refine D_then ?_;refine W_seq ?_;refine W_seq ?_;refine W_region ?_;refine SG_q (Rq_fieldAddr fa55_0 rfl) rfl ?_;refine SG_q (Rq_loadB (hBj1) Try.isAgg5 rfl rfl) rfl ?_;refine SG_q (Rq_geq rfl rfl) rfl ?_;refine SG_nil ?_;refine D_then ?_;refine W_joinW (fun w9 => Chg (· = b16) wj1 w9 ∧ Blk w9 b16 [.int .u8 y.code, .int .i64 (if 5 ≤ y.code then gI x.to y.a else y.a), .int .i64 (if 7 ≤ y.code then gI x.to y.b else y.b), .int .i64 y.c, .int .i64 y.n] 55) rfl ?_ ?_ ?_
     ·intro g144 KJ144
      try simp only [dd] at g144
      refine W_region (SG_q (Rq_move rfl) rfl (SG_q (Rq_fieldAddr fa55_2 rfl) rfl (SG_q (Rq_loadB (hBj1) Try.isAgg3 rfl rfl) rfl ?_)))
      first | refine SG_index (hs1) Try.runUnderlying27 Try.sizeOf3 rfl rfl ?_ ?_ rfl ?_ | refine SG_index (hs2) Try.runUnderlying27 Try.sizeOf3 rfl rfl ?_ ?_ rfl ?_ | refine SG_index (hs3) Try.runUnderlying27 Try.sizeOf3 rfl rfl ?_ ?_ rfl ?_ | refine SG_index (hp) Try.runUnderlying27 Try.sizeOf3 rfl rfl ?_ ?_ rfl ?_ | refine SG_index (hK.sl) Try.runUnderlying27 Try.sizeOf3 rfl rfl ?_ ?_ rfl ?_ | refine SG_index (hT.sl) Try.runUnderlying27 Try.sizeOf3 rfl rfl ?_ ?_ rfl ?_ | refine SG_index (hF.sl) Try.runUnderlying27 Try.sizeOf3 rfl rfl ?_ ?_ rfl ?_
      ·first | omega | (rw [hI.len]; omega) | (rw [neg_len hxi]; omega)
      ·first | omega | (rw [hI.len]; omega) | (rw [neg_len hxi]; omega)
      intro x148 hx148 hc148;have ex148 := Option.some.inj (((gI_some (l := x.to) (k := y.b) (by omega) (by rw [hI.len]; omega))).symm.trans hx148); subst ex148;refine SG_q (Rq_load Try.isAgg3 rfl ((hc148).cell 0 rfl)) rfl ?_;refine SG_q (Rq_fieldAddr fa55_2 rfl) rfl ?_;refine SG_store (hBj1) rfl rfl rfl rfl Try.sizeOf3 rfl rfl ?_;intro ws26x6 hchs26x6 hBs26x6
      dsimp only [setAll, List.set] at hBs26x6
      replace hb0 := bchg hb0 hchs26x6 hle16;replace hK := hK.chg hchs26x6 (fun k e e2 => by first | exact ne_hK_b16 k e e2 | (have := hK.lt e; have := ne_hK_b16; omega));replace hT := hT.chg hchs26x6 (fun k e e2 => by first | exact ne_hT_b16 k e e2 | (have := hT.lt e; have := ne_hT_b16; omega));replace hF := hF.chg hchs26x6 (fun k e e2 => by first | exact ne_hF_b16 k e e2 | (have := hF.lt e; have := ne_hF_b16; omega));clear hc148;clear hBj1;refine SG_nil ?_;exact KJ144 _ ⟨hchs26x6, by rw [if_pos g144]; exact hBs26x6⟩ _ (by first | exact Sub.refl | exact Sub.cons rfl Sub.refl | (repeat (first | exact Sub.refl | refine Sub.shadow ?_ | refine Sub.same ?_ | refine Sub.push rfl ?_)))
     ·intro g144 KJ144
      try simp only [dd] at g144
      refine W_skip ?_;exact KJ144 _ ⟨Chg.refl _ _, by rw [if_neg (show ¬ 7 ≤ y.code from by omega)]; exact hBj1⟩ _ (by first | exact Sub.refl | exact Sub.cons rfl Sub.refl | (repeat (first | exact Sub.refl | refine Sub.shadow ?_ | refine Sub.same ?_ | refine Sub.push rfl ?_)))
     intro wj2 hj2;obtain ⟨hcj2, hBj2⟩ := hj2;replace hb0 := bchg hb0 hcj2 hle16;replace hB5 := hB5.chg hcj2 (by omega);replace hs1 := hs1.chg hcj2 (fun hp e => by have := hsl1 hp; omega);replace hs2 := hs2.chg hcj2 (fun hp e => by have := hsl2 hp; omega);replace hs3 := hs3.chg hcj2 (fun hp e => by have := hsl3 hp; omega);replace hp := hp.chg hcj2 (fun hq e => by have := hpl0 hq; omega);replace hK := hK.chg hcj2 (fun b hb e => by have := hKl b hb; omega);replace hB6 := hB6.chg hcj2 (by omega);replace hT := hT.chg hcj2 (fun b hb e => by have := hTl b hb; omega);replace hF := hF.chg hcj2 (fun b hb e => by have := hFl b hb; omega);clear hBj1;refine D_then ?_;refine W_seq ?_;refine W_seq ?_;refine W_region ?_;refine SG_q (Rq_fieldAddr fa55_0 rfl) rfl ?_;refine SG_q (Rq_loadB (hBj2) Try.isAgg5 rfl rfl) rfl ?_;refine SG_q (Rq_eql rfl rfl) rfl ?_;refine SG_nil ?_;refine D_then ?_;refine W_joinW (fun w9 => Chg (· = b16) wj2 w9 ∧ Blk w9 b16 [.int .u8 y.code, .int .i64 (if 5 ≤ y.code then gI x.to y.a else y.a), .int .i64 (if 7 ≤ y.code then gI x.to y.b else y.b), .int .i64 (if y.code = 17 then gI x.to y.c else y.c), .int .i64 y.n] 55) rfl ?_ ?_ ?_
     ·intro g153 KJ153
      try simp only [dd] at g153
      refine W_region (SG_q (Rq_move rfl) rfl (SG_q (Rq_fieldAddr fa55_3 rfl) rfl (SG_q (Rq_loadB (hBj2) Try.isAgg3 rfl rfl) rfl ?_)))
      first | refine SG_index (hs1) Try.runUnderlying27 Try.sizeOf3 rfl rfl ?_ ?_ rfl ?_ | refine SG_index (hs2) Try.runUnderlying27 Try.sizeOf3 rfl rfl ?_ ?_ rfl ?_ | refine SG_index (hs3) Try.runUnderlying27 Try.sizeOf3 rfl rfl ?_ ?_ rfl ?_ | refine SG_index (hp) Try.runUnderlying27 Try.sizeOf3 rfl rfl ?_ ?_ rfl ?_ | refine SG_index (hK.sl) Try.runUnderlying27 Try.sizeOf3 rfl rfl ?_ ?_ rfl ?_ | refine SG_index (hT.sl) Try.runUnderlying27 Try.sizeOf3 rfl rfl ?_ ?_ rfl ?_ | refine SG_index (hF.sl) Try.runUnderlying27 Try.sizeOf3 rfl rfl ?_ ?_ rfl ?_
      ·first | omega | (rw [hI.len]; omega) | (rw [neg_len hxi]; omega)
      ·first | omega | (rw [hI.len]; omega) | (rw [neg_len hxi]; omega)
      intro x157 hx157 hc157;have ex157 := Option.some.inj (((gI_some (l := x.to) (k := y.c) (by omega) (by rw [hI.len]; omega))).symm.trans hx157); subst ex157;refine SG_q (Rq_load Try.isAgg3 rfl ((hc157).cell 0 rfl)) rfl ?_;refine SG_q (Rq_fieldAddr fa55_3 rfl) rfl ?_;refine SG_store (hBj2) rfl rfl rfl rfl Try.sizeOf3 rfl rfl ?_;intro ws28x6 hchs28x6 hBs28x6
      dsimp only [setAll, List.set] at hBs28x6
      replace hb0 := bchg hb0 hchs28x6 hle16;replace hK := hK.chg hchs28x6 (fun k e e2 => by first | exact ne_hK_b16 k e e2 | (have := hK.lt e; have := ne_hK_b16; omega));replace hT := hT.chg hchs28x6 (fun k e e2 => by first | exact ne_hT_b16 k e e2 | (have := hT.lt e; have := ne_hT_b16; omega));replace hF := hF.chg hchs28x6 (fun k e e2 => by first | exact ne_hF_b16 k e e2 | (have := hF.lt e; have := ne_hF_b16; omega));clear hc157;clear hBj2;refine SG_nil ?_;exact KJ153 _ ⟨hchs28x6, by rw [if_pos g153]; exact hBs28x6⟩ _ (by first | exact Sub.refl | exact Sub.cons rfl Sub.refl | (repeat (first | exact Sub.refl | refine Sub.shadow ?_ | refine Sub.same ?_ | refine Sub.push rfl ?_)))
     ·intro g153 KJ153
      try simp only [dd] at g153
      refine W_skip ?_;exact KJ153 _ ⟨Chg.refl _ _, by rw [if_neg (show ¬ y.code = 17 from by omega)]; exact hBj2⟩ _ (by first | exact Sub.refl | exact Sub.cons rfl Sub.refl | (repeat (first | exact Sub.refl | refine Sub.shadow ?_ | refine Sub.same ?_ | refine Sub.push rfl ?_)))
     intro wj3 hj3;obtain ⟨hcj3, hBj3⟩ := hj3;replace hb0 := bchg hb0 hcj3 hle16;replace hB5 := hB5.chg hcj3 (by omega);replace hs1 := hs1.chg hcj3 (fun hp e => by have := hsl1 hp; omega);replace hs2 := hs2.chg hcj3 (fun hp e => by have := hsl2 hp; omega);replace hs3 := hs3.chg hcj3 (fun hp e => by have := hsl3 hp; omega);replace hp := hp.chg hcj3 (fun hq e => by have := hpl0 hq; omega);replace hK := hK.chg hcj3 (fun b hb e => by have := hKl b hb; omega);replace hB6 := hB6.chg hcj3 (by omega);replace hT := hT.chg hcj3 (fun b hb e => by have := hTl b hb; omega);replace hF := hF.chg hcj3 (fun b hb e => by have := hFl b hb; omega);clear hBj2;refine D_then ?_;refine W_seq ?_;refine W_seq ?_;refine W_region ?_
     have hB16 : Blk wj3 b16 (encO (at0 (gI x.to) y)) 55 := by rw [at0_ifs hc1 hc17]; exact hBj3
     clear hBj3
     have hq16 := hB16.lt; have ne_b16_6 : ¬ b16 = b6 := by omega
     have hFn : ∀ k, x.vF.ownBlock = some k → k ≠ b5 ∧ k ≠ b6 ∧ k ≠ b16 := fun k e => ⟨(hFb k e).1, (hFb k e).2, by have := hFl k e; omega⟩
     refine SG_q (Rq_move rfl) rfl (SG_q (Rq_rem rfl rfl (by omega) ) rfl (SG_q (Rq_eql rfl rfl) rfl (SG_nil (D_then ?_))));refine W_cond rfl ?_ ?_
     ·intro g162
      try simp only [dd] at g162
      obtain ⟨E, hE⟩ : ∃ E : List Ot, E = [⟨1, 0, 0, 0, z.2.2⟩] := ⟨_, rfl⟩
      have hpl := hI2.place hg (i := x126) (E := E) (by omega) (by omega) hcr (by rw [hE]; exact gOps_snoc hI2.ops (gOp_leaf (.inl ⟨rfl, by omega, by omega⟩))) (by rw [hE]; exact Nat.le_refl 1)
      have hpl2 : OI C (x.to.set x126.toNat ((x.F ++ E).length : Int)) ((x.F ++ E) ++ [at0 (gI x.to) y]) (x.lf - 1).toNat := by rw [show (x.lf - 1).toNat = lf by omega, ← hgy]; exact hpl
      have hEl : E.length = 1 := by rw [hE]; rfl
      refine W_any 5 [[], [0], [], [2], [3]] [det [] ?a30_0n8, det [0] ?a30_1n8, det [] ?a30_2n8, det [2] ?a30_3n8, frs [3] (SlR 0 5 encO [⟨1, 0, 0, 0, z.2.2⟩])] Try.mixed (by kernel_rfl) rfl ⟨det_stab _ _, det_stab _ _, det_stab _ _, det_stab _ _, SlR.stab, trivial⟩ ?_ ?_; rotate_left 4
      ·refine Obls_cons ?_ ?_
       ·intro wq hbq
        refine Obl_nil ?_
        refine Ex_q2 (Rq_fieldAddr fa29_1 rfl) ?_; first | exact rfl | rfl
       refine Obls_cons ?_ ?_
       ·intro wq hbq
        refine Obl_det rfl rfl (Obl_nil ?_)
        refine Ex_q2 (Rq_loadB ((hB6).below hbq) Try.isAgg26 rfl rfl) ?_; first | exact rfl | rfl
       refine Obls_cons ?_ ?_
       ·intro wq hbq
        refine Obl_nil ?_
        refine Ex_q2 (Rq_move rfl) ?_; first | exact rfl | rfl
       refine Obls_cons ?_ ?_
       ·intro wq hbq
        refine Obl_det rfl rfl (Obl_nil ?_)
        refine Ex_call rfl Try.call19 (fn_det2 (f19_c _ _) ?_); first | exact rfl | rfl
       refine Obls_cons ?_ ?_
       ·intro wq hbq
        refine Obl_det rfl rfl (Obl_nil ?_);exact Ex_bslice (enc := encO) (val := valO) (os := [.tmp 166]) (Nat.zero_le _) rfl rfl (MV.cons (x := (⟨1, 0, 0, 0, z.2.2⟩ : Ot)) MV.nil) (fun _ => rfl) (fun _ => rfl) Try.runUnderlying26 Try.sizeOf55 Try.zeroValue55 rfl (by decide) (by decide)
       exact Obls_nil
      ·intro wa30 hba30
       replace hb0 := btr hb0 hba30;replace hB5 := hB5.below hba30;replace hs1 := hs1.below hba30;replace hs2 := hs2.below hba30;replace hs3 := hs3.below hba30;replace hp := hp.below hba30;replace hK := hK.below hba30;replace hB6 := hB6.below hba30;replace hT := hT.below hba30;replace hF := hF.below hba30;replace hB16 := hB16.below hba30;refine Fin_det rfl (Fin_det rfl (Fin_det rfl (Fin_det rfl (Fin_frs rfl ?_)))); intro v167 lo167 hi167 hR167 hlB167 hlh167 hhw167 hdj167;refine Fin_nil ?_
       simp only [List.drop_succ_cons, List.drop_zero]
       have hS167 := hR167.1;refine SG_append (hF) (hS167) Try.underlying26 info55 rfl rfl rfl (fun _ _ => rfl) (by simp only [List.length_append, List.length_cons, List.length_nil]; omega) (by simp only [List.length_append, List.length_cons, List.length_nil]; omega) (by have q9 := hB5.lt; omega) rfl ?_;intro v168 w168 hO168 hch168 hsn168
       obtain ⟨aF, nF, cF, hvF⟩ : ∃ a n c, v168 = Value.slice a n c := by obtain ⟨a, c, h⟩ := hO168.sl.len; exact ⟨_, _, _, h⟩
       subst hvF;have hzz5 := hB5.lt; have hzz6 := hB6.lt; have hzz16 := hB16.lt
       have hFm : ∀ k, Value.ownBlock (.slice aF nF cF) = some k → k ≠ b5 ∧ k ≠ b6 ∧ k ≠ b16 := fun k e => (hsn168 k e).elim (fun e2 => hFn k e2) (fun h => ⟨by omega, by omega, by omega⟩)
       have ne_hO168_b6 : ∀ k, Value.ownBlock (.slice aF nF cF) = some k → ¬ k = b6 := fun k e => (hFm k e).2.1
       replace hb0 := hb0.trans (hch168.below hb0.size (fun k hk e => by have := (hF).lt e; omega))
       replace hB5 := (hB5.chg hch168 (fun e => (hFn _ e).1 rfl))
       replace hs1 := (hs1.chg hch168 (fun hp e => by have := hsl1 hp; have := (hF.lt e).1; omega))
       replace hs2 := (hs2.chg hch168 (fun hp e => by have := hsl2 hp; have := (hF.lt e).1; omega))
       replace hs3 := (hs3.chg hch168 (fun hp e => by have := hsl3 hp; have := (hF.lt e).1; omega))
       replace hp := (hp.chg hch168 (fun hq e => by have := hpl0 hq; have := (hF.lt e).1; omega))
       replace hK := (hK.chg hch168 (fun b hb e => OS.ne_type hK hF (by decide) b hb e))
       replace hB6 := (hB6.chg hch168 (fun e => (hFn _ e).2.1 rfl))
       replace hT := (hT.chg hch168 (fun b hb e => OS.ne_type hT hF (by decide) b hb e))
       replace hB16 := (hB16.chg hch168 (fun e => (hFn _ e).2.2 rfl))
       clear hS167;clear hF;refine SG_q (Rq_fieldAddr fa29_1 rfl) rfl (SG_store (hB6) rfl rfl rfl rfl Try.sizeOf26 rfl rfl ?_);intro ws30x7 hchs30x7 hBs30x7
       dsimp only [setAll, List.set] at hBs30x7
       replace hb0 := bchg hb0 hchs30x7 hle6;replace hB5 := hB5.chg hchs30x7 ne_b5_6;replace hs1 := hs1.chg hchs30x7 ne_hs1_b6;replace hs2 := hs2.chg hchs30x7 ne_hs2_b6;replace hs3 := hs3.chg hchs30x7 ne_hs3_b6;replace hp := hp.chg hchs30x7 ne_hp_b6;replace hK := hK.chg hchs30x7 (fun k e e2 => by first | exact ne_hK_b6 k e e2 | (have := hK.lt e; have := ne_hK_b6; omega));replace hT := hT.chg hchs30x7 (fun k e e2 => by first | exact ne_hT_b6 k e e2 | (have := hT.lt e; have := ne_hT_b6; omega));replace hB16 := hB16.chg hchs30x7 ne_b16_6;replace hO168 := hO168.chg hchs30x7 (fun k e e2 => by first | exact ne_hO168_b6 k e e2 | (have := hO168.lt e; have := ne_hO168_b6; omega));clear hB6;refine SG_nil ?_;refine D_then ?_;refine W_seq ?_;refine W_region ?_
       have hF : OS ws30x7 (.slice aF nF cF) 55 5 encO (x.F ++ E) b5 := by rw [hE]; exact hO168
       clear hO168;have hFn := hFm;have hB6 := hBs30x7;clear hBs30x7;refine SG_q (Rq_move rfl) rfl (SG_q (Rq_move rfl) rfl (SG_q (Rq_fieldAddr fa29_1 rfl) rfl (SG_q (Rq_loadB (hB6) Try.isAgg26 rfl rfl) rfl ?_)))
       first | refine SG_q (Rq_len (hs1) Try.runUnderlying26 rfl) rfl ?_ | refine SG_q (Rq_len (hs2) Try.runUnderlying26 rfl) rfl ?_ | refine SG_q (Rq_len (hs3) Try.runUnderlying26 rfl) rfl ?_ | refine SG_q (Rq_len (hp) Try.runUnderlying26 rfl) rfl ?_ | refine SG_q (Rq_len (hK.sl) Try.runUnderlying26 rfl) rfl ?_ | refine SG_q (Rq_len (hT.sl) Try.runUnderlying26 rfl) rfl ?_ | refine SG_q (Rq_len (hF.sl) Try.runUnderlying26 rfl) rfl ?_
       refine SG_q (Rq_move rfl) rfl (SG_q (Rq_sub rfl rfl (wrap_i64 (by omega) (by omega))) rfl ?_)
       first | refine SG_index (hs1) Try.runUnderlying27 Try.sizeOf3 rfl rfl ?_ ?_ rfl ?_ | refine SG_index (hs2) Try.runUnderlying27 Try.sizeOf3 rfl rfl ?_ ?_ rfl ?_ | refine SG_index (hs3) Try.runUnderlying27 Try.sizeOf3 rfl rfl ?_ ?_ rfl ?_ | refine SG_index (hp) Try.runUnderlying27 Try.sizeOf3 rfl rfl ?_ ?_ rfl ?_ | refine SG_index (hK.sl) Try.runUnderlying27 Try.sizeOf3 rfl rfl ?_ ?_ rfl ?_ | refine SG_index (hT.sl) Try.runUnderlying27 Try.sizeOf3 rfl rfl ?_ ?_ rfl ?_ | refine SG_index (hF.sl) Try.runUnderlying27 Try.sizeOf3 rfl rfl ?_ ?_ rfl ?_
       ·first | omega | (rw [hI.len]; omega) | (rw [neg_len hxi]; omega)
       ·first | omega | (rw [hI.len]; omega) | (rw [neg_len hxi]; omega)
       intro x177 hx177 hc177;refine SG_storeE (n := 1) (o := 0) (elt := x177) (elt' := ((x.F ++ E).length : Int)) hT rfl rfl rfl rfl Try.sizeOf3 rfl hx177 (Nat.le_refl 1) rfl ?_;intro ws31 hcs31 hO31;replace hb0 := hb0.trans (hcs31.below hb0.size (fun q hq e => by have := (hT.lt e).1; omega));replace hB5 := hB5.chg hcs31 (fun e => hTb5 e);replace hs1 := hs1.chg hcs31 (fun hp e => by have := hsl1 hp; have := (hT.lt e).1; omega);replace hs2 := hs2.chg hcs31 (fun hp e => by have := hsl2 hp; have := (hT.lt e).1; omega);replace hs3 := hs3.chg hcs31 (fun hp e => by have := hsl3 hp; have := (hT.lt e).1; omega);replace hp := hp.chg hcs31 (fun hq e => by have := hpl0 hq; have := (hT.lt e).1; omega);replace hK := hK.chg hcs31 (fun b hb e => OS.ne_type hK hT (by decide) b hb e);replace hB16 := hB16.chg hcs31 (fun e => by have := hTl _ e; omega);replace hF := hF.chg hcs31 (fun b hb e => OS.ne_type hF hT (by decide) b hb e);replace hB6 := hB6.chg hcs31 (fun e => hTb6 e);clear hc177;clear hT;have hT := hO31;refine SG_q (Rq_assign rfl) rfl ?_;refine SG_nil ?_;refine D_then ?_;refine W_region ?_;refine SG_q (Rq_fieldAddr fa29_1 rfl) rfl ?_;refine SG_q (Rq_loadB (hB6) Try.isAgg26 rfl rfl) rfl ?_
       first | refine SG_q (Rq_loadBW (hB16) Try.isAgg55 Try.sizeOf55 rfl rfl) rfl ?_ | refine SG_q (Rq_loadBA (hB16) Try.isAgg55 Try.sizeOf55 rfl rfl rfl) rfl ?_
       refine SG_bslice (enc := encO) (val := valO) (os := [.tmp 180]) rfl rfl (MV.cons (x := at0 (gI x.to) y) MV.nil) (fun _ => rfl) (fun _ => rfl) Try.runUnderlying26 Try.sizeOf55 Try.zeroValue55 rfl (by decide) (by decide) rfl ?_;intro w181 v181 b181 e181 hb181 hz181 hob181 hO181
       have hle181 : w.heap.size ≤ b181 := by have := hb0.size; omega
       have lt_b5_181 : b5 < b181 := by have := hB5.lt; omega
       have lt_b16_181 : b16 < b181 := by have := hB16.lt; omega
       have lt_b6_181 : b6 < b181 := by have := hB6.lt; omega
       replace hb0 := btr hb0 hb181;replace hB5 := hB5.below hb181;replace hs1 := hs1.below hb181;replace hs2 := hs2.below hb181;replace hs3 := hs3.below hb181;replace hp := hp.below hb181;replace hK := hK.below hb181;replace hT := hT.below hb181;replace hB16 := hB16.below hb181;replace hF := hF.below hb181;replace hB6 := hB6.below hb181;refine SG_append (hF) (hO181.sl) Try.underlying26 info55 rfl rfl rfl (fun _ _ => rfl) (by simp only [List.length_append, List.length_cons, List.length_nil]; omega) (by simp only [List.length_append, List.length_cons, List.length_nil]; omega) (by have q9 := hB5.lt; omega) rfl ?_;intro v182 w182 hO182 hch182 hsn182
       obtain ⟨aF, nF, cF, hvF⟩ : ∃ a n c, v182 = Value.slice a n c := by obtain ⟨a, c, h⟩ := hO182.sl.len; exact ⟨_, _, _, h⟩
       subst hvF;have hzz5 := hB5.lt; have hzz6 := hB6.lt; have hzz16 := hB16.lt
       have hFm : ∀ k, Value.ownBlock (.slice aF nF cF) = some k → k ≠ b5 ∧ k ≠ b6 ∧ k ≠ b16 := fun k e => (hsn182 k e).elim (fun e2 => hFn k e2) (fun h => ⟨by omega, by omega, by omega⟩)
       have ne_hO182_b6 : ∀ k, Value.ownBlock (.slice aF nF cF) = some k → ¬ k = b6 := fun k e => (hFm k e).2.1
       replace hb0 := hb0.trans (hch182.below hb0.size (fun k hk e => by have := (hF).lt e; omega))
       replace hB5 := (hB5.chg hch182 (fun e => (hFn _ e).1 rfl))
       replace hs1 := (hs1.chg hch182 (fun hp e => by have := hsl1 hp; have := (hF.lt e).1; omega))
       replace hs2 := (hs2.chg hch182 (fun hp e => by have := hsl2 hp; have := (hF.lt e).1; omega))
       replace hs3 := (hs3.chg hch182 (fun hp e => by have := hsl3 hp; have := (hF.lt e).1; omega))
       replace hp := (hp.chg hch182 (fun hq e => by have := hpl0 hq; have := (hF.lt e).1; omega))
       replace hK := (hK.chg hch182 (fun b hb e => OS.ne_type hK hF (by decide) b hb e))
       replace hT := (hT.chg hch182 (fun b hb e => OS.ne_type hT hF (by decide) b hb e))
       replace hB16 := (hB16.chg hch182 (fun e => (hFn _ e).2.2 rfl))
       replace hB6 := (hB6.chg hch182 (fun e => (hFn _ e).2.1 rfl))
       clear hO181;clear hF;refine SG_q (Rq_fieldAddr fa29_1 rfl) rfl (SG_store (hB6) rfl rfl rfl rfl Try.sizeOf26 rfl rfl ?_);intro ws32x6 hchs32x6 hBs32x6
       dsimp only [setAll, List.set] at hBs32x6
       replace hb0 := bchg hb0 hchs32x6 hle6;replace hB5 := hB5.chg hchs32x6 ne_b5_6;replace hs1 := hs1.chg hchs32x6 ne_hs1_b6;replace hs2 := hs2.chg hchs32x6 ne_hs2_b6;replace hs3 := hs3.chg hchs32x6 ne_hs3_b6;replace hp := hp.chg hchs32x6 ne_hp_b6;replace hK := hK.chg hchs32x6 (fun k e e2 => by first | exact ne_hK_b6 k e e2 | (have := hK.lt e; have := ne_hK_b6; omega));replace hT := hT.chg hchs32x6 (fun k e e2 => by first | exact ne_hT_b6 k e e2 | (have := hT.lt e; have := ne_hT_b6; omega));replace hO182 := hO182.chg hchs32x6 (fun k e e2 => by first | exact ne_hO182_b6 k e e2 | (have := hO182.lt e; have := ne_hO182_b6; omega));clear hB6;refine SG_nil ?_;refine D_block ?_;refine D_then ?_;refine W_region ?_;refine SG_q (Rq_move rfl) rfl ?_;refine SG_q (Rq_add rfl rfl (wrap_i64 (by omega) (by omega))) rfl ?_;refine SG_q (Rq_assign rfl) rfl ?_;refine SG_nil ?_;refine D_loop ((⟨x.n + 1, x.to.set x126.toNat ((x.F ++ E).length : Int), (x.F ++ E) ++ [at0 (gI x.to) y], x.lf - 1, .slice aF nF cF⟩ : Oy)) (by repeat (first | exact Sub.nil | refine Sub.cons rfl ?_)) ⟨hb0, ⟨hpl2, by dsimp only; omega, by dsimp only; push_cast; omega⟩, hB5, ⟨hs1, hs2, hs3⟩, hp, hK, hBs32x6, hT, hO182, fun k e => ⟨(hFm k e).1, (hFm k e).2.1⟩⟩ (by dsimp only; omega)
     ·intro g162
      try simp only [dd] at g162
      obtain ⟨E, hE⟩ : ∃ E : List Ot, E = [] := ⟨_, rfl⟩
      have hpl := hI2.place hg (i := x126) (E := E) (by omega) (by omega) hcr (by rw [hE, List.append_nil]; exact hI2.ops) (by rw [hE]; exact Nat.zero_le 1)
      have hpl2 : OI C (x.to.set x126.toNat ((x.F ++ E).length : Int)) ((x.F ++ E) ++ [at0 (gI x.to) y]) (x.lf - 1).toNat := by rw [show (x.lf - 1).toNat = lf by omega, ← hgy]; exact hpl
      have hEl : E.length = 0 := by rw [hE]; rfl
      refine W_skip (D_then (W_seq (W_region ?_)))
      replace hF : OS wj3 x.vF 55 5 encO (x.F ++ E) b5 := by rw [hE, List.append_nil]; exact hF
      refine SG_q (Rq_move rfl) rfl (SG_q (Rq_move rfl) rfl (SG_q (Rq_fieldAddr fa29_1 rfl) rfl (SG_q (Rq_loadB (hB6) Try.isAgg26 rfl rfl) rfl ?_)))
      first | refine SG_q (Rq_len (hs1) Try.runUnderlying26 rfl) rfl ?_ | refine SG_q (Rq_len (hs2) Try.runUnderlying26 rfl) rfl ?_ | refine SG_q (Rq_len (hs3) Try.runUnderlying26 rfl) rfl ?_ | refine SG_q (Rq_len (hp) Try.runUnderlying26 rfl) rfl ?_ | refine SG_q (Rq_len (hK.sl) Try.runUnderlying26 rfl) rfl ?_ | refine SG_q (Rq_len (hT.sl) Try.runUnderlying26 rfl) rfl ?_ | refine SG_q (Rq_len (hF.sl) Try.runUnderlying26 rfl) rfl ?_
      refine SG_q (Rq_move rfl) rfl (SG_q (Rq_sub rfl rfl (wrap_i64 (by omega) (by omega))) rfl ?_)
      first | refine SG_index (hs1) Try.runUnderlying27 Try.sizeOf3 rfl rfl ?_ ?_ rfl ?_ | refine SG_index (hs2) Try.runUnderlying27 Try.sizeOf3 rfl rfl ?_ ?_ rfl ?_ | refine SG_index (hs3) Try.runUnderlying27 Try.sizeOf3 rfl rfl ?_ ?_ rfl ?_ | refine SG_index (hp) Try.runUnderlying27 Try.sizeOf3 rfl rfl ?_ ?_ rfl ?_ | refine SG_index (hK.sl) Try.runUnderlying27 Try.sizeOf3 rfl rfl ?_ ?_ rfl ?_ | refine SG_index (hT.sl) Try.runUnderlying27 Try.sizeOf3 rfl rfl ?_ ?_ rfl ?_ | refine SG_index (hF.sl) Try.runUnderlying27 Try.sizeOf3 rfl rfl ?_ ?_ rfl ?_
      ·first | omega | (rw [hI.len]; omega) | (rw [neg_len hxi]; omega)
      ·first | omega | (rw [hI.len]; omega) | (rw [neg_len hxi]; omega)
      intro x177 hx177 hc177;refine SG_storeE (n := 1) (o := 0) (elt := x177) (elt' := ((x.F ++ E).length : Int)) hT rfl rfl rfl rfl Try.sizeOf3 rfl hx177 (Nat.le_refl 1) rfl ?_;intro ws31 hcs31 hO31;replace hb0 := hb0.trans (hcs31.below hb0.size (fun q hq e => by have := (hT.lt e).1; omega));replace hB5 := hB5.chg hcs31 (fun e => hTb5 e);replace hs1 := hs1.chg hcs31 (fun hp e => by have := hsl1 hp; have := (hT.lt e).1; omega);replace hs2 := hs2.chg hcs31 (fun hp e => by have := hsl2 hp; have := (hT.lt e).1; omega);replace hs3 := hs3.chg hcs31 (fun hp e => by have := hsl3 hp; have := (hT.lt e).1; omega);replace hp := hp.chg hcs31 (fun hq e => by have := hpl0 hq; have := (hT.lt e).1; omega);replace hK := hK.chg hcs31 (fun b hb e => OS.ne_type hK hT (by decide) b hb e);replace hB6 := hB6.chg hcs31 (fun e => hTb6 e);replace hF := hF.chg hcs31 (fun b hb e => OS.ne_type hF hT (by decide) b hb e);replace hB16 := hB16.chg hcs31 (fun e => by have := hTl _ e; omega);clear hc177;clear hT;have hT := hO31;refine SG_q (Rq_assign rfl) rfl ?_;refine SG_nil ?_;refine D_then ?_;refine W_region ?_;refine SG_q (Rq_fieldAddr fa29_1 rfl) rfl ?_;refine SG_q (Rq_loadB (hB6) Try.isAgg26 rfl rfl) rfl ?_
      first | refine SG_q (Rq_loadBW (hB16) Try.isAgg55 Try.sizeOf55 rfl rfl) rfl ?_ | refine SG_q (Rq_loadBA (hB16) Try.isAgg55 Try.sizeOf55 rfl rfl rfl) rfl ?_
      refine SG_bslice (enc := encO) (val := valO) (os := [.tmp 180]) rfl rfl (MV.cons (x := at0 (gI x.to) y) MV.nil) (fun _ => rfl) (fun _ => rfl) Try.runUnderlying26 Try.sizeOf55 Try.zeroValue55 rfl (by decide) (by decide) rfl ?_;intro w181 v181 b181 e181 hb181 hz181 hob181 hO181
      have hle181 : w.heap.size ≤ b181 := by have := hb0.size; omega
      have lt_b5_181 : b5 < b181 := by have := hB5.lt; omega
      have lt_b6_181 : b6 < b181 := by have := hB6.lt; omega
      have lt_b16_181 : b16 < b181 := by have := hB16.lt; omega
      replace hb0 := btr hb0 hb181;replace hB5 := hB5.below hb181;replace hs1 := hs1.below hb181;replace hs2 := hs2.below hb181;replace hs3 := hs3.below hb181;replace hp := hp.below hb181;replace hK := hK.below hb181;replace hB6 := hB6.below hb181;replace hT := hT.below hb181;replace hF := hF.below hb181;replace hB16 := hB16.below hb181;refine SG_append (hF) (hO181.sl) Try.underlying26 info55 rfl rfl rfl (fun _ _ => rfl) (by simp only [List.length_append, List.length_cons, List.length_nil]; omega) (by simp only [List.length_append, List.length_cons, List.length_nil]; omega) (by have q9 := hB5.lt; omega) rfl ?_;intro v182 w182 hO182 hch182 hsn182
      obtain ⟨aF, nF, cF, hvF⟩ : ∃ a n c, v182 = Value.slice a n c := by obtain ⟨a, c, h⟩ := hO182.sl.len; exact ⟨_, _, _, h⟩
      subst hvF;have hzz5 := hB5.lt; have hzz6 := hB6.lt; have hzz16 := hB16.lt
      have hFm : ∀ k, Value.ownBlock (.slice aF nF cF) = some k → k ≠ b5 ∧ k ≠ b6 ∧ k ≠ b16 := fun k e => (hsn182 k e).elim (fun e2 => hFn k e2) (fun h => ⟨by omega, by omega, by omega⟩)
      have ne_hO182_b6 : ∀ k, Value.ownBlock (.slice aF nF cF) = some k → ¬ k = b6 := fun k e => (hFm k e).2.1
      replace hb0 := hb0.trans (hch182.below hb0.size (fun k hk e => by have := (hF).lt e; omega))
      replace hB5 := (hB5.chg hch182 (fun e => (hFn _ e).1 rfl))
      replace hs1 := (hs1.chg hch182 (fun hp e => by have := hsl1 hp; have := (hF.lt e).1; omega))
      replace hs2 := (hs2.chg hch182 (fun hp e => by have := hsl2 hp; have := (hF.lt e).1; omega))
      replace hs3 := (hs3.chg hch182 (fun hp e => by have := hsl3 hp; have := (hF.lt e).1; omega))
      replace hp := (hp.chg hch182 (fun hq e => by have := hpl0 hq; have := (hF.lt e).1; omega))
      replace hK := (hK.chg hch182 (fun b hb e => OS.ne_type hK hF (by decide) b hb e))
      replace hB6 := (hB6.chg hch182 (fun e => (hFn _ e).2.1 rfl))
      replace hT := (hT.chg hch182 (fun b hb e => OS.ne_type hT hF (by decide) b hb e))
      replace hB16 := (hB16.chg hch182 (fun e => (hFn _ e).2.2 rfl))
      clear hO181;clear hF;refine SG_q (Rq_fieldAddr fa29_1 rfl) rfl (SG_store (hB6) rfl rfl rfl rfl Try.sizeOf26 rfl rfl ?_);intro ws32x6 hchs32x6 hBs32x6
      dsimp only [setAll, List.set] at hBs32x6
      replace hb0 := bchg hb0 hchs32x6 hle6;replace hB5 := hB5.chg hchs32x6 ne_b5_6;replace hs1 := hs1.chg hchs32x6 ne_hs1_b6;replace hs2 := hs2.chg hchs32x6 ne_hs2_b6;replace hs3 := hs3.chg hchs32x6 ne_hs3_b6;replace hp := hp.chg hchs32x6 ne_hp_b6;replace hK := hK.chg hchs32x6 (fun k e e2 => by first | exact ne_hK_b6 k e e2 | (have := hK.lt e; have := ne_hK_b6; omega));replace hT := hT.chg hchs32x6 (fun k e e2 => by first | exact ne_hT_b6 k e e2 | (have := hT.lt e; have := ne_hT_b6; omega));replace hO182 := hO182.chg hchs32x6 (fun k e e2 => by first | exact ne_hO182_b6 k e e2 | (have := hO182.lt e; have := ne_hO182_b6; omega));clear hB6;refine SG_nil ?_;refine D_block ?_;refine D_then ?_;refine W_region ?_;refine SG_q (Rq_move rfl) rfl ?_;refine SG_q (Rq_add rfl rfl (wrap_i64 (by omega) (by omega))) rfl ?_;refine SG_q (Rq_assign rfl) rfl ?_;refine SG_nil ?_;refine D_loop ((⟨x.n + 1, x.to.set x126.toNat ((x.F ++ E).length : Int), (x.F ++ E) ++ [at0 (gI x.to) y], x.lf - 1, .slice aF nF cF⟩ : Oy)) (by repeat (first | exact Sub.nil | refine Sub.cons rfl ?_)) ⟨hb0, ⟨hpl2, by dsimp only; omega, by dsimp only; push_cast; omega⟩, hB5, ⟨hs1, hs2, hs3⟩, hp, hK, hBs32x6, hT, hO182, fun k e => ⟨(hFm k e).1, (hFm k e).2.1⟩⟩ (by dsimp only; omega)
   ·intro g46
    try simp only [dd] at g46
    have hI0 : OI C x.to x.F 0 := by rw [show (0 : Nat) = x.lf.toNat by omega]; exact hI
    obtain ⟨hck2, hiso⟩ := hI0.iso hg;have htd := tidy_iso hck hck2 hiso;have hFl2 := hI0.few;have htc := (check_ok (tidyR_check hck)).1;refine W_exit (D_then_exit (D_loop_exit ?_));refine D_block_exit (D_then (W_seq (W_seq (W_region (SG_q (Rq_assign rfl) rfl (SG_nil (D_then (W_block ?_))))))));refine W_loop (α := Nat × Value) (fun y => [(17, .int .i64 (y.1 : Nat)), (7, v7), (5, .pointer (some ⟨b5, 0, none⟩)), (6, .pointer (some ⟨b6, 0, none⟩))]) (fun y w' => Below w.heap.size w w' ∧ y.1 ≤ C.roots.length ∧ Blk w' b5 [.slice sa1 sn1 sc1, .slice sa2 sn2 sc2, .slice sa3 sn3 sc3] 29 ∧ (SL w' (.slice sa1 sn1 sc1) 3 encC C.ch ∧ SL w' (.slice sa2 sn2 sc2) 5 encO C.ops ∧ SL w' (.slice sa3 sn3 sc3) 1 encI C.roots) ∧ SL w' vp 1 encU ps ∧ OS w' (.slice aK nK cK) 59 3 encC C.ch b5 ∧ (Blk w' b6 [.slice aK nK cK, x.vF, y.2] 29) ∧ OS w' v7 3 1 encI (x.to) b5 ∧ OS w' x.vF 55 5 encO (x.F) b5 ∧ OS w' y.2 3 1 encI ((C.roots.take y.1).map (gI x.to)) b5 ∧ (∀ k, y.2.ownBlock = some k → k ≠ b5 ∧ k ≠ b6 ∧ v7.ownBlock ≠ some k)) (fun y => C.roots.length - y.1) ((0, .slice none 0 0)) (by repeat (first | exact Sub.nil | refine Sub.cons rfl ?_)) ⟨hb0, Nat.zero_le _, hB5, ⟨hs1, hs2, hs3⟩, hp, hK, hB6, hT, hF, OS.nil (fun _ => rfl) (by decide), fun k e => by cases e⟩ ?_;clear hb0;clear hB5;clear hs1;clear hs2;clear hs3;clear hp;clear hK;clear hB6;clear hT;clear hF;rintro y wl3 ⟨hb0, hyi, hB5, ⟨hs1, hs2, hs3⟩, hp, hK, hB6, hT, hF, hR, hRb⟩
    have ne_hF_b6 : ∀ k, x.vF.ownBlock = some k → ¬ k = b6 := fun k e => (hFb k e).2
    have ne_hK_b6 : ∀ k, Value.ownBlock (.slice aK nK cK) = some k → ¬ k = b6 := hKb6
    have ne_hT_b6 : ∀ k, v7.ownBlock = some k → ¬ k = b6 := fun k e e2 => hTc6 (e2 ▸ e)
    have ne_b5_6 : ¬ b5 = b6 := hb56
    have ne_hs1_b6 : 0 < C.ch.length → ¬ sb (.slice sa1 sn1 sc1) = b6 := fun hp e => by have := hsl1 hp; omega
    have ne_hs2_b6 : 0 < C.ops.length → ¬ sb (.slice sa2 sn2 sc2) = b6 := fun hp e => by have := hsl2 hp; omega
    have ne_hs3_b6 : 0 < C.roots.length → ¬ sb (.slice sa3 sn3 sc3) = b6 := fun hp e => by have := hsl3 hp; omega
    have ne_hp_b6 : 0 < ps.length → ¬ sb vp = b6 := fun hq e => by have := hpl0 hq; omega
    refine W_seq (W_seq (W_region (SG_q (Rq_move rfl) rfl (SG_q (Rq_fieldAddr fa29_2 rfl) rfl (SG_q (Rq_loadB (hB5) Try.isAgg27 rfl rfl) rfl ?_)))))
    first | refine SG_q (Rq_len (hs1) Try.runUnderlying27 rfl) rfl ?_ | refine SG_q (Rq_len (hs2) Try.runUnderlying27 rfl) rfl ?_ | refine SG_q (Rq_len (hs3) Try.runUnderlying27 rfl) rfl ?_ | refine SG_q (Rq_len (hp) Try.runUnderlying27 rfl) rfl ?_ | refine SG_q (Rq_len (hK.sl) Try.runUnderlying27 rfl) rfl ?_ | refine SG_q (Rq_len (hT.sl) Try.runUnderlying27 rfl) rfl ?_ | refine SG_q (Rq_len (hF.sl) Try.runUnderlying27 rfl) rfl ?_ | refine SG_q (Rq_len (hR.sl) Try.runUnderlying27 rfl) rfl ?_
    refine SG_q (Rq_lss rfl rfl) rfl (SG_nil (D_then ?_));refine W_cond rfl ?_ ?_
    ·intro g188
     try simp only [dd] at g188
     obtain ⟨m, hm⟩ : ∃ m, C.roots[y.1]? = some m := ⟨_, List.getElem?_eq_getElem (show y.1 < C.roots.length by omega)⟩
     have hmr := hg.rt m (List.mem_of_getElem? hm)
     have hrl8 : (List.map (gI x.to) (List.take y.1 C.roots)).length ≤ 3 := by rw [List.length_map, List.length_take]; omega
     have hgm := gI_some (l := x.to) (k := m) hmr.1 (by rw [hI0.len]; exact hmr.2);refine W_skip ?_;refine D_then ?_;refine W_seq ?_;refine W_block ?_;refine W_any 11 [[], [0], [], [], [3], [], [4, 5], [6], [2, 7], [8], [9]] [det [] ?a36_0n9, det [0] ?a36_1n9, det [] ?a36_2n9, det [] ?a36_3n9, det [3] ?a36_4n9, det [] ?a36_5n9, det [4, 5] ?a36_6n9, det [6] ?a36_7n9, det [2, 7] ?a36_8n9, det [8] ?a36_9n9, frs [9] (SlR 0 1 encI [gI x.to m])] Try.mixed (by kernel_rfl) rfl ⟨det_stab _ _, det_stab _ _, det_stab _ _, det_stab _ _, det_stab _ _, det_stab _ _, det_stab _ _, det_stab _ _, det_stab _ _, det_stab _ _, SlR.stab, trivial⟩ ?_ ?_; rotate_left 10
     ·refine Obls_cons ?_ ?_
      ·intro wq hbq
       refine Obl_nil ?_
       refine Ex_q2 (Rq_fieldAddr fa29_2 rfl) ?_; first | exact rfl | rfl
      refine Obls_cons ?_ ?_
      ·intro wq hbq
       refine Obl_det rfl rfl (Obl_nil ?_)
       refine Ex_q2 (Rq_loadB ((hB6).below hbq) Try.isAgg27 rfl rfl) ?_; first | exact rfl | rfl
      refine Obls_cons ?_ ?_
      ·intro wq hbq
       refine Obl_nil ?_
       refine Ex_q2 (Rq_move rfl) ?_; first | exact rfl | rfl
      refine Obls_cons ?_ ?_
      ·intro wq hbq
       refine Obl_nil ?_
       refine Ex_q2 (Rq_fieldAddr fa29_2 rfl) ?_; first | exact rfl | rfl
      refine Obls_cons ?_ ?_
      ·intro wq hbq
       refine Obl_det rfl rfl (Obl_nil ?_)
       refine Ex_q2 (Rq_loadB ((hB5).below hbq) Try.isAgg27 rfl rfl) ?_; first | exact rfl | rfl
      refine Obls_cons ?_ ?_
      ·intro wq hbq
       refine Obl_nil ?_
       refine Ex_q2 (Rq_move rfl) ?_; first | exact rfl | rfl
      refine Obls_cons ?_ ?_
      ·intro wq hbq
       refine Obl_det rfl rfl (Obl_det rfl rfl (Obl_nil ?_))
       refine Ex_q2 (Rq_index (hs3.below hbq) Try.runUnderlying27 Try.sizeOf3 rfl rfl (by omega) (by omega)) ?_; first | exact rfl | rfl
      refine Obls_cons ?_ ?_
      ·intro wq hbq
       refine Obl_det rfl rfl (Obl_nil ?_)
       refine Ex_q2 (Rq_load Try.isAgg3 rfl (((hs3.cells _ _ hm).below hbq).cell 0 rfl)) ?_; first | exact rfl | rfl
      refine Obls_cons ?_ ?_
      ·intro wq hbq
       refine Obl_det rfl rfl (Obl_det rfl rfl (Obl_nil ?_))
       refine Ex_q2 (Rq_index (hT.sl.below hbq) Try.runUnderlying27 Try.sizeOf3 rfl rfl (by omega) (by rw [hI0.len]; omega)) ?_; first | exact rfl | rfl
      refine Obls_cons ?_ ?_
      ·intro wq hbq
       refine Obl_det rfl rfl (Obl_nil ?_)
       refine Ex_q2 (Rq_load Try.isAgg3 rfl (((hT.sl.cells _ _ hgm).below hbq).cell 0 rfl)) ?_; first | exact rfl | rfl
      refine Obls_cons ?_ ?_
      ·intro wq hbq
       refine Obl_det rfl rfl (Obl_nil ?_);exact Ex_bslice (enc := encI) (val := valI) (os := [.tmp 200]) (Nat.zero_le _) rfl rfl (MV.cons (x := gI x.to m) MV.nil) (fun _ => rfl) (fun _ => rfl) Try.runUnderlying27 Try.sizeOf3 Try.zeroValue3 rfl (by decide) (by decide)
      exact Obls_nil
     ·intro wa36 hba36
      replace hb0 := btr hb0 hba36;replace hB5 := hB5.below hba36;replace hs1 := hs1.below hba36;replace hs2 := hs2.below hba36;replace hs3 := hs3.below hba36;replace hp := hp.below hba36;replace hK := hK.below hba36;replace hB6 := hB6.below hba36;replace hT := hT.below hba36;replace hF := hF.below hba36;replace hR := hR.below hba36;refine Fin_det rfl (Fin_det rfl (Fin_det rfl (Fin_det rfl (Fin_det rfl (Fin_det rfl (Fin_det rfl (Fin_det rfl (Fin_det rfl (Fin_det rfl (Fin_frs rfl ?_)))))))))); intro v201 lo201 hi201 hR201 hlB201 hlh201 hhw201 hdj201;refine Fin_nil ?_
      simp only [List.drop_succ_cons, List.drop_zero]
      have hS201 := hR201.1;refine SG_append (hR) (hS201) Try.underlying27 info3 rfl rfl rfl (fun _ _ => rfl) (by simp only [List.length_append, List.length_cons, List.length_nil]; omega) (by simp only [List.length_append, List.length_cons, List.length_nil]; omega) (by have q9 := hB5.lt; omega) rfl ?_;intro v202 w202 hO202 hch202 hsn202
      obtain ⟨aR, nR, cR, hvR⟩ : ∃ a n c, v202 = Value.slice a n c := by obtain ⟨a, c, h⟩ := hO202.sl.len; exact ⟨_, _, _, h⟩
      subst hvR
      have hzz5 := hB5.lt; have hzz6 := hB6.lt; have hzt := fun (k : Nat) (e : v7.ownBlock = some k) => (hT.lt e).2
      have hRm : ∀ k, Value.ownBlock (.slice aR nR cR) = some k → k ≠ b5 ∧ k ≠ b6 ∧ v7.ownBlock ≠ some k := fun k e => (hsn202 k e).elim (fun e2 => hRb k e2) (fun h => ⟨by omega, by omega, fun e3 => by have := hzt k e3; omega⟩)
      have ne_hO202_b6 : ∀ k, Value.ownBlock (.slice aR nR cR) = some k → ¬ k = b6 := fun k e => (hRm k e).2.1
      replace hb0 := hb0.trans (hch202.below hb0.size (fun k hk e => by have := (hR).lt e; omega))
      replace hB5 := (hB5.chg hch202 (fun e => (hRb _ e).1 rfl))
      replace hs1 := (hs1.chg hch202 (fun hp e => by have := hsl1 hp; have := (hR.lt e).1; omega))
      replace hs2 := (hs2.chg hch202 (fun hp e => by have := hsl2 hp; have := (hR.lt e).1; omega))
      replace hs3 := (hs3.chg hch202 (fun hp e => by have := hsl3 hp; have := (hR.lt e).1; omega))
      replace hp := (hp.chg hch202 (fun hq e => by have := hpl0 hq; have := (hR.lt e).1; omega))
      replace hK := (hK.chg hch202 (fun b hb e => OS.ne_type hK hR (by decide) b hb e))
      replace hB6 := (hB6.chg hch202 (fun e => (hRb _ e).2.1 rfl))
      replace hT := (hT.chg hch202 (fun b hb e => (hRb b e).2.2 hb))
      replace hF := (hF.chg hch202 (fun b hb e => OS.ne_type hF hR (by decide) b hb e))
      clear hS201;clear hR;refine SG_q (Rq_fieldAddr fa29_2 rfl) rfl (SG_store (hB6) rfl rfl rfl rfl Try.sizeOf27 rfl rfl ?_);intro ws36x13 hchs36x13 hBs36x13
      dsimp only [setAll, List.set] at hBs36x13
      replace hb0 := bchg hb0 hchs36x13 hle6;replace hB5 := hB5.chg hchs36x13 ne_b5_6;replace hs1 := hs1.chg hchs36x13 ne_hs1_b6;replace hs2 := hs2.chg hchs36x13 ne_hs2_b6;replace hs3 := hs3.chg hchs36x13 ne_hs3_b6;replace hp := hp.chg hchs36x13 ne_hp_b6;replace hK := hK.chg hchs36x13 (fun k e e2 => by first | exact ne_hK_b6 k e e2 | (have := hK.lt e; have := ne_hK_b6; omega));replace hT := hT.chg hchs36x13 (fun k e e2 => by first | exact ne_hT_b6 k e e2 | (have := hT.lt e; have := ne_hT_b6; omega));replace hF := hF.chg hchs36x13 (fun k e e2 => by first | exact ne_hF_b6 k e e2 | (have := hF.lt e; have := ne_hF_b6; omega));replace hO202 := hO202.chg hchs36x13 (fun k e e2 => by first | exact ne_hO202_b6 k e e2 | (have := hO202.lt e; have := ne_hO202_b6; omega));clear hB6;refine SG_nil ?_;refine D_block ?_;refine D_then ?_;refine W_region ?_;refine SG_q (Rq_move rfl) rfl ?_;refine SG_q (Rq_add rfl rfl (wrap_i64 (by omega) (by omega))) rfl ?_;refine SG_q (Rq_assign rfl) rfl ?_;refine SG_nil ?_;refine D_loop ((y.1 + 1, Value.slice aR nR cR)) (by repeat (first | exact Sub.nil | refine Sub.cons rfl ?_)) ⟨hb0, by dsimp only; omega, hB5, ⟨hs1, hs2, hs3⟩, hp, hK, hBs36x13, hT, hF, by dsimp only; rw [take_succ_get hm, List.map_append]; exact hO202, hRm⟩ (by dsimp only; omega)
    ·intro g188
     try simp only [dd] at g188
     rw [List.take_of_length_le (show C.roots.length ≤ y.1 by omega)] at hR;refine W_exit (D_then_exit (D_loop_exit ?_));refine D_block_exit (D_then (W_seq (W_region ?_)))
     first | refine SG_q (Rq_loadBW (hB5) Try.isAgg29 Try.sizeOf29 rfl rfl) rfl ?_ | refine SG_q (Rq_loadBA (hB5) Try.isAgg29 Try.sizeOf29 rfl rfl rfl) rfl ?_
     refine SG_call rfl Try.call8 rfl (f8_c (⟨⟨_, _, _, rfl, (hs1), (hs2), (hs3)⟩⟩ : CoS _ _ C) p1 p2 p3) ?_;rintro v206 w206 hb206 ⟨ta1, tn1, tc1, ta2, tn2, tc2, ta3, tn3, tc3, rfl, ht1, ht2, ht3⟩;replace hb0 := btr hb0 hb206;replace hB5 := hB5.below hb206;replace hK := hK.below hb206;replace hB6 := hB6.below hb206;replace hT := hT.below hb206;replace hF := hF.below hb206;replace hR := hR.below hb206;replace ht1 := ht1.sl;replace ht2 := ht2.sl;replace ht3 := ht3.sl;refine SG_call rfl Try.call16 rfl (f16_c (C := C) (ht1) (ht2) (ht3) p1 p2 p3) ?_;rintro v207 w207 hb207 ⟨u207, rfl, hCV207⟩;replace hb0 := btr hb0 hb207;replace hB5 := hB5.below hb207;replace hK := hK.below hb207;replace hB6 := hB6.below hb207;replace hT := hT.below hb207;replace hF := hF.below hb207;replace hR := hR.below hb207;obtain ⟨qaC, qaO, qaR, rfl, ⟨ha1, ha2, ha3⟩, _⟩ := hCV207.ex;rw [if_pos hck] at ha1 ha2 ha3
     obtain ⟨a_qaC, n_qaC, c_qaC, h_qaC⟩ : ∃ a n c, qaC = Value.slice a n c := by obtain ⟨a, c, h⟩ := (ha1).len; exact ⟨_, _, _, h⟩
     subst h_qaC
     obtain ⟨a_qaO, n_qaO, c_qaO, h_qaO⟩ : ∃ a n c, qaO = Value.slice a n c := by obtain ⟨a, c, h⟩ := (ha2).len; exact ⟨_, _, _, h⟩
     subst h_qaO
     obtain ⟨a_qaR, n_qaR, c_qaR, h_qaR⟩ : ∃ a n c, qaR = Value.slice a n c := by obtain ⟨a, c, h⟩ := (ha3).len; exact ⟨_, _, _, h⟩
     subst h_qaR;refine SG_q (Rq_move rfl) rfl (SG_q (Rq_extract rfl rfl) rfl (SG_q (Rq_extract rfl rfl) rfl (SG_alloc Try.zeroValue29 rfl rfl ?_)));intro w18 b18 e18 hb18 hz18 hB18
     have hle18 : w.heap.size ≤ b18 := by have := hb0.size; omega
     have ne_b5_18 : ¬ b5 = b18 := by have := hB5.lt; omega
     have ne_hK_b18 : ∀ k, Value.ownBlock (.slice aK nK cK) = some k → ¬ k = b18 := fun k e => by have := hK.lt e; omega
     have ne_b6_18 : ¬ b6 = b18 := by have := hB6.lt; omega
     have ne_hT_b18 : ∀ k, Value.ownBlock v7 = some k → ¬ k = b18 := fun k e => by have := hT.lt e; omega
     have ne_hF_b18 : ∀ k, Value.ownBlock x.vF = some k → ¬ k = b18 := fun k e => by have := hF.lt e; omega
     have ne_hR_b18 : ∀ k, Value.ownBlock y.2 = some k → ¬ k = b18 := fun k e => by have := hR.lt e; omega
     have ne_ha1_b18 := ha1.fresh (b := b18) (by omega);have ne_ha2_b18 := ha2.fresh (b := b18) (by omega);have ne_ha3_b18 := ha3.fresh (b := b18) (by omega);replace hb0 := btr hb0 hb18;replace hB5 := hB5.below hb18;replace hK := hK.below hb18;replace hB6 := hB6.below hb18;replace hT := hT.below hb18;replace hF := hF.below hb18;replace hR := hR.below hb18;replace ha1 := ha1.below hb18;replace ha2 := ha2.below hb18;replace ha3 := ha3.below hb18;refine SG_storeW (hB18) rfl rfl rfl rfl Try.sizeOf29 rfl rfl ?_;intro ws37x7 hchs37x7 hBs37x7;replace hb0 := bchg hb0 hchs37x7 hle18;replace hB5 := hB5.chg hchs37x7 ne_b5_18;replace hK := hK.chg hchs37x7 (fun k e e2 => by first | exact ne_hK_b18 k e e2 | (have := hK.lt e; have := ne_hK_b18; omega));replace hB6 := hB6.chg hchs37x7 ne_b6_18;replace hT := hT.chg hchs37x7 (fun k e e2 => by first | exact ne_hT_b18 k e e2 | (have := hT.lt e; have := ne_hT_b18; omega));replace hF := hF.chg hchs37x7 (fun k e e2 => by first | exact ne_hF_b18 k e e2 | (have := hF.lt e; have := ne_hF_b18; omega));replace hR := hR.chg hchs37x7 (fun k e e2 => by first | exact ne_hR_b18 k e e2 | (have := hR.lt e; have := ne_hR_b18; omega));replace ha1 := ha1.chg hchs37x7 ne_ha1_b18;replace ha2 := ha2.chg hchs37x7 ne_ha2_b18;replace ha3 := ha3.chg hchs37x7 ne_ha3_b18;clear hB18;refine SG_q (Rq_assign rfl) rfl ?_;refine SG_nil ?_;refine D_then ?_;refine W_seq ?_;refine W_region ?_
     first | refine SG_q (Rq_loadBW (hB6) Try.isAgg29 Try.sizeOf29 rfl rfl) rfl ?_ | refine SG_q (Rq_loadBA (hB6) Try.isAgg29 Try.sizeOf29 rfl rfl rfl) rfl ?_
     refine SG_call rfl Try.call16 rfl (f16_c (C := ⟨C.ch, x.F, C.roots.map (gI x.to)⟩) (hK.sl) (hF.sl) (hR.sl) p1 (by dsimp only; omega) (by dsimp only; rw [List.length_map]; exact p3)) ?_;rintro v212 w212 hb212 ⟨u212, rfl, hCV212⟩;replace hb0 := btr hb0 hb212;replace hB5 := hB5.below hb212;replace hK := hK.below hb212;replace hB6 := hB6.below hb212;replace hT := hT.below hb212;replace hF := hF.below hb212;replace hR := hR.below hb212;replace ha1 := ha1.below hb212;replace ha2 := ha2.below hb212;replace ha3 := ha3.below hb212;replace hBs37x7 := hBs37x7.below hb212;obtain ⟨qbC, qbO, qbR, rfl, ⟨hb1, hb2, hb3⟩, _⟩ := hCV212.ex;rw [if_pos hck2] at hb1 hb2 hb3
     obtain ⟨a_qbC, n_qbC, c_qbC, h_qbC⟩ : ∃ a n c, qbC = Value.slice a n c := by obtain ⟨a, c, h⟩ := (hb1).len; exact ⟨_, _, _, h⟩
     subst h_qbC
     obtain ⟨a_qbO, n_qbO, c_qbO, h_qbO⟩ : ∃ a n c, qbO = Value.slice a n c := by obtain ⟨a, c, h⟩ := (hb2).len; exact ⟨_, _, _, h⟩
     subst h_qbO
     obtain ⟨a_qbR, n_qbR, c_qbR, h_qbR⟩ : ∃ a n c, qbR = Value.slice a n c := by obtain ⟨a, c, h⟩ := (hb3).len; exact ⟨_, _, _, h⟩
     subst h_qbR;refine SG_q (Rq_move rfl) rfl (SG_q (Rq_extract rfl rfl) rfl (SG_q (Rq_extract rfl rfl) rfl (SG_alloc Try.zeroValue29 rfl rfl ?_)));intro w20 b20 e20 hb20 hz20 hB20
     have hle20 : w.heap.size ≤ b20 := by have := hb0.size; omega
     have ne_b5_20 : ¬ b5 = b20 := by have := hB5.lt; omega
     have ne_hK_b20 : ∀ k, Value.ownBlock (.slice aK nK cK) = some k → ¬ k = b20 := fun k e => by have := hK.lt e; omega
     have ne_b6_20 : ¬ b6 = b20 := by have := hB6.lt; omega
     have ne_hT_b20 : ∀ k, Value.ownBlock v7 = some k → ¬ k = b20 := fun k e => by have := hT.lt e; omega
     have ne_hF_b20 : ∀ k, Value.ownBlock x.vF = some k → ¬ k = b20 := fun k e => by have := hF.lt e; omega
     have ne_hR_b20 : ∀ k, Value.ownBlock y.2 = some k → ¬ k = b20 := fun k e => by have := hR.lt e; omega
     have ne_ha1_b20 := ha1.fresh (b := b20) (by omega);have ne_ha2_b20 := ha2.fresh (b := b20) (by omega);have ne_ha3_b20 := ha3.fresh (b := b20) (by omega)
     have ne_b18_20 : ¬ b18 = b20 := by have := hBs37x7.lt; omega
     have ne_hb1_b20 := hb1.fresh (b := b20) (by omega);have ne_hb2_b20 := hb2.fresh (b := b20) (by omega);have ne_hb3_b20 := hb3.fresh (b := b20) (by omega);replace hb0 := btr hb0 hb20;replace hK := hK.below hb20;replace hT := hT.below hb20;replace hF := hF.below hb20;replace hR := hR.below hb20;replace ha1 := ha1.below hb20;replace ha2 := ha2.below hb20;replace ha3 := ha3.below hb20;replace hBs37x7 := hBs37x7.below hb20;replace hb1 := hb1.below hb20;replace hb2 := hb2.below hb20;replace hb3 := hb3.below hb20;refine SG_storeW (hB20) rfl rfl rfl rfl Try.sizeOf29 rfl rfl ?_;intro ws38x6 hchs38x6 hBs38x6;replace hb0 := bchg hb0 hchs38x6 hle20;replace hK := hK.chg hchs38x6 (fun k e e2 => by first | exact ne_hK_b20 k e e2 | (have := hK.lt e; have := ne_hK_b20; omega));replace hT := hT.chg hchs38x6 (fun k e e2 => by first | exact ne_hT_b20 k e e2 | (have := hT.lt e; have := ne_hT_b20; omega));replace hF := hF.chg hchs38x6 (fun k e e2 => by first | exact ne_hF_b20 k e e2 | (have := hF.lt e; have := ne_hF_b20; omega));replace hR := hR.chg hchs38x6 (fun k e e2 => by first | exact ne_hR_b20 k e e2 | (have := hR.lt e; have := ne_hR_b20; omega));replace ha1 := ha1.chg hchs38x6 ne_ha1_b20;replace ha2 := ha2.chg hchs38x6 ne_ha2_b20;replace ha3 := ha3.chg hchs38x6 ne_ha3_b20;replace hBs37x7 := hBs37x7.chg hchs38x6 ne_b18_20;replace hb1 := hb1.chg hchs38x6 ne_hb1_b20;replace hb2 := hb2.chg hchs38x6 ne_hb2_b20;replace hb3 := hb3.chg hchs38x6 ne_hb3_b20;clear hB20;refine SG_q (Rq_assign rfl) rfl ?_;refine SG_nil ?_;refine D_then ?_;refine W_seq ?_;refine W_region ?_;refine SG_q (Rq_move rfl) rfl ?_;refine SG_q (Rq_eql rfl rfl) rfl ?_;refine SG_q (Rq_move rfl) rfl ?_;refine SG_and (r := ?r217n10) 3 220 217 rfl ?_ ?_ ?_; rotate_left
     ·intro g217 K217
      have g217' := g217; try simp only [dd] at g217'
      have hm217 := Below.refl (ws38x6).heap.size ws38x6;refine SG_yes 217 rfl rfl g217 (SG_q (Rq_move rfl) rfl (SG_yes 217 rfl rfl g217 (SG_q (Rq_eql rfl rfl) rfl (SG_q (Rq_pick rfl (fun _ => rfl) (fun h => absurd (g217.symm.trans h) (by decide))) rfl ?_))));exact K217 _ _ hm217 (by repeat (first | exact Sub.refl | refine Sub.shadow ?_ | refine Sub.same ?_ | refine Sub.push rfl ?_))
     ·intro g217 K217
      have g217' := g217; try simp only [dd] at g217'
      have hm217 := Below.refl (ws38x6).heap.size ws38x6;refine SG_no 217 rfl rfl g217 rfl (SG_no 217 rfl rfl g217 rfl (SG_q (Rq_pick rfl (fun h => absurd (g217.symm.trans h) (by decide)) (fun _ => rfl)) rfl ?_));exact K217 _ _ hm217 (by repeat (first | exact Sub.refl | refine Sub.shadow ?_ | refine Sub.same ?_ | refine Sub.push rfl ?_))
     intro wm217 hbm217;replace hb0 := btr hb0 hbm217;replace ha1 := ha1.below hbm217;replace ha2 := ha2.below hbm217;replace ha3 := ha3.below hbm217;replace hBs37x7 := hBs37x7.below hbm217;replace hb1 := hb1.below hbm217;replace hb2 := hb2.below hbm217;replace hb3 := hb3.below hbm217;replace hBs38x6 := hBs38x6.below hbm217
     simp only [List.drop_succ_cons, List.drop_zero]
     refine SG_q (Rq_move rfl) rfl ?_;refine SG_and (r := ?r221n11) 4 225 221 rfl ?_ ?_ ?_; rotate_left
     ·intro g221 K221
      have g221' := g221; try simp only [dd] at g221'
      have hm221 := Below.refl (wm217).heap.size wm217;refine SG_yes 221 rfl rfl g221 ?_
      first | refine SG_q (Rq_loadBW (hBs37x7) Try.isAgg29 Try.sizeOf29 rfl rfl) rfl ?_ | refine SG_q (Rq_loadBA (hBs37x7) Try.isAgg29 Try.sizeOf29 rfl rfl rfl) rfl ?_
      refine SG_yes 221 rfl rfl g221 ?_
      first | refine SG_q (Rq_loadBW (hBs38x6) Try.isAgg29 Try.sizeOf29 rfl rfl) rfl ?_ | refine SG_q (Rq_loadBA (hBs38x6) Try.isAgg29 Try.sizeOf29 rfl rfl rfl) rfl ?_
      refine SG_yes 221 rfl rfl g221 (SG_pure rfl Try.call18 rfl (f18_c (⟨⟨_, _, _, rfl, (ha1), (ha2), (ha3)⟩⟩ : CoS _ _ (tidyR C)) (⟨⟨_, _, _, rfl, (hb1), (hb2), (hb3)⟩⟩ : CoS _ _ (tidyR ⟨C.ch, x.F, C.roots.map (gI x.to)⟩)) (by omega) (by omega) (by omega)) ?_);intro w224 hb224;replace hb0 := btr hb0 hb224;replace hm221 := btr hm221 hb224;refine SG_q (Rq_pick rfl (fun _ => rfl) (fun h => absurd (g221.symm.trans h) (by decide))) rfl ?_;exact K221 _ _ hm221 (by repeat (first | exact Sub.refl | refine Sub.shadow ?_ | refine Sub.same ?_ | refine Sub.push rfl ?_))
     ·intro g221 K221
      have g221' := g221; try simp only [dd] at g221'
      have hm221 := Below.refl (wm217).heap.size wm217;refine SG_no 221 rfl rfl g221 rfl (SG_no 221 rfl rfl g221 rfl (SG_no 221 rfl rfl g221 rfl (SG_q (Rq_pick rfl (fun h => absurd (g221.symm.trans h) (by decide)) (fun _ => rfl)) rfl ?_)));exact K221 _ _ hm221 (by repeat (first | exact Sub.refl | refine Sub.shadow ?_ | refine Sub.same ?_ | refine Sub.push rfl ?_))
     intro wm221 hbm221;replace hb0 := btr hb0 hbm221
     simp only [List.drop_succ_cons, List.drop_zero]
     refine SG_q (Rq_move rfl) rfl ?_;refine SG_and (r := ?r226n12) 2 228 226 rfl ?_ ?_ ?_; rotate_left
     ·intro g226 K226
      have g226' := g226; try simp only [dd] at g226'
      have hm226 := Below.refl (wm221).heap.size wm221;refine SG_yes 226 rfl rfl g226 (SG_pure rfl Try.call13 rfl (f13_c _) ?_);intro w227 hb227;replace hb0 := btr hb0 hb227;replace hm226 := btr hm226 hb227;refine SG_q (Rq_pick rfl (fun _ => rfl) (fun h => absurd (g226.symm.trans h) (by decide))) rfl ?_;exact K226 _ _ hm226 (by repeat (first | exact Sub.refl | refine Sub.shadow ?_ | refine Sub.same ?_ | refine Sub.push rfl ?_))
     ·intro g226 K226
      have g226' := g226; try simp only [dd] at g226'
      have hm226 := Below.refl (wm221).heap.size wm221;refine SG_no 226 rfl rfl g226 rfl (SG_q (Rq_pick rfl (fun h => absurd (g226.symm.trans h) (by decide)) (fun _ => rfl)) rfl ?_);exact K226 _ _ hm226 (by repeat (first | exact Sub.refl | refine Sub.shadow ?_ | refine Sub.same ?_ | refine Sub.push rfl ?_))
     intro wm226 hbm226;replace hb0 := btr hb0 hbm226
     simp only [List.drop_succ_cons, List.drop_zero]
     refine SG_q (Rq_assign rfl) rfl (SG_nil (D_then (W_ret (D_body1 rfl rfl rfl ?_))));exact ⟨by simp [hck, hck2, htd], hb0⟩
end Go.Proofs.Ytphmoebiobjfhaa
