/- Walks of functions, printed by a program of the author. -/
import Derived.Test.YtphmoebiobjfhaaGreatRg
import Derived.Test.YtphmoebiobjfhaaGreatT29
set_option linter.all false
namespace Go.Proofs.YtphmoebiobjfhaaGreat
open Go Go.Mi Go.RowKit Tryz Go.Proofs.Tryz
set_option maxHeartbeats 1000000 in
theorem f28_c {v : Value} {C : Co} {w : World} (hC : CoS w v C) (hck : checkR C = 0) {o : Nat} (ho : o < C.ops.length) : Mi.Fn prog 28 #[v, .int .i64 (o : Int)] w fun u w' => OS w' u 5 1 encU (rulesC C (o : Int)) w.heap.size ∧ ∃ a n c, u = .slice a n c := by
 obtain ⟨uC, uO, uR, rfl, hu1, hu2, hu3⟩ := hC.ex;have hlo1 := hu1.lt; have hlo2 := hu2.lt; have hlo3 := hu3.lt;have hlen := (qm hck).1
 have h0 : (0 : Int) ≤ (o : Int) := by omega
 have h1 : (o : Int) < C.ops.length := by omega
 have hb0 := Below.refl w.heap.size w;refine zE func28 rfl ntmps28 rfl ?_;refine zg (za (qe rfl rfl rfl ?_));intro w2 b2 e2 hb2 hz2 hB2
 have hle2 : w.heap.size ≤ b2 := by have := hb0.size; omega
 replace hb0 := btr hb0 hb2;replace hu1 := hu1.below hb2;replace hu2 := hu2.below hb2;replace hu3 := hu3.below hb2;refine SQ (ze rfl) (zd (zb (zg (za (z2 (enc := encU) (val := (fun n : Int => Value.int .u8 n)) (os := []) rfl rfl MV.nil (fun _ => rfl) (fun _ => rfl) zU57 sizeOf5 zeroValue5 rfl (by decide) (by decide) rfl ?_)))));intro w10 v10 b10 e10 hb10 hz10 hob10 hO10
 have hle10 : w.heap.size ≤ b10 := by have := hb0.size; omega
 have lt_b2_10 : b2 < b10 := by have := hB2.lt; omega
 replace hb0 := btr hb0 hb10;replace hu1 := hu1.below hb10;replace hu2 := hu2.below hb10;replace hu3 := hu3.below hb10;replace hB2 := hB2.below hb10;refine SQ (ze rfl) (zd (zb (zg (zg (za ?_)))))
 first | refine SQ (zC (hB2) isAgg26 sizeOf26 rfl rfl) ?_ | refine SQ (zD (hB2) isAgg26 sizeOf26 rfl rfl rfl) ?_
 refine SQ (zf rfl) (zF rfl call49 rfl (f49_c (⟨⟨_, _, _, rfl, (hu1), (hu2), (hu3)⟩⟩ : CoS _ _ C) hck ho) ?_);intro w13 hb13;replace hb0 := btr hb0 hb13;replace hu1 := hu1.below hb13;replace hu2 := hu2.below hb13;replace hu3 := hu3.below hb13;replace hB2 := hB2.below hb13;replace hO10 := hO10.below hb13;refine SQ (qv rfl) (zd (zb ?_));refine zw rfl ?_ ?_
 ·intro g14
  try simp only [dd] at g14
  have hus : usedB C (o : Int) = false := by simpa using g14
  have hno := rules_unused hck h0 h1 hus;refine zg ?_;refine za ?_;refine SQ (zf rfl) ?_;refine SQ (ze rfl) ?_;refine zd ?_;refine zb ?_;refine zu ?_;refine zl ?_;refine zP rfl rfl rfl ?_;exact ⟨_, rfl, hb0, by rw [hno]; exact hO10.le (by omega), by obtain ⟨a, c, h⟩ := hO10.sl.len; exact ⟨_, _, _, h⟩⟩
 ·intro g14
  try simp only [dd] at g14
  have hus : usedB C (o : Int) = true := by simpa using g14
  refine zH (zb (zg (za ?_)))
  first | refine SQ (zC (hB2) isAgg26 sizeOf26 rfl rfl) ?_ | refine SQ (zD (hB2) isAgg26 sizeOf26 rfl rfl rfl) ?_
  refine qf rfl call27 rfl (f27_c (⟨⟨_, _, _, rfl, (hu1), (hu2), (hu3)⟩⟩ : CoS _ _ C) hck) ?_;rintro v17 w17 hb17 hT;replace hb0 := btr hb0 hb17;replace hu1 := hu1.below hb17;replace hu2 := hu2.below hb17;replace hu3 := hu3.below hb17;replace hB2 := hB2.below hb17;replace hO10 := hO10.below hb17
  have hOu : ∀ k, v10.ownBlock = some k → k < w13.heap.size := fun k e => by rw [hob10] at e; cases e; have := hb13.size; omega
  have hz2 := hB2.lt;refine SQ (ze rfl) (zd (zb (zg (zg (za (SQ (ze rfl) (zd (zb (zL ?_)))))))))
  have hTl : ∀ k, v17.ownBlock = some k → w13.heap.size ≤ k := fun k e => (hT.lt e).1
  have hzb := hB2.lt;have hzs := hb0.size
  have hb210 : b2 < b10 := by omega
  have hw10 := hb10.size; have hw13 := hb13.size; have hw17 := hb17.size;refine qo (α := Nat × Value) (fun z => [(7, .int .u8 ((z.1 : Nat) + 1 : Int)), (5, z.2), (6, v17), (1, .int .i64 (o : Int)), (2, .pointer (some ⟨b2, 0, none⟩))]) (fun z w' => z.1 ≤ 11 ∧ Below w.heap.size w w' ∧ Blk w' b2 [uC, uO, uR] 26 ∧ (SL w' uC 3 encC C.ch ∧ SL w' uO 5 encO C.ops ∧ SL w' uR 1 encI C.roots) ∧ OS w' v17 4 1 encB (truthsR C.ops) (b2 + 1) ∧ OS w' z.2 5 1 encU (rl (fun r => (atC C r (o : Int)).ap) z.1) (b2 + 1) ∧ (∀ k, z.2.ownBlock = some k → v17.ownBlock ≠ some k) ∧ b2 + 1 ≤ w'.heap.size) (fun z => 11 - z.1) ((0, v10)) (by repeat (first | exact Sub.nil | refine Sub.cons rfl ?_)) ⟨Nat.zero_le _, hb0, hB2, ⟨hu1, hu2, hu3⟩, hT.le (by omega), hO10.le (by omega), (fun k e e2 => by have := hOu k e; have := hTl k e2; omega), by omega⟩ ?_;clear hb0;clear hu1;clear hu2;clear hu3;clear hB2;clear hO10;clear hT;rintro z wl0 ⟨hz11, hbw, hB2, ⟨hu1, hu2, hu3⟩, hT, hW, hzv, hww⟩;have hb0 := Below.refl wl0.heap.size wl0;refine zg ?_;refine zg ?_;refine za ?_;refine SQ (zf rfl) ?_;refine SQ (js rfl rfl) ?_;refine zd ?_;refine zb ?_;refine zw rfl ?_ ?_
  ·intro g19
   try simp only [dd] at g19
   have hz11 : z.1 < 11 := by omega
   have hpa := try_ap (r := (z.1 : Int) + 1) hck h0 h1 (by omega) (by omega) hus
   have hWl : ∀ k, z.2.ownBlock = some k → b2 < k := fun k e => by have := (hW.lt e).1; omega
   have hTu : ∀ k, v17.ownBlock = some k → k < wl0.heap.size := fun k e => (hT.lt e).2
   have hlw : ∀ k, z.2.ownBlock = some k → w.heap.size ≤ k := fun k e => by have := hWl k e; omega
   refine zH (zb (zg (zL (zg (za ?_)))))
   first | refine SQ (zC (hB2) isAgg26 sizeOf26 rfl rfl) ?_ | refine SQ (zD (hB2) isAgg26 sizeOf26 rfl rfl rfl) ?_
   refine SQ (zf rfl) (SQ (zf rfl) (SQ (zf rfl) (zF rfl call50 rfl (f50_c (⟨⟨_, _, _, rfl, (hu1), (hu2), (hu3)⟩⟩ : CoS _ _ C) hck (hT.sl) h0 h1 ((z.1 : Int) + 1)) ?_)));intro w27 hb27;replace hb0 := btr hb0 hb27;replace hB2 := hB2.below hb27;replace hu1 := hu1.below hb27;replace hu2 := hu2.below hb27;replace hu3 := hu3.below hb27;replace hT := hT.below hb27;replace hW := hW.below hb27;refine SQ (zf rfl) (SQ (zK rfl rfl) (SQ (zK rfl rfl) (zM zeroValue95 rfl rfl ?_)));intro w8 b8 e8 hb8 hz8 hB8
   have hle8 : wl0.heap.size ≤ b8 := by have := hb0.size; omega
   have ne_b2_8 : ¬ b2 = b8 := by have := hB2.lt; omega
   have ne_hu1_b8 := hu1.fresh (b := b8) (by omega);have ne_hu2_b8 := hu2.fresh (b := b8) (by omega);have ne_hu3_b8 := hu3.fresh (b := b8) (by omega)
   have ne_hT_b8 : ∀ k, Value.ownBlock v17 = some k → ¬ k = b8 := fun k e => by have := hT.lt e; omega
   have ne_hW_b8 : ∀ k, Value.ownBlock z.2 = some k → ¬ k = b8 := fun k e => by have := hW.lt e; omega
   replace hb0 := btr hb0 hb8;replace hB2 := hB2.below hb8;replace hu1 := hu1.below hb8;replace hu2 := hu2.below hb8;replace hu3 := hu3.below hb8;replace hT := hT.below hb8;replace hW := hW.below hb8;refine zm (hB8) rfl rfl rfl rfl sizeOf95 rfl rfl ?_;intro ws8x9 hchs8x9 hBs8x9;replace hb0 := bchg hb0 hchs8x9 hle8;replace hB2 := hB2.chg hchs8x9 ne_b2_8;replace hu1 := hu1.chg hchs8x9 ne_hu1_b8;replace hu2 := hu2.chg hchs8x9 ne_hu2_b8;replace hu3 := hu3.chg hchs8x9 ne_hu3_b8;replace hT := hT.chg hchs8x9 (fun k e e2 => by first | exact ne_hT_b8 k e e2 | (have := hT.lt e; have := ne_hT_b8; omega));replace hW := hW.chg hchs8x9 (fun k e e2 => by first | exact ne_hW_b8 k e e2 | (have := hW.lt e; have := ne_hW_b8; omega));clear hB8;refine SQ (ze rfl) ?_;refine zd ?_;refine zb ?_;refine zg ?_;refine za ?_;refine SQ (zf rfl) ?_;refine zd ?_;refine zb ?_;refine zw rfl ?_ ?_
   ·intro g30
    try simp only [dd] at g30
    have hap : (atC C ((z.1 : Int) + 1) (o : Int)).ap = true := by rw [← hpa]; exact g30
    refine za (SQ (zf rfl) (SQ (zf rfl) (z2 (enc := encU) (val := (fun n : Int => Value.int .u8 n)) (os := [.tmp 32]) rfl rfl (MV.cons MV.nil) (fun _ => rfl) (fun _ => rfl) zU57 sizeOf5 zeroValue5 rfl (by decide) (by decide) rfl ?_)));intro w33 v33 b33 e33 hb33 hz33 hob33 hO33
    have hle33 : wl0.heap.size ≤ b33 := by have := hb0.size; omega
    have lt_b2_33 : b2 < b33 := by have := hB2.lt; omega
    have lt_b8_33 : b8 < b33 := by have := hBs8x9.lt; omega
    replace hb0 := btr hb0 hb33;replace hB2 := hB2.below hb33;replace hu1 := hu1.below hb33;replace hu2 := hu2.below hb33;replace hu3 := hu3.below hb33;replace hT := hT.below hb33;replace hW := hW.below hb33;refine qr (hW) (hO33.sl) underlying57 info5 rfl rfl rfl (fun _ _ => rfl) (by simp only [List.length_append, List.length_cons, List.length_nil]; have := rl_len (fun r => (atC C r (o : Int)).ap) z.1; omega) (by simp only [List.length_append, List.length_cons, List.length_nil]; have := rl_len (fun r => (atC C r (o : Int)).ap) z.1; omega) (by have := hb0.size; omega) rfl ?_;intro v34 w34 hO34 hch34 hsn34;have h93 := hb0.size; have h94 := hch34.size;replace hbw := (btr hbw hb0).trans (hch34.below (btr hbw hb0).size (fun k hk e => by have := hlw k e; omega))
    replace hww : b2 + 1 ≤ w34.heap.size := by omega
    clear hb0;have hb0 := Below.refl w34.heap.size w34
    replace hB2 := (hB2.chg hch34 (fun e => by have := hWl _ e; omega))
    replace hu1 := (hu1.chg hch34 (fun hp e => by have := hlo1 hp; have := hWl _ e; omega))
    replace hu2 := (hu2.chg hch34 (fun hp e => by have := hlo2 hp; have := hWl _ e; omega))
    replace hu3 := (hu3.chg hch34 (fun hp e => by have := hlo3 hp; have := hWl _ e; omega))
    replace hT := (hT.chg hch34 (fun k e e2 => hzv k e2 e))
    clear hBs8x9;clear hO33;clear hW;refine SQ (ze rfl) ?_;refine zd ?_;refine zQ ?_;refine zb ?_;refine za ?_;refine SQ (zf rfl) ?_;refine SQ (qb rfl rfl (jc (by omega) (by omega))) ?_;refine SQ (ze rfl) ?_;refine zd ?_;refine qh ((z.1 + 1, _)) (by repeat (first | exact Sub.nil | refine Sub.cons rfl ?_)) ⟨by dsimp only; omega, btr hbw hb0, hB2, ⟨hu1, hu2, hu3⟩, hT, by (try dsimp only); rw [rl_succ, if_pos hap]; exact hO34, fun k e => (hsn34 k e).elim (fun e => hzv k e) (fun h e2 => by have := hTu k e2; omega), by have := hb0.size; omega⟩ (by dsimp only; omega)
   ·intro g30
    try simp only [dd] at g30
    have hap : (atC C ((z.1 : Int) + 1) (o : Int)).ap = false := by rw [← hpa]; exact g30
    refine zH ?_;refine zQ ?_;refine zb ?_;refine za ?_;refine SQ (zf rfl) ?_;refine SQ (qb rfl rfl (jc (by omega) (by omega))) ?_;refine SQ (ze rfl) ?_;refine zd ?_;refine qh ((z.1 + 1, _)) (by repeat (first | exact Sub.nil | refine Sub.cons rfl ?_)) ⟨by dsimp only; omega, btr hbw hb0, hB2, ⟨hu1, hu2, hu3⟩, hT, by (try dsimp only); rw [rl_succ, if_neg (by rw [hap]; decide)]; rw [List.append_nil]; exact hW, hzv, by have := hb0.size; omega⟩ (by dsimp only; omega)
  ·intro g19
   try simp only [dd] at g19
   have hz11 : z.1 = 11 := by omega
   rw [hz11] at hW;clear hb0;have hb0 := hbw;refine qk ?_;refine z0 ?_;refine z9 ?_;refine zX ?_;refine zb ?_;refine zg ?_;refine za ?_;refine SQ (zf rfl) ?_;refine SQ (ze rfl) ?_;refine zd ?_;refine zb ?_;refine zu ?_;refine zP rfl rfl rfl ?_;exact ⟨_, rfl, hb0, hW.le (by omega), by obtain ⟨a, c, h⟩ := hW.sl.len; exact ⟨_, _, _, h⟩⟩
end Go.Proofs.YtphmoebiobjfhaaGreat
