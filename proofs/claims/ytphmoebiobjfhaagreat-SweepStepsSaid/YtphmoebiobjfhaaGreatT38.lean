/- Walks of functions, printed by a program of the author. -/
import Derived.Test.YtphmoebiobjfhaaGreatRj
import Derived.Test.YtphmoebiobjfhaaGreatT33
set_option linter.all false
namespace Go.Proofs.YtphmoebiobjfhaaGreat
open Go Go.Mi Go.RowKit Tryz Go.Proofs.Tryz
set_option maxHeartbeats 2000000 in
theorem f16_c {v : Value} {C : Co} {w : World} (hC : CoS w v C) (hck : checkR C = 0) : Mi.Fn prog 16 #[v] w fun u w' => ∃ vl vc, u = .tuple #[vl, vc] ∧ SL w' vl 2 encR (stepsR C).1 ∧ CoL 0 (stepsR C).2 vc w' 0 0 := by
 obtain ⟨uC, uO, uR, rfl, hu1, hu2, hu3⟩ := hC.ex;have hlo1 := hu1.lt; have hlo2 := hu2.lt; have hlo3 := hu3.lt;have hb0 := Below.refl w.heap.size w;refine zE func16 rfl ntmps16 rfl ?_;refine zg (za (qe rfl rfl rfl ?_));intro w1 b1 e1 hb1 hz1 hB1
 have hle1 : w.heap.size ≤ b1 := by have := hb0.size; omega
 have ne_hu1_b1 := hu1.fresh (b := b1) (by omega);have ne_hu2_b1 := hu2.fresh (b := b1) (by omega);have ne_hu3_b1 := hu3.fresh (b := b1) (by omega);replace hb0 := btr hb0 hb1;replace hu1 := hu1.below hb1;replace hu2 := hu2.below hb1;replace hu3 := hu3.below hb1;refine SQ (ze rfl) (zM zeroValue26 rfl rfl ?_);intro w3 b3 e3 hb3 hz3 hB3
 have hle3 : w.heap.size ≤ b3 := by have := hb0.size; omega
 have ne_hu1_b3 := hu1.fresh (b := b3) (by omega);have ne_hu2_b3 := hu2.fresh (b := b3) (by omega);have ne_hu3_b3 := hu3.fresh (b := b3) (by omega)
 have ne_b1_3 : ¬ b1 = b3 := by have := hB1.lt; omega
 have ne_b3_1 : ¬ b3 = b1 := by omega
 replace hb0 := btr hb0 hb3;replace hu1 := hu1.below hb3;replace hu2 := hu2.below hb3;replace hu3 := hu3.below hb3;replace hB1 := hB1.below hb3;refine zd (zb (zg (za (z2 (enc := encR) (val := valR) (os := []) rfl rfl MV.nil (fun _ => rfl) (fun _ => rfl) zU30 sizeOf45 zeroValue45 rfl (by decide) (by decide) rfl ?_))));intro w8 v8 b8 e8 hb8 hz8 hob8 hO8
 have hle8 : w.heap.size ≤ b8 := by have := hb0.size; omega
 have lt_b1_8 : b1 < b8 := by have := hB1.lt; omega
 have lt_b3_8 : b3 < b8 := by have := hB3.lt; omega
 replace hb0 := btr hb0 hb8;replace hu1 := hu1.below hb8;replace hu2 := hu2.below hb8;replace hu3 := hu3.below hb8;replace hB1 := hB1.below hb8;replace hB3 := hB3.below hb8;refine SQ (ze rfl) ?_;refine SQ (ze rfl) ?_;refine zd ?_;refine zb ?_;refine zL ?_;refine qo (α := Sy) (fun x => [(4, x.u), (5, .int .i64 (x.f : Nat)), (1, .pointer (some ⟨b1, 0, none⟩)), (3, .pointer (some ⟨b3, 0, none⟩))]) (fun x w' => Below w.heap.size w w' ∧ (checkR x.C = 0 ∧ StepsI C x.l x.C ∧ (∀ j : Nat, j < x.f → rulesC x.C j = []) ∧ x.f ≤ 100000) ∧ Blk w' b1 [x.v1, x.v2, x.v3] 26 ∧ Blk w' b3 [.slice none 0 0, .slice none 0 0, .slice none 0 0] 26 ∧ (SL w' x.v1 3 encC x.C.ch ∧ SL w' x.v2 5 encO x.C.ops ∧ SL w' x.v3 1 encI x.C.roots) ∧ (OS w' x.u 45 2 encR (x.l) w.heap.size ∧ ∀ k, x.u.ownBlock = some k → k ≠ b1 ∧ k ≠ b3) ∧ ((0 < x.C.ch.length → ¬ sb x.v1 = b1) ∧ (0 < x.C.ops.length → ¬ sb x.v2 = b1) ∧ (0 < x.C.roots.length → ¬ sb x.v3 = b1) ∧ (0 < x.C.ch.length → ¬ sb x.v1 = b3) ∧ (0 < x.C.ops.length → ¬ sb x.v2 = b3) ∧ (0 < x.C.roots.length → ¬ sb x.v3 = b3) ∧ (0 < x.C.ch.length → x.u.ownBlock ≠ some (sb x.v1)) ∧ (0 < x.C.ops.length → x.u.ownBlock ≠ some (sb x.v2)) ∧ (0 < x.C.roots.length → x.u.ownBlock ≠ some (sb x.v3)))) (fun x => (refsR x.C).toNat) ((⟨[], C, 0, uC, uO, uR, v8⟩ : Sy)) (by repeat (first | exact Sub.nil | refine Sub.cons rfl ?_)) ⟨hb0, ⟨hck, ⟨rfl, rfl⟩, (fun j h => absurd h (Nat.not_lt_zero j)), Nat.zero_le _⟩, hB1, hB3, ⟨hu1, hu2, hu3⟩, ⟨hO8.le (by omega), (fun k e => by have := (hO8.lt e).1; omega)⟩, (fun hp e => by have := hlo1 hp; dsimp only at e; omega), (fun hp e => by have := hlo2 hp; dsimp only at e; omega), (fun hp e => by have := hlo3 hp; dsimp only at e; omega), (fun hp e => by have := hlo1 hp; dsimp only at e; omega), (fun hp e => by have := hlo2 hp; dsimp only at e; omega), (fun hp e => by have := hlo3 hp; dsimp only at e; omega), (fun hp e => by have := hlo1 hp; have := (hO8.lt e).1; dsimp only at this; omega), (fun hp e => by have := hlo2 hp; have := (hO8.lt e).1; dsimp only at this; omega), (fun hp e => by have := hlo3 hp; have := (hO8.lt e).1; dsimp only at this; omega)⟩ ?_;clear hb0;clear hu1;clear hu2;clear hu3;clear hB1;clear hB3;clear hO8;rintro x wl0 ⟨hb0, ⟨hcx, hI, hno, hf9⟩, hB1, hB3, ⟨hu1, hu2, hu3⟩, ⟨hU, hub⟩, ne_hu1_b1, ne_hu2_b1, ne_hu3_b1, ne_hu1_b3, ne_hu2_b3, ne_hu3_b3, nu1, nu2, nu3⟩
 have ne_hU_b1 : ∀ k, x.u.ownBlock = some k → ¬ k = b1 := fun k e => (hub k e).1
 have ne_hU_b3 : ∀ k, x.u.ownBlock = some k → ¬ k = b3 := fun k e => (hub k e).2
 refine zL (zg (za ?_))
 first | refine SQ (zC (hB1) isAgg26 sizeOf26 rfl rfl) ?_ | refine SQ (zD (hB1) isAgg26 sizeOf26 rfl rfl rfl) ?_
 refine SQ (zf rfl) (zF rfl call23 rfl (f23_c (⟨⟨_, _, _, rfl, (hu1), (hu2), (hu3)⟩⟩ : CoS _ _ x.C) hcx (f := x.f) rfl hf9) ?_);intro w12 hb12;replace hb0 := btr hb0 hb12;replace hB1 := hB1.below hb12;replace hB3 := hB3.below hb12;replace hu1 := hu1.below hb12;replace hu2 := hu2.below hb12;replace hu3 := hu3.below hb12;replace hU := hU.below hb12;refine SQ (zf rfl) (SQ (zK rfl rfl) (SQ (zK rfl rfl) (zM zeroValue45 rfl rfl ?_)));intro w6 b6 e6 hb6 hz6 hB6
 have hle6 : w.heap.size ≤ b6 := by have := hb0.size; omega
 have ne_b1_6 : ¬ b1 = b6 := by have := hB1.lt; omega
 have ne_b6_1 : ¬ b6 = b1 := by omega
 have ne_b3_6 : ¬ b3 = b6 := by have := hB3.lt; omega
 have ne_hu1_b6 := hu1.fresh (b := b6) (by omega);have ne_hu2_b6 := hu2.fresh (b := b6) (by omega);have ne_hu3_b6 := hu3.fresh (b := b6) (by omega)
 have ne_hU_b6 : ∀ k, Value.ownBlock x.u = some k → ¬ k = b6 := fun k e => by have := hU.lt e; omega
 replace hb0 := btr hb0 hb6;replace hB1 := hB1.below hb6;replace hB3 := hB3.below hb6;replace hu1 := hu1.below hb6;replace hu2 := hu2.below hb6;replace hu3 := hu3.below hb6;replace hU := hU.below hb6;refine zm (hB6) rfl rfl rfl rfl sizeOf45 rfl rfl ?_;intro ws2x7 hchs2x7 hBs2x7;replace hb0 := bchg hb0 hchs2x7 hle6;replace hB1 := hB1.chg hchs2x7 ne_b1_6;replace hB3 := hB3.chg hchs2x7 ne_b3_6;replace hu1 := hu1.chg hchs2x7 ne_hu1_b6;replace hu2 := hu2.chg hchs2x7 ne_hu2_b6;replace hu3 := hu3.chg hchs2x7 ne_hu3_b6;replace hU := hU.chg hchs2x7 (fun k e e2 => by first | exact ne_hU_b6 k e e2 | (have := hU.lt e; have := ne_hU_b6; omega));clear hB6;refine SQ (ze rfl) ?_;refine zd ?_;refine zb ?_;refine zg ?_;refine zg ?_;refine za ?_;refine SQ (zf rfl) ?_;refine SQ (qv rfl) ?_;refine zd ?_;refine zb ?_;refine zw rfl ?_ ?_
 ·intro g16
  try simp only [dd] at g16
  have hn0 : nextF x.C x.f = none := by simpa using g16
  rw [next_from hno] at hn0;obtain ⟨hl, hC2⟩ := hI.done hn0;refine zg ?_;refine W_anyG 4 [[], [], [0], [1]] [StBE b3 26 3] (BsB b3 26 3 ws2x7) [gdet [] ?a4_0n1, gdet [] ?a4_1n1, gdet [0] ?a4_2n1, gst 0 [1] (fun _ w => Blk w b3 [x.v1, x.v2, x.v3] 26)] mixed (by kernel_rfl) (by kernel_rfl) rfl rfl (stB_ok) (GStab.of rfl ?_) (BsB.of hB3 rfl) (fun h => h.drew) ?_ ?_; rotate_left 3
  ·skip
   refine zJ ?_;refine zJ ?_;refine zJ ?_;refine jn jI ?_;exact q4
  ·refine zp ?_ ?_
   ·intro wq hq hzq
    refine zk ?_
    refine zN (zf rfl) ?_; first | exact rfl | rfl
   refine zp ?_ ?_
   ·intro wq hq hzq
    refine zk ?_
    refine zN (zC (hB1.chg hq.1 (fun e => ne_b1_3 e)) isAgg26 sizeOf26 rfl rfl) ?_; first | exact rfl | rfl
   refine zp ?_ ?_
   ·intro wq hq hzq
    refine zI rfl rfl rfl (zk ?_)
    refine zN (ze rfl) ?_; first | exact rfl | rfl
   refine zp ?_ ?_
   ·intro wq hq hzq
    refine zI rfl rfl rfl (zk ?_);exact jZ hq.2 rfl rfl rfl (by simp [List.all, one_sl hu1, one_sl hu2, one_sl hu3]) sizeOf26 rfl rfl
   exact qW
  ·intro wa4 hba4 hzz4
   refine zG rfl (zG rfl (zG rfl (jC rfl ?_))); intro hs4x3 _; replace hs4x3 := id hs4x3;refine qZ ?_
   simp only [List.drop_succ_cons, List.drop_zero]
   replace hb0 := bchg hb0 hba4.1 hle3;replace hU := hU.chg hba4.1 (fun k hk e => ne_hU_b3 k hk e);replace hu1 := hu1.chg hba4.1 (fun hp e => ne_hu1_b3 hp e);replace hu2 := hu2.chg hba4.1 (fun hp e => ne_hu2_b3 hp e);replace hu3 := hu3.chg hba4.1 (fun hp e => ne_hu3_b3 hp e);refine zd ?_;refine zb ?_;refine zu ?_;refine zl ?_;refine zt ?_;refine qn ?_;refine zt ?_;refine qa rfl rfl (.tmp rfl) (.cellW rfl (hs4x3) isAgg26 sizeOf26 rfl) ?_;obtain ⟨q1, s1, e1⟩ := hu1.len; obtain ⟨q2, s2, e2⟩ := hu2.len; obtain ⟨q3, s3, e3⟩ := hu3.len;exact ⟨_, rfl, hb0, x.u, .agg #[x.v1, x.v2, x.v3], rfl, by rw [hl]; exact hU.sl, q1, _, s1, q2, _, s2, q3, _, s3, by rw [e1, e2, e3], by rw [hC2]; exact ⟨e1 ▸ hu1, e2 ▸ hu2, e3 ▸ hu3⟩, fun _ => Nat.zero_le _, fun _ => Nat.zero_le _, fun _ => Nat.zero_le _⟩
 ·intro g16
  try simp only [dd] at g16
  obtain ⟨r, hr⟩ : ∃ r, nextF x.C x.f = some r := by cases h9 : nextF x.C x.f with | none => (rw [h9] at g16; simp at g16) | some r => exact ⟨r, rfl⟩
  have hr2 : nextR x.C = some r := by rw [← next_from hno]; exact hr
  obtain ⟨hr0, hr1, hap⟩ := j2 hr2;have hlx := (qm hcx).1;have hlm := hI.len hck;have hmu := app_less hcx hr0 hr1 hap;have hck2 := jg hcx hr0 hr1 hap;have hpos := jJ hck2;have hnb := no_before hcx hr2;have hI2 := hI.next hcx hr2;obtain ⟨rr, ro⟩ := r;obtain ⟨o, rfl⟩ := Int.eq_ofNat_of_zero_le (show 0 ≤ ro from hr0)
  have ho : o < x.C.ops.length := by dsimp only at hr1; omega
  rw [hr] at hBs2x7;replace hBs2x7 : Blk _ b6 (encR (⟨rr, (o : Int)⟩ : Rw)) 45 := hBs2x7;have hB6 := hBs2x7
  have hul := fun (k : Nat) (e : x.u.ownBlock = some k) => (hU.lt e).2
  have hz1 := hB1.lt; have hz3 := hB3.lt; have hz6 := hB6.lt;refine zH (zb (zg (za ?_)))
  first | refine SQ (zC (hB1) isAgg26 sizeOf26 rfl rfl) ?_ | refine SQ (zD (hB1) isAgg26 sizeOf26 rfl rfl rfl) ?_
  first | refine SQ (zC (hBs2x7) isAgg45 sizeOf45 rfl rfl) ?_ | refine SQ (zD (hBs2x7) isAgg45 sizeOf45 rfl rfl rfl) ?_
  refine qf rfl call24 rfl (f24_c (⟨⟨_, _, _, rfl, (hu1), (hu2), (hu3)⟩⟩ : CoS _ _ x.C) hcx rr ho) ?_;rintro v22 w22 hb22 ⟨vd, rfl, da1, dn1, dc1, da2, dn2, dc2, da3, dn3, dc3, rfl, hd1, hd2, hd3⟩;replace hb0 := btr hb0 hb22;replace hB1 := hB1.below hb22;replace hB3 := hB3.below hb22;replace hU := hU.below hb22;replace hBs2x7 := hBs2x7.below hb22
  have ne_hd1_b1 : ∀ k, Value.ownBlock (.slice da1 dn1 dc1) = some k → ¬ k = b1 := fun k e => by have := (hd1.lt e).1; omega
  have ne_hd1_b3 : ∀ k, Value.ownBlock (.slice da1 dn1 dc1) = some k → ¬ k = b3 := fun k e => by have := (hd1.lt e).1; omega
  have ne_hd1_b6 : ∀ k, Value.ownBlock (.slice da1 dn1 dc1) = some k → ¬ k = b6 := fun k e => by have := (hd1.lt e).1; omega
  have ne_hd2_b1 : ∀ k, Value.ownBlock (.slice da2 dn2 dc2) = some k → ¬ k = b1 := fun k e => by have := (hd2.lt e).1; omega
  have ne_hd2_b3 : ∀ k, Value.ownBlock (.slice da2 dn2 dc2) = some k → ¬ k = b3 := fun k e => by have := (hd2.lt e).1; omega
  have ne_hd2_b6 : ∀ k, Value.ownBlock (.slice da2 dn2 dc2) = some k → ¬ k = b6 := fun k e => by have := (hd2.lt e).1; omega
  have ne_hd3_b1 : ∀ k, Value.ownBlock (.slice da3 dn3 dc3) = some k → ¬ k = b1 := fun k e => by have := (hd3.lt e).1; omega
  have ne_hd3_b3 : ∀ k, Value.ownBlock (.slice da3 dn3 dc3) = some k → ¬ k = b3 := fun k e => by have := (hd3.lt e).1; omega
  have ne_hd3_b6 : ∀ k, Value.ownBlock (.slice da3 dn3 dc3) = some k → ¬ k = b6 := fun k e => by have := (hd3.lt e).1; omega
  have hxu := apC_yes (C := x.C) (r := (⟨rr, (o : Int)⟩ : Rw)) hap;rw [hxu] at hd1 hd2 hd3;refine SQ (zf rfl) ?_;refine SQ (zK rfl rfl) ?_;refine SQ (zK rfl rfl) ?_;refine zm (hB1) rfl rfl rfl rfl sizeOf26 rfl rfl ?_;intro ws5x6 hchs5x6 hBs5x6;replace hb0 := bchg hb0 hchs5x6 hle1;replace hB3 := hB3.chg hchs5x6 ne_b3_1;replace hU := hU.chg hchs5x6 (fun k e e2 => by first | exact ne_hU_b1 k e e2 | (have := hU.lt e; have := ne_hU_b1; omega));replace hBs2x7 := hBs2x7.chg hchs5x6 ne_b6_1;replace hd1 := hd1.chg hchs5x6 (fun k e e2 => by first | exact ne_hd1_b1 k e e2 | (have := hd1.lt e; have := ne_hd1_b1; omega));replace hd2 := hd2.chg hchs5x6 (fun k e e2 => by first | exact ne_hd2_b1 k e e2 | (have := hd2.lt e; have := ne_hd2_b1; omega));replace hd3 := hd3.chg hchs5x6 (fun k e e2 => by first | exact ne_hd3_b1 k e e2 | (have := hd3.lt e; have := ne_hd3_b1; omega));clear hB1;refine zd ?_;refine zb ?_;have hz1b := hBs5x6.lt; have hz3b := hB3.lt
  have hds1 := fun (k : Nat) (e : Value.ownBlock (.slice da1 dn1 dc1) = some k) => (hd1.lt e).2
  have hds2 := fun (k : Nat) (e : Value.ownBlock (.slice da2 dn2 dc2) = some k) => (hd2.lt e).2
  have hds3 := fun (k : Nat) (e : Value.ownBlock (.slice da3 dn3 dc3) = some k) => (hd3.lt e).2
  refine W_anyGL (q := 6) (s := 4) (u := x.u) (Ks := [0]) 7 [[], [], [1], [0, 2], [], [4], [3]] [OwE x.u 45 2 w.heap.size encR x.l] (BsO x.u 45 2 w.heap.size encR x.l ws5x6) [gdet [] ?a6_0n2, gdet [] ?a6_1n2, gfrs [1] (SlR ws5x6.heap.size 2 encR [(⟨rr, (o : Int)⟩ : Rw)]), gap 0 [0, 2] (ApV x.u 45 2 w.heap.size encR (x.l ++ [(⟨rr, (o : Int)⟩ : Rw)])), gdet [] ?a6_4n2, gdet [4] ?a6_5n2, gfun [3] (fun vs => vs.getD 0 undef)] mixed (by kernel_rfl) rfl (GSels.none rfl (by kernel_rfl)) (ow_ok) (GStab.of rfl ?_) ⟨Chg.refl _ _, hU⟩ (fun h => h.drew) (by decide) rfl (fun i hi o ho => by cases ho; simp at hi; subst hi; kernel_rfl) rfl ?_ ?_; rotate_left 4
  ·skip
   refine zJ ?_;refine zJ ?_;refine jH (SlR.ow (fun b e => (hU.lt e).2)) ?_;refine AllSt_gap ApV.stab ?_;refine zJ ?_;refine zJ ?_;refine AllSt_fun ?_;exact q4
  ·refine GOblsL_late rfl ?_ ?_
   ·intro wq hq hzq
    refine zk ?_
    refine zN (zf rfl) ?_; first | exact rfl | rfl
   refine jY rfl ?_ ?_
   ·intro wq hq hzq
    refine zk ?_
    refine zN (zC (hBs2x7.chg hq.1 (show ¬ x.u.ownBlock = some b6 from fun e => ne_hU_b6 _ e rfl)) isAgg45 sizeOf45 rfl rfl) ?_; first | exact rfl | rfl
   refine jY rfl ?_ ?_
   ·intro wq hq hzq
    refine zI rfl rfl rfl (zk ?_);exact GEx.of (Zd (ds := []) (enc := encR) (val := valR) (os := [.tmp 26]) hzq rfl rfl (MV.cons (x := (⟨rr, (o : Int)⟩ : Rw)) MV.nil) (fun _ => rfl) (fun _ => rfl) zU30 sizeOf45 zeroValue45 rfl (by decide) (by decide))
   refine jY rfl ?_ ?_
   ·intro wq hq hzq
    refine zI rfl rfl rfl ?_;refine jm rfl rfl rfl ?_; intro v27 lo27 hi27 hle27 hR27;refine zk ?_;exact GEx_app underlying30 info45 rfl hq.2 (by have := hb0.size; omega) hR27.1 (fun _ _ => rfl) (by simp only [List.length_cons, List.length_nil]; omega) (by simp only [List.length_cons, List.length_nil]; omega) (by simp) rfl rfl
   refine jY rfl ?_ ?_
   ·intro wq hq hzq
    refine zk ?_
    refine zN (zh jE rfl) ?_; first | exact rfl | rfl
   refine jY rfl ?_ ?_
   ·intro wq hq hzq
    refine zI rfl rfl rfl (zk ?_)
    refine zN (zi (hBs2x7.chg hq.1 (show ¬ x.u.ownBlock = some b6 from fun e => ne_hU_b6 _ e rfl)) isAgg3 rfl rfl) ?_; first | exact rfl | rfl
   refine jY rfl ?_ ?_
   ·intro wq hq hzq
    refine GObl_gap rfl rfl rfl ?_; intro vs28 v28 lo28 hi28 hle28 hR28;refine zk ?_;exact GEx_fun (ze rfl) rfl
   exact GOblsL_nil
  ·intro wa6 hba6 hzz6
   refine zG rfl ?_;refine zG rfl ?_;refine je rfl ?_; intro v27 lo27 hi27 hR27 hlB27 hlh27 hhw27 hdj27;refine GFin_gap rfl ?_; intro v28 lo28 hi28 hR28 hlB28 hlh28 hhw28 hdj28;refine zG rfl ?_;refine zG rfl ?_;refine GFin_fun rfl ?_; intro v4 hf4; simp only [List.nil_append, List.cons_append, List.map_cons, List.map_nil, List.getD_cons_succ, List.getD_cons_zero, List.getElem?_cons_succ, List.getElem?_cons_zero] at hf4;refine qZ ?_
   simp only [List.drop_succ_cons, List.drop_zero]
   replace hf4 : v4 = v28 := hf4;subst hf4;obtain ⟨hU2, hsu, au, nu, cu, rfl⟩ := hR28;have hch6 := hba6.1;have hw22 := hb22.size;have hz6 := hch6.size;replace hB1 := hBs5x6.chg hch6 (fun e => ne_hU_b1 _ e rfl);replace hB3 := hB3.chg hch6 (fun e => ne_hU_b3 _ e rfl);replace hd1 := hd1.chg hch6 (fun k e e2 => by have := (hd1.lt e).1; have := hul k e2; omega);replace hd2 := hd2.chg hch6 (fun k e e2 => by have := (hd2.lt e).1; have := hul k e2; omega);replace hd3 := hd3.chg hch6 (fun k e e2 => by have := (hd3.lt e).1; have := hul k e2; omega);replace hb0 := hb0.trans (hch6.below hb0.size (fun k hk e => by have := (hU.lt e).1; omega));refine SQ (ze rfl) ?_;refine zd ?_;refine zQ ?_;refine qh ((⟨x.l ++ [(⟨rr, (o : Int)⟩ : Rw)], appR x.C (⟨rr, (o : Int)⟩ : Rw), o, .slice da1 dn1 dc1, .slice da2 dn2 dc2, .slice da3 dn3 dc3, .slice au nu cu⟩ : Sy)) (by repeat (first | exact Sub.nil | refine Sub.cons rfl ?_)) ⟨hb0, ⟨hck2, hI2, (fun j hj => hnb j (by have h9 : j < o := hj; dsimp only; omega)), by dsimp only; omega⟩, hB1, hB3, ⟨hd1.sl, hd2.sl, hd3.sl⟩, ⟨hU2, fun k e => (hsu k e).elim (fun e2 => ⟨ne_hU_b1 k e2, ne_hU_b3 k e2⟩) (fun h => by omega)⟩, (fun hp e => ne_hd1_b1 _ (qL hd1.sl hp) e), (fun hp e => ne_hd2_b1 _ (qL hd2.sl hp) e), (fun hp e => ne_hd3_b1 _ (qL hd3.sl hp) e), (fun hp e => ne_hd1_b3 _ (qL hd1.sl hp) e), (fun hp e => ne_hd2_b3 _ (qL hd2.sl hp) e), (fun hp e => ne_hd3_b3 _ (qL hd3.sl hp) e), (fun hp e => (hsu _ e).elim (fun e2 => Nat.lt_irrefl _ (Nat.lt_of_lt_of_le (hul _ e2) (hd1.lt (qL hd1.sl hp)).1)) (fun h => Nat.lt_irrefl _ (Nat.lt_of_lt_of_le (hds1 _ (qL hd1.sl hp)) (Nat.le_trans hlB28 h.1)))), (fun hp e => (hsu _ e).elim (fun e2 => Nat.lt_irrefl _ (Nat.lt_of_lt_of_le (hul _ e2) (hd2.lt (qL hd2.sl hp)).1)) (fun h => Nat.lt_irrefl _ (Nat.lt_of_lt_of_le (hds2 _ (qL hd2.sl hp)) (Nat.le_trans hlB28 h.1)))), (fun hp e => (hsu _ e).elim (fun e2 => Nat.lt_irrefl _ (Nat.lt_of_lt_of_le (hul _ e2) (hd3.lt (qL hd3.sl hp)).1)) (fun h => Nat.lt_irrefl _ (Nat.lt_of_lt_of_le (hds3 _ (qL hd3.sl hp)) (Nat.le_trans hlB28 h.1))))⟩ (by dsimp only; omega)
end Go.Proofs.YtphmoebiobjfhaaGreat
