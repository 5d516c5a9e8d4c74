/- Walks of functions, printed by a program of the author. -/
import Derived.Test.YtphmoebiobjfhaaGreatT23
set_option linter.all false
namespace Go.Proofs.YtphmoebiobjfhaaGreat
open Go Go.Mi Go.RowKit Tryz Go.Proofs.Tryz
theorem build26_0 (v : Value) (w : World) (hv : one1 v = true) : (Instr.build 26 #[(0, v)]).run prog w = .ok (.agg [v, (.slice none 0 0), (.slice none 0 0)].toArray) w := by
 unfold Instr.build
 simp [Sem.run_bind, zeroValue26, runUnderlying26, sizeOf22, sizeOf23, sizeOf24, Instr.fill, ql hv, Result.andThen, qJ]
set_option maxHeartbeats 2000000 in
theorem f18_c {v : Value} {C : Co} {w : World} (hC : CoS w v C) (hck : checkR C = 0) : Mi.Fn prog 18 #[v] w fun u w' => CoL 0 (tidyR C) u w' 0 0 := by
 obtain ⟨uC, uO, uR, rfl, hu1, hu2, hu3⟩ := hC.ex;have hlo2 := hu2.lt;have hlo3 := hu3.lt;obtain ⟨⟨hl1, hl2, hl3⟩, hroots, hops⟩ := qm hck;have hnd := jA hck;have hfl := nodup_le hnd.1 hnd.2;have hb0 := Below.refl w.heap.size w;refine zE func18 rfl ntmps18 rfl ?_;refine zg (za (qe rfl rfl rfl ?_));intro w1 b1 e1 hb1 hz1 hB1
 have hle1 : w.heap.size ≤ b1 := by have := hb0.size; omega
 replace hb0 := btr hb0 hb1;replace hu1 := hu1.below hb1;replace hu2 := hu2.below hb1;replace hu3 := hu3.below hb1;refine zM zeroValue26 rfl rfl ?_;intro w2 b2 e2 hb2 hz2 hB2
 have hle2 : w.heap.size ≤ b2 := by have := hb0.size; omega
 have ne_b1_2 : ¬ b1 = b2 := by have := hB1.lt; omega
 replace hb0 := btr hb0 hb2;replace hu1 := hu1.below hb2;replace hu2 := hu2.below hb2;replace hu3 := hu3.below hb2;replace hB1 := hB1.below hb2;refine zd (zb (zg ?_))
 refine W_anyG 7 [[], [0], [], [2], [3], [4], [1]] [] (fun w' => Below w2.heap.size w2 w') [gdet [] ?a1_0n1, gfrs [0] (OsR w2.heap.size 3 1 encI (foundR C)), gdet [] ?a1_2n1, gdet [2] ?a1_3n1, gdet [3] ?a1_4n1, gfrs [4] (OsR w2.heap.size 3 1 encI (List.replicate C.ops.length 0)), gfun [1] (fun vs => vs.getD 0 undef)] mixed (by kernel_rfl) (by kernel_rfl) rfl rfl (fun k w w' hb he => by
   match k, he with
   | 0, he => exact ⟨btr hb he, he.size⟩) (GStab.of rfl ?_) (Below.refl _ _) (fun h => h.drew) ?_ ?_; rotate_left 4
 ·skip
  refine zJ ?_
  refine jH (fun k u w w' lo hi hb he hl hr => by
   obtain ⟨r1, r2, r3⟩ := hr
   match k, he with
   | 0, he => exact ⟨r1.below he, r2, r3⟩) ?_
  refine zJ ?_;refine zJ ?_;refine zJ ?_
  refine jH (fun k u w w' lo hi hb he hl hr => by
   obtain ⟨r1, r2, r3⟩ := hr
   match k, he with
   | 0, he => exact ⟨r1.below he, r2, r3⟩) ?_
  refine AllSt_fun ?_;exact q4
 ·refine zp ?_ ?_
  ·intro wq hq hzq
   have hq' := btr hb0 hq;refine zk ?_
   first | (refine zN (zC ((hB1.below hq)) isAgg26 sizeOf26 rfl rfl) ?_; first | exact rfl | rfl) | (refine zN (zD ((hB1.below hq)) isAgg26 sizeOf26 rfl rfl rfl) ?_; first | exact rfl | rfl)
  refine zp ?_ ?_
  ·intro wq hq hzq
   have hq' := btr hb0 hq;refine zI rfl rfl rfl (zk (GEx.of (qq rfl call45 (Fn.mono (f45_c (⟨⟨_, _, _, rfl, hu1.below hq, hu2.below hq, hu3.below hq⟩⟩ : CoS _ _ C) hck) fun v w' hb ho => ?_))));obtain ⟨av, cv, hv⟩ := ho.sl.len;exact ⟨ho.le hzq, fun b e => ho.lt e, _, _, _, hv⟩
  refine zp ?_ ?_
  ·intro wq hq hzq
   have hq' := btr hb0 hq;refine zk ?_
   refine zN (zh z1 rfl) ?_; first | exact rfl | rfl
  refine zp ?_ ?_
  ·intro wq hq hzq
   have hq' := btr hb0 hq;refine zI rfl rfl rfl (zk ?_)
   refine zN (zi ((hB1.below hq)) isAgg23 rfl rfl) ?_; first | exact rfl | rfl
  refine zp ?_ ?_
  ·intro wq hq hzq
   have hq' := btr hb0 hq;refine zI rfl rfl rfl (zk ?_)
   first | (refine zN (zr ((hu1.below hq)) zU23 rfl) ?_; first | exact rfl | rfl) | (refine zN (zr ((hu2.below hq)) zU23 rfl) ?_; first | exact rfl | rfl) | (refine zN (zr ((hu3.below hq)) zU23 rfl) ?_; first | exact rfl | rfl)
  refine zp ?_ ?_
  ·intro wq hq hzq
   have hq' := btr hb0 hq;refine zI rfl rfl rfl (zk ?_);exact GEx.of (Ex_make1 (ds := []) hzq underlying24 info3 rfl rfl (by omega) (by omega) rfl (fun _ => rfl))
  refine zp ?_ ?_
  ·intro wq hq hzq
   have hq' := btr hb0 hq;refine jm rfl rfl rfl ?_; intro v11 lo11 hi11 hle11 hR11;refine zk ?_;exact GEx_fun (ze rfl) rfl
  exact qW
 ·intro wa1 hba1 hzz1
  refine zG rfl ?_;refine je rfl ?_; intro v11 lo11 hi11 hR11 hlB11 hlh11 hhw11 hdj11;refine zG rfl ?_;refine zG rfl ?_;refine zG rfl ?_;refine je rfl ?_; intro v15 lo15 hi15 hR15 hlB15 hlh15 hhw15 hdj15;refine GFin_fun rfl ?_; intro v3 hf3; simp only [List.nil_append, List.cons_append, List.map_cons, List.map_nil, List.getD_cons_succ, List.getD_cons_zero, List.getElem?_cons_succ, List.getElem?_cons_zero] at hf3;refine qZ ?_
  simp only [List.drop_succ_cons, List.drop_zero]
  obtain ⟨hF, hiF, _⟩ := hR11; obtain ⟨hT, hiT, _⟩ := hR15
  simp only [List.mem_cons, List.mem_nil_iff, or_false, forall_eq_or_imp, forall_eq] at hdj15
  subst hf3;have hwa1 := hba1.size; have hw2 := hb0.size; have hb1l := hB1.lt; have hb2l := hB2.lt;replace hB1 := hB1.below hba1; replace hB2 := hB2.below hba1; replace hu1 := hu1.below hba1; replace hu2 := hu2.below hba1; replace hu3 := hu3.below hba1;replace hb0 := btr hb0 hba1
  have hFo : ∀ k, v3.ownBlock = some k → w2.heap.size ≤ k ∧ k < wa1.heap.size := fun k e => ⟨(hF.lt e).1, (hF.lt e).2⟩
  have hTo : ∀ k, v15.ownBlock = some k → w2.heap.size ≤ k ∧ k < wa1.heap.size ∧ v3.ownBlock ≠ some k := fun k e => ⟨(hT.lt e).1, (hT.lt e).2, fun e2 => by have := hiF k e2; have := hiT k e; omega⟩
  refine SQ (ze rfl) (zd (zb (zg (za (z2 (enc := encC) (val := valC) (os := []) rfl rfl MV.nil (fun _ => rfl) (fun _ => rfl) zU22 sizeOf84 zeroValue84 rfl (by decide) (by decide) rfl ?_)))));intro w16 v16 b16 e16 hb16 hz16 hob16 hO16
  have hle16 : w.heap.size ≤ b16 := by have := hb0.size; omega
  have lt_b1_16 : b1 < b16 := by have := hB1.lt; omega
  have lt_b2_16 : b2 < b16 := by have := hB2.lt; omega
  replace hb0 := btr hb0 hb16;replace hu1 := hu1.below hb16;replace hu2 := hu2.below hb16;replace hu3 := hu3.below hb16;replace hB1 := hB1.below hb16;replace hB2 := hB2.below hb16;replace hF := hF.below hb16;replace hT := hT.below hb16;refine SQ (zh ji rfl) ?_;refine SQ (zi (hB1) isAgg22 rfl rfl) ?_;refine qr (hO16) (hu1) underlying22 info84 rfl rfl rfl (fun _ _ => rfl) (by simp only [List.length_append, List.length_cons, List.length_nil]; omega) (by simp only [List.length_append, List.length_cons, List.length_nil]; omega) (by omega) rfl ?_;intro v19 w19 hO19 hch19 hsn19
  obtain ⟨aC, nC, cC, hvC⟩ : ∃ a n c, v19 = Value.slice a n c := by obtain ⟨a, c, h⟩ := hO19.sl.len; exact ⟨_, _, _, h⟩
  subst hvC;replace hb0 := hb0.trans (hch19.below hb0.size (fun k hk e => by have := (hO16).lt e; omega));clear hu1
  replace hu2 := (hu2.chg hch19 (fun hp e => by have := hlo2 hp; have := (hO16.lt e).1; omega))
  replace hu3 := (hu3.chg hch19 (fun hp e => by have := hlo3 hp; have := (hO16.lt e).1; omega))
  replace hB1 := (hB1.chg hch19 (fun e => by have := (hO16.lt e).1; omega))
  replace hB2 := (hB2.chg hch19 (fun e => by have := (hO16.lt e).1; omega))
  replace hF := (hF.chg hch19 (fun k e e2 => by have := hFo k e; have := (hO16.lt e2).1; omega))
  replace hT := (hT.chg hch19 (fun k e e2 => by have := hTo k e; have := (hO16.lt e2).1; omega))
  clear hO16;refine SQ (qK build26_0 rfl rfl ) (zM zeroValue26 rfl rfl ?_);intro w5 b5 e5 hb5 hz5 hB5
  have hle5 : w.heap.size ≤ b5 := by have := hb0.size; omega
  have ne_hu2_b5 := hu2.fresh (b := b5) (by omega);have ne_hu3_b5 := hu3.fresh (b := b5) (by omega)
  have ne_b1_5 : ¬ b1 = b5 := by have := hB1.lt; omega
  have ne_b2_5 : ¬ b2 = b5 := by have := hB2.lt; omega
  have ne_hF_b5 : ∀ k, Value.ownBlock v3 = some k → ¬ k = b5 := fun k e => by have := hF.lt e; omega
  have ne_hT_b5 : ∀ k, Value.ownBlock v15 = some k → ¬ k = b5 := fun k e => by have := hT.lt e; omega
  have ne_hO19_b5 : ∀ k, Value.ownBlock (Value.slice aC nC cC) = some k → ¬ k = b5 := fun k e => by have := hO19.lt e; omega
  replace hb0 := btr hb0 hb5;replace hu2 := hu2.below hb5;replace hu3 := hu3.below hb5;replace hB1 := hB1.below hb5;replace hB2 := hB2.below hb5;replace hF := hF.below hb5;replace hT := hT.below hb5;replace hO19 := hO19.below hb5;refine zm (hB5) rfl rfl rfl rfl sizeOf26 rfl rfl ?_;intro ws2x6 hchs2x6 hBs2x6;replace hb0 := bchg hb0 hchs2x6 hle5;replace hu2 := hu2.chg hchs2x6 ne_hu2_b5;replace hu3 := hu3.chg hchs2x6 ne_hu3_b5;replace hB1 := hB1.chg hchs2x6 ne_b1_5;replace hB2 := hB2.chg hchs2x6 ne_b2_5;replace hF := hF.chg hchs2x6 (fun k e e2 => by first | exact ne_hF_b5 k e e2 | (have := hF.lt e; have := ne_hF_b5; omega));replace hT := hT.chg hchs2x6 (fun k e e2 => by first | exact ne_hT_b5 k e e2 | (have := hT.lt e; have := ne_hT_b5; omega));replace hO19 := hO19.chg hchs2x6 (fun k e e2 => by first | exact ne_hO19_b5 k e e2 | (have := hO19.lt e; have := ne_hO19_b5; omega));clear hB5;refine zd ?_;refine zb ?_;refine zg ?_;refine zg ?_;refine za ?_;refine SQ (ze rfl) ?_;refine zd ?_;refine zb ?_;refine zL ?_;have zz1 := hb16.size; have zz2 := hch19.size; have zz3 := hb5.size; have zz4 := hchs2x6.size
  have hsl : 0 < C.ch.length → wa1.heap.size ≤ sb (.slice aC nC cC) ∧ sb (.slice aC nC cC) < ws2x6.heap.size ∧ sb (.slice aC nC cC) ≠ b5 := fun hp => ⟨by have := (hO19.lt (qL hO19.sl hp)).1; omega, (hO19.lt (qL hO19.sl hp)).2, ne_hO19_b5 _ (qL hO19.sl hp)⟩
  have hb5l : wa1.heap.size ≤ b5 ∧ b5 < ws2x6.heap.size := ⟨by omega, hBs2x6.lt⟩
  have hW5z : wa1.heap.size ≤ ws2x6.heap.size := by have := hb16.size; have := hch19.size; have := hb5.size; have := hchs2x6.size; omega
  refine qo (α := Nat × Value) (fun x => [(6, .int .i64 (x.1 : Nat)), (3, v3), (4, v15), (1, .pointer (some ⟨b1, 0, none⟩)), (2, .pointer (some ⟨b2, 0, none⟩)), (5, .pointer (some ⟨b5, 0, none⟩))]) (fun x w' => x.1 ≤ (foundR C).length ∧ Below w.heap.size w w' ∧ Blk w' b1 [uC, uO, uR] 26 ∧ Blk w' b2 [.slice none 0 0, .slice none 0 0, .slice none 0 0] 26 ∧ Blk w' b5 [.slice aC nC cC, x.2, .slice none 0 0] 26 ∧ (SL w' uO 5 encO C.ops ∧ SL w' uR 1 encI C.roots ∧ SL w' (.slice aC nC cC) 3 encC C.ch) ∧ OS w' v3 3 1 encI (foundR C) w2.heap.size ∧ OS w' v15 3 1 encI (toL C.ops.length ((foundR C).take x.1)) w2.heap.size ∧ OS w' x.2 76 5 encO (tidyO C.ops ((foundR C).take x.1)) ws2x6.heap.size ∧ ws2x6.heap.size ≤ w'.heap.size) (fun x => (foundR C).length - x.1) ((0, .slice none 0 0)) (by repeat (first | exact Sub.nil | refine Sub.cons rfl ?_)) ⟨Nat.zero_le _, hb0, hB1, hB2, hBs2x6, ⟨hu2, hu3, hO19.sl⟩, hF, by rw [List.take_zero, toL_nil]; exact hT, OS.nil (fun _ => rfl) (by decide), Nat.le_refl _⟩ ?_;clear hb0;clear hu2;clear hu3;clear hB1;clear hB2;clear hF;clear hT;clear hO19;clear hBs2x6;rintro x wl0 ⟨hxi, hbw, hB1, hB2, hB5, ⟨hu2, hu3, hsC⟩, hF, hT, hW, hzz⟩;have hb0 := Below.refl wl0.heap.size wl0;refine zg ?_;refine zg ?_;refine za ?_;refine SQ (zf rfl) ?_;refine SQ (zf rfl) ?_
  first | refine SQ (zr (hu2) zU24 rfl) ?_ | refine SQ (zr (hu3) zU24 rfl) ?_ | refine SQ (zr (hsC) zU24 rfl) ?_ | refine SQ (zr (hF.sl) zU24 rfl) ?_ | refine SQ (zr (hT.sl) zU24 rfl) ?_ | refine SQ (zr (hW.sl) zU24 rfl) ?_
  refine SQ (qi rfl rfl) (zd (zb ?_));refine zw rfl ?_ ?_
  ·intro g24
   try simp only [dd] at g24
   have hxl : x.1 < (foundR C).length := by omega
   obtain ⟨i, hel⟩ : ∃ i, (foundR C)[x.1]? = some i := ⟨_, List.getElem?_eq_getElem hxl⟩
   obtain ⟨hi0, hi1⟩ := hnd.2 i (List.mem_of_getElem? hel)
   have hpl : ((foundR C).take x.1).length = x.1 := by simp; omega
   have hnp : ¬ i ∈ (foundR C).take x.1 := by have h : ((foundR C).take (x.1 + 1)).Nodup := List.Nodup.sublist (List.take_sublist _ _) hnd.1; rw [z4 hel, List.nodup_append] at h; exact fun hm => h.2.2 i hm i (by simp) rfl
   obtain ⟨y, hy⟩ : ∃ y, getO C.ops i = y := ⟨_, rfl⟩
   have hyi := zV hi0 hi1;rw [hy] at hyi;have hyc := (qy (jD hck hi0 hi1)).1;rw [hy] at hyc;have hbW := jR hck i hi0 hi1;rw [hy] at hbW;have hbd := opsOf_bd hck hi0 hi1;rw [hy] at hbd
   have hWl : ∀ k, x.2.ownBlock = some k → ws2x6.heap.size ≤ k := fun k e => (hW.lt e).1
   have hWu : ∀ k, x.2.ownBlock = some k → k < wl0.heap.size := fun k e => (hW.lt e).2
   have hya0 := hbW.a0; have hya1 := hbW.a1; have hyb0 := hbW.b0; have hyb1 := hbW.b1; have hyc0 := hbW.c0; have hyc1 := hbW.c1;have hta := toL_get (pre := (foundR C).take (x.1 + 1)) hya0 hya1;have htb := toL_get (pre := (foundR C).take (x.1 + 1)) hyb0 hyb1;have htc := toL_get (pre := (foundR C).take (x.1 + 1)) hyc0 hyc1;have hol := jN y;refine zH (zb (zg (zL (zg (za (SQ (zf rfl) (SQ (zf rfl) (SQ (zf rfl) ?_))))))))
   first | refine zy (hu2) zU24 sizeOf3 rfl rfl ?_ ?_ rfl ?_ | refine zy (hu3) zU24 sizeOf3 rfl rfl ?_ ?_ rfl ?_ | refine zy (hsC) zU24 sizeOf3 rfl rfl ?_ ?_ rfl ?_ | refine zy (hF.sl) zU24 sizeOf3 rfl rfl ?_ ?_ rfl ?_ | refine zy (hT.sl) zU24 sizeOf3 rfl rfl ?_ ?_ rfl ?_ | refine zy (hW.sl) zU24 sizeOf3 rfl rfl ?_ ?_ rfl ?_
   ·first | omega | (rw [qX]; omega)
   ·first | omega | (rw [qX]; omega)
   intro x30 hx30 hc30;have ex30 := Option.some.inj ((hel).symm.trans hx30); subst ex30;refine SQ (qd isAgg3 rfl ((hc30).cell 0 rfl)) (SQ (zf rfl) ?_)
   first | refine zy (hu2) zU24 sizeOf3 rfl rfl ?_ ?_ rfl ?_ | refine zy (hu3) zU24 sizeOf3 rfl rfl ?_ ?_ rfl ?_ | refine zy (hsC) zU24 sizeOf3 rfl rfl ?_ ?_ rfl ?_ | refine zy (hF.sl) zU24 sizeOf3 rfl rfl ?_ ?_ rfl ?_ | refine zy (hT.sl) zU24 sizeOf3 rfl rfl ?_ ?_ rfl ?_ | refine zy (hW.sl) zU24 sizeOf3 rfl rfl ?_ ?_ rfl ?_
   ·first | omega | (rw [qX]; omega)
   ·first | omega | (rw [qX]; omega)
   intro x33 hx33 hc33;refine q0 (n := 1) (o := 0) (elt := toR ((foundR C).take x.1) i) (elt' := ((x.1 : Nat) : Int)) hT rfl rfl rfl rfl sizeOf3 rfl (toL_get hi0 hi1) (Nat.le_refl 1) rfl ?_;intro ws6 hcs6 hOs6;have hz60 := hb0.size; have hz6 := hcs6.size;have e6 := toL_set (n := C.ops.length) hi0 hnp;rw [hpl] at e6;rw [e6, ← z4 hel] at hOs6;replace hbw := (btr hbw hb0).trans (hcs6.below (btr hbw hb0).size (fun k hk e => by have := hTo k e; omega));replace hF := hF.chg hcs6 (fun k e e2 => (hTo k e2).2.2 e);replace hW := hW.chg hcs6 (fun k e e2 => by have := (hW.lt e).1; have := hTo k e2; omega);replace hB1 := hB1.chg hcs6 (fun e => by have := hTo _ e; omega);replace hB2 := hB2.chg hcs6 (fun e => by have := hTo _ e; omega);replace hB5 := hB5.chg hcs6 (fun e => by have := hTo _ e; omega);replace hu2 := hu2.chg hcs6 (fun hp e => by have := hTo _ e; have := hlo2 hp; omega);replace hu3 := hu3.chg hcs6 (fun hp e => by have := hTo _ e; have := hlo3 hp; omega);replace hsC := hsC.chg hcs6 (fun hp e => by have := hTo _ e; have := hsl hp; omega);clear hT;have hT := hOs6;clear hc30 hc33;clear hb0;have hb0 := Below.refl ws6.heap.size ws6;refine zd ?_;refine zb ?_;refine zg ?_;refine jh 9 [[], [0], [], [], [2, 3], [4], [1, 5], [6], []] [det [] ?a7_0n2, det [0] ?a7_1n2, det [] ?a7_2n2, det [] ?a7_3n2, det [2, 3] ?a7_4n2, det [4] ?a7_5n2, det [1, 5] ?a7_6n2, det [6] ?a7_7n2, frs [] (AllocR [.int .u8 0, .int .i64 0, .int .i64 0, .int .i64 0, .int .i64 0] 76)] mixed (by kernel_rfl) rfl ⟨zn _ _, zn _ _, zn _ _, zn _ _, zn _ _, zn _ _, zn _ _, zn _ _, AllocR.stab _ _ _, trivial⟩ ?_ ?_; rotate_left 8
   ·refine zj ?_ ?_
    ·intro wq hbq
     refine zo ?_
     refine zz (zh z1 rfl) ?_; first | exact rfl | rfl
    refine zj ?_ ?_
    ·intro wq hbq
     refine zx rfl rfl (zo ?_)
     refine zz (zi ((hB1).below hbq) isAgg23 rfl rfl) ?_; first | exact rfl | rfl
    refine zj ?_ ?_
    ·intro wq hbq
     refine zo ?_
     refine zz (zf rfl) ?_; first | exact rfl | rfl
    refine zj ?_ ?_
    ·intro wq hbq
     refine zo ?_
     refine zz (zf rfl) ?_; first | exact rfl | rfl
    refine zj ?_ ?_
    ·intro wq hbq
     refine zx rfl rfl (zx rfl rfl (zo ?_))
     refine zz (qt (hF.sl.below hbq) zU24 sizeOf3 rfl rfl (by omega) (by omega)) ?_; first | exact rfl | rfl
    refine zj ?_ ?_
    ·intro wq hbq
     refine zx rfl rfl (zo ?_)
     refine zz (qd isAgg3 rfl (((hF.sl.cells (((x.1 : Nat) : Int)).toNat i hel).below hbq).cell 0 rfl)) ?_; first | exact rfl | rfl
    refine zj ?_ ?_
    ·intro wq hbq
     refine zx rfl rfl (zx rfl rfl (zo ?_))
     refine zz (qt (hu2.below hbq) zU23 sizeOf76 rfl rfl hi0 hi1) ?_; first | exact rfl | rfl
    refine zj ?_ ?_
    ·intro wq hbq
     refine zx rfl rfl (zo ?_)
     refine zz (qg isAgg76 sizeOf76 rfl ((hu2.cells i.toNat y hyi).below hbq) rfl) ?_; first | exact rfl | rfl
    refine zj ?_ ?_
    ·intro wq hbq
     refine zo ?_;exact Ex_alloc zeroValue76 rfl
    exact qD
   ·intro wa7 hba7
    replace hb0 := btr hb0 hba7;replace hB1 := hB1.below hba7;replace hB2 := hB2.below hba7;replace hB5 := hB5.below hba7;replace hu2 := hu2.below hba7;replace hu3 := hu3.below hba7;replace hsC := hsC.below hba7;replace hF := hF.below hba7;replace hT := hT.below hba7;replace hW := hW.below hba7;refine zq rfl (zq rfl (zq rfl (zq rfl (zq rfl (zq rfl (zq rfl (zq rfl (qY rfl ?_)))))))); intro v7 lo7 hi7 hR7 hlB7 hlh7 hhw7 hdj7;refine qH ?_
    simp only [List.drop_succ_cons, List.drop_zero]
    obtain ⟨b7, rfl, hB7, hlb7, hhb7⟩ := hR7
    have hle7 : ws6.heap.size ≤ b7 := by omega
    have ne_hF_b7 : ∀ k, v3.ownBlock = some k → ¬ k = b7 := fun k e e2 => by have := hFo k e; omega
    have ne_hT_b7 : ∀ k, v15.ownBlock = some k → ¬ k = b7 := fun k e e2 => by have := hTo k e; omega
    have ne_hW_b7 : ∀ k, x.2.ownBlock = some k → ¬ k = b7 := fun k e e2 => by have := hWu k e; omega
    have ne_hu2_b7 : 0 < C.ops.length → ¬ sb uO = b7 := fun hp e => by have := hlo2 hp; omega
    have ne_hu3_b7 : 0 < C.roots.length → ¬ sb uR = b7 := fun hp e => by have := hlo3 hp; omega
    have ne_hsC_b7 : 0 < C.ch.length → ¬ sb (.slice aC nC cC) = b7 := fun hp e => by have := hsl hp; omega
    have ne_b1_7 : ¬ b1 = b7 := by omega
    have ne_b2_7 : ¬ b2 = b7 := by omega
    have ne_b5_7 : ¬ b5 = b7 := by omega
    refine zm (hB7) rfl rfl rfl rfl sizeOf76 rfl rfl ?_;intro ws7x9 hchs7x9 hBs7x9;replace hb0 := bchg hb0 hchs7x9 hle7;replace hB1 := hB1.chg hchs7x9 ne_b1_7;replace hB2 := hB2.chg hchs7x9 ne_b2_7;replace hB5 := hB5.chg hchs7x9 ne_b5_7;replace hu2 := hu2.chg hchs7x9 ne_hu2_b7;replace hu3 := hu3.chg hchs7x9 ne_hu3_b7;replace hsC := hsC.chg hchs7x9 ne_hsC_b7;replace hF := hF.chg hchs7x9 (fun k e e2 => by first | exact ne_hF_b7 k e e2 | (have := hF.lt e; have := ne_hF_b7; omega));replace hT := hT.chg hchs7x9 (fun k e e2 => by first | exact ne_hT_b7 k e e2 | (have := hT.lt e; have := ne_hT_b7; omega));replace hW := hW.chg hchs7x9 (fun k e e2 => by first | exact ne_hW_b7 k e e2 | (have := hW.lt e; have := ne_hW_b7; omega));clear hB7;refine zd ?_;refine zb ?_;refine zg ?_;refine za ?_
    first | refine SQ (zC (hBs7x9) isAgg76 sizeOf76 rfl rfl) ?_ | refine SQ (zD (hBs7x9) isAgg76 sizeOf76 rfl rfl rfl) ?_
    refine qf rfl call46 rfl (f46_c y _ hyc.1 hyc.2.1) ?_;rintro v43 w43 hb43 ⟨hL, hLb⟩;replace hb0 := btr hb0 hb43;replace hB1 := hB1.below hb43;replace hB2 := hB2.below hb43;replace hB5 := hB5.below hb43;replace hu2 := hu2.below hb43;replace hu3 := hu3.below hb43;replace hsC := hsC.below hb43;replace hF := hF.below hb43;replace hT := hT.below hb43;replace hW := hW.below hb43;replace hBs7x9 := hBs7x9.below hb43
    first | refine SQ (zr (hu2) zU24 rfl) ?_ | refine SQ (zr (hu3) zU24 rfl) ?_ | refine SQ (zr (hsC) zU24 rfl) ?_ | refine SQ (zr (hL) zU24 rfl) ?_ | refine SQ (zr (hF.sl) zU24 rfl) ?_ | refine SQ (zr (hT.sl) zU24 rfl) ?_ | refine SQ (zr (hW.sl) zU24 rfl) ?_
    clear hL;refine SQ (ze rfl) (zd (zb (zg (zg (za (SQ (zf rfl) (SQ (qu rfl rfl) (zd (zb ?_)))))))));refine zw rfl ?_ ?_
    ·intro g46
     try simp only [dd] at g46
     refine za (SQ (zf rfl) (SQ (zh qs rfl) (SQ (zi (hBs7x9) isAgg3 rfl rfl) ?_)))
     first | refine zy (hu2) zU24 sizeOf3 rfl rfl ?_ ?_ rfl ?_ | refine zy (hu3) zU24 sizeOf3 rfl rfl ?_ ?_ rfl ?_ | refine zy (hsC) zU24 sizeOf3 rfl rfl ?_ ?_ rfl ?_ | refine zy (hF.sl) zU24 sizeOf3 rfl rfl ?_ ?_ rfl ?_ | refine zy (hT.sl) zU24 sizeOf3 rfl rfl ?_ ?_ rfl ?_ | refine zy (hW.sl) zU24 sizeOf3 rfl rfl ?_ ?_ rfl ?_
     ·first | omega | (rw [qX]; omega)
     ·first | omega | (rw [qX]; omega)
     intro x50 hx50 hc50;have ex50 := Option.some.inj ((hta).symm.trans hx50); subst ex50;refine SQ (qd isAgg3 rfl ((hc50).cell 0 rfl)) (SQ (zh qs rfl) (qz (hBs7x9) rfl rfl rfl rfl sizeOf3 rfl rfl ?_));intro ws10x6 hchs10x6 hBs10x6
     dsimp only [setAll, List.set] at hBs10x6
     replace hb0 := bchg hb0 hchs10x6 hle7;replace hB1 := hB1.chg hchs10x6 ne_b1_7;replace hB2 := hB2.chg hchs10x6 ne_b2_7;replace hB5 := hB5.chg hchs10x6 ne_b5_7;replace hu2 := hu2.chg hchs10x6 ne_hu2_b7;replace hu3 := hu3.chg hchs10x6 ne_hu3_b7;replace hsC := hsC.chg hchs10x6 ne_hsC_b7;replace hF := hF.chg hchs10x6 (fun k e e2 => by first | exact ne_hF_b7 k e e2 | (have := hF.lt e; have := ne_hF_b7; omega));replace hT := hT.chg hchs10x6 (fun k e e2 => by first | exact ne_hT_b7 k e e2 | (have := hT.lt e; have := ne_hT_b7; omega));replace hW := hW.chg hchs10x6 (fun k e e2 => by first | exact ne_hW_b7 k e e2 | (have := hW.lt e; have := ne_hW_b7; omega));clear hc50;clear hBs7x9;refine zd ?_;refine zb ?_;refine zg ?_;refine zg ?_;refine za ?_;refine SQ (zf rfl) ?_;refine SQ (qu rfl rfl) ?_;refine zd ?_;refine zb ?_;refine zw rfl ?_ ?_
     ·intro g54
      try simp only [dd] at g54
      refine za (SQ (zf rfl) (SQ (zh qE rfl) (SQ (zi (hBs10x6) isAgg3 rfl rfl) ?_)))
      first | refine zy (hu2) zU24 sizeOf3 rfl rfl ?_ ?_ rfl ?_ | refine zy (hu3) zU24 sizeOf3 rfl rfl ?_ ?_ rfl ?_ | refine zy (hsC) zU24 sizeOf3 rfl rfl ?_ ?_ rfl ?_ | refine zy (hF.sl) zU24 sizeOf3 rfl rfl ?_ ?_ rfl ?_ | refine zy (hT.sl) zU24 sizeOf3 rfl rfl ?_ ?_ rfl ?_ | refine zy (hW.sl) zU24 sizeOf3 rfl rfl ?_ ?_ rfl ?_
      ·first | omega | (rw [qX]; omega)
      ·first | omega | (rw [qX]; omega)
      intro x58 hx58 hc58;have ex58 := Option.some.inj ((htb).symm.trans hx58); subst ex58;refine SQ (qd isAgg3 rfl ((hc58).cell 0 rfl)) (SQ (zh qE rfl) (qz (hBs10x6) rfl rfl rfl rfl sizeOf3 rfl rfl ?_));intro ws12x6 hchs12x6 hBs12x6
      dsimp only [setAll, List.set] at hBs12x6
      replace hb0 := bchg hb0 hchs12x6 hle7;replace hB1 := hB1.chg hchs12x6 ne_b1_7;replace hB2 := hB2.chg hchs12x6 ne_b2_7;replace hB5 := hB5.chg hchs12x6 ne_b5_7;replace hu2 := hu2.chg hchs12x6 ne_hu2_b7;replace hu3 := hu3.chg hchs12x6 ne_hu3_b7;replace hsC := hsC.chg hchs12x6 ne_hsC_b7;replace hF := hF.chg hchs12x6 (fun k e e2 => by first | exact ne_hF_b7 k e e2 | (have := hF.lt e; have := ne_hF_b7; omega));replace hT := hT.chg hchs12x6 (fun k e e2 => by first | exact ne_hT_b7 k e e2 | (have := hT.lt e; have := ne_hT_b7; omega));replace hW := hW.chg hchs12x6 (fun k e e2 => by first | exact ne_hW_b7 k e e2 | (have := hW.lt e; have := ne_hW_b7; omega));clear hc58;clear hBs10x6;refine zd ?_;refine zb ?_;refine zg ?_;refine zg ?_;refine za ?_;refine SQ (zf rfl) ?_;refine SQ (qu rfl rfl) ?_;refine zd ?_;refine zb ?_;refine zw rfl ?_ ?_
      ·intro g62
       try simp only [dd] at g62
       refine za (SQ (zf rfl) (SQ (zh q5 rfl) (SQ (zi (hBs12x6) isAgg3 rfl rfl) ?_)))
       first | refine zy (hu2) zU24 sizeOf3 rfl rfl ?_ ?_ rfl ?_ | refine zy (hu3) zU24 sizeOf3 rfl rfl ?_ ?_ rfl ?_ | refine zy (hsC) zU24 sizeOf3 rfl rfl ?_ ?_ rfl ?_ | refine zy (hF.sl) zU24 sizeOf3 rfl rfl ?_ ?_ rfl ?_ | refine zy (hT.sl) zU24 sizeOf3 rfl rfl ?_ ?_ rfl ?_ | refine zy (hW.sl) zU24 sizeOf3 rfl rfl ?_ ?_ rfl ?_
       ·first | omega | (rw [qX]; omega)
       ·first | omega | (rw [qX]; omega)
       intro x66 hx66 hc66;have ex66 := Option.some.inj ((htc).symm.trans hx66); subst ex66;refine SQ (qd isAgg3 rfl ((hc66).cell 0 rfl)) (SQ (zh q5 rfl) (qz (hBs12x6) rfl rfl rfl rfl sizeOf3 rfl rfl ?_));intro ws14x6 hchs14x6 hBs14x6
       dsimp only [setAll, List.set] at hBs14x6
       replace hb0 := bchg hb0 hchs14x6 hle7;replace hB1 := hB1.chg hchs14x6 ne_b1_7;replace hB2 := hB2.chg hchs14x6 ne_b2_7;replace hB5 := hB5.chg hchs14x6 ne_b5_7;replace hu2 := hu2.chg hchs14x6 ne_hu2_b7;replace hu3 := hu3.chg hchs14x6 ne_hu3_b7;replace hsC := hsC.chg hchs14x6 ne_hsC_b7;replace hF := hF.chg hchs14x6 (fun k e e2 => by first | exact ne_hF_b7 k e e2 | (have := hF.lt e; have := ne_hF_b7; omega));replace hT := hT.chg hchs14x6 (fun k e e2 => by first | exact ne_hT_b7 k e e2 | (have := hT.lt e; have := ne_hT_b7; omega));replace hW := hW.chg hchs14x6 (fun k e e2 => by first | exact ne_hW_b7 k e e2 | (have := hW.lt e; have := ne_hW_b7; omega));clear hc66;clear hBs12x6;refine zd ?_;refine zb ?_;refine za ?_;refine SQ (zh z1 rfl) ?_;refine SQ (zi (hB5) isAgg23 rfl rfl) ?_
       first | refine SQ (zC (hBs14x6) isAgg76 sizeOf76 rfl rfl) ?_ | refine SQ (zD (hBs14x6) isAgg76 sizeOf76 rfl rfl rfl) ?_
       refine z2 (enc := encO) (val := valO) (os := [.tmp 71]) rfl rfl (MV.cons (x := (⟨y.code, toR ((foundR C).take (x.1 + 1)) y.a, toR ((foundR C).take (x.1 + 1)) y.b, toR ((foundR C).take (x.1 + 1)) y.c, y.n⟩ : Ot)) MV.nil) (fun _ => rfl) (fun _ => rfl) zU23 sizeOf76 zeroValue76 rfl (by decide) (by decide) rfl ?_;intro w72 v72 b72 e72 hb72 hz72 hob72 hO72
       have hle72 : ws6.heap.size ≤ b72 := by have := hb0.size; omega
       have lt_b1_72 : b1 < b72 := by have := hB1.lt; omega
       have lt_b2_72 : b2 < b72 := by have := hB2.lt; omega
       have lt_b5_72 : b5 < b72 := by have := hB5.lt; omega
       have lt_b7_72 : b7 < b72 := by have := hBs14x6.lt; omega
       replace hb0 := btr hb0 hb72;replace hB1 := hB1.below hb72;replace hB2 := hB2.below hb72;replace hB5 := hB5.below hb72;replace hu2 := hu2.below hb72;replace hu3 := hu3.below hb72;replace hsC := hsC.below hb72;replace hF := hF.below hb72;replace hT := hT.below hb72;replace hW := hW.below hb72;refine qr (hW) (hO72.sl) underlying23 info76 rfl rfl rfl (fun _ _ => rfl) (by simp only [List.length_append, List.length_cons, List.length_nil]; (try rw [qF, hpl]); omega) (by simp only [List.length_append, List.length_cons, List.length_nil]; (try rw [qF, hpl]); omega) (by have := hb0.size; omega) rfl ?_;intro v73 w73 hO73 hch73 hsn73;replace hbw := (btr hbw hb0).trans (hch73.below (btr hbw hb0).size (fun k hk e => by have := hWl k e; omega));have hz073 := hb0.size; have hz73 := hch73.size
       obtain ⟨a73, n73, c73, hv73⟩ : ∃ a n c, v73 = Value.slice a n c := by obtain ⟨a, c, h⟩ := hO73.sl.len; exact ⟨_, _, _, h⟩
       subst hv73;clear hb0;have hb0 := Below.refl w73.heap.size w73
       replace hB1 := (hB1.chg hch73 (fun e => by have := hWl _ e; omega))
       replace hB2 := (hB2.chg hch73 (fun e => by have := hWl _ e; omega))
       replace hB5 := (hB5.chg hch73 (fun e => by have := hWl _ e; omega))
       replace hu2 := (hu2.chg hch73 (fun hp e => by have := hlo2 hp; have := hWl _ e; omega))
       replace hu3 := (hu3.chg hch73 (fun hp e => by have := hlo3 hp; have := hWl _ e; omega))
       replace hsC := (hsC.chg hch73 (fun hp e => by have := hsl hp; have := hWl _ e; omega))
       replace hF := (hF.chg hch73 (fun k e e2 => by have := hFo k e; have := hWl k e2; omega))
       replace hT := (hT.chg hch73 (fun k e e2 => by have := hTo k e; have := hWl k e2; omega))
       clear hBs14x6;clear hO72;clear hW;refine SQ (zh z1 rfl) ?_
       have helt : (⟨y.code, toR ((foundR C).take (x.1 + 1)) y.a, toR ((foundR C).take (x.1 + 1)) y.b, toR ((foundR C).take (x.1 + 1)) y.c, y.n⟩ : Ot) = at0 (toR ((foundR C).take (x.1 + 1))) y := by unfold at0; rw [if_pos (show 1 ≤ arN y.code by omega), if_pos (show 2 ≤ arN y.code by omega), if_pos (show 3 ≤ arN y.code by omega)]
       rw [helt, z4 hel, j3 (fun n hn => (hbd n hn).2)] at hO73;refine qz (hB5) rfl rfl rfl rfl sizeOf23 rfl rfl ?_;intro ws15 hcs15 hBs15
       dsimp only [setAll, List.set] at hBs15
       replace hbw := (btr hbw hb0).trans (hcs15.below (btr hbw hb0).size (fun k hk e => by omega));replace hF := hF.chg hcs15 (fun k e e2 => by have := hFo k e; omega);replace hT := hT.chg hcs15 (fun k e e2 => by have := hTo k e; omega);replace hO73 := hO73.chg hcs15 (fun k e e2 => by have := (hO73.lt e).1; omega);replace hB1 := hB1.chg hcs15 (by omega);replace hB2 := hB2.chg hcs15 (by omega);replace hu2 := hu2.chg hcs15 (fun hp e => by have := hlo2 hp; omega);replace hu3 := hu3.chg hcs15 (fun hp e => by have := hlo3 hp; omega);replace hsC := hsC.chg hcs15 (fun hp e => (hsl hp).2.2 e);clear hB5;clear hb0;have hb0 := Below.refl ws15.heap.size ws15;refine zd ?_;refine zQ ?_;refine zb ?_;refine za ?_;refine SQ (zf rfl) ?_;refine SQ (qb rfl rfl (zS (by omega) (by omega))) ?_;refine SQ (ze rfl) ?_;refine zd ?_;refine qh ((x.1 + 1, _)) (by repeat (first | exact Sub.nil | refine Sub.cons rfl ?_)) ⟨by dsimp only; omega, btr hbw hb0, hB1, hB2, hBs15, ⟨hu2, hu3, hsC⟩, hF, hT, by dsimp only; rw [z4 hel, jo, hy]; exact hO73, by have := hb0.size; have := hcs15.size; omega⟩ (by dsimp only; omega)
      ·intro g62
       try simp only [dd] at g62
       refine zH (zb (za (SQ (zh z1 rfl) (SQ (zi (hB5) isAgg23 rfl rfl) ?_))))
       first | refine SQ (zC (hBs12x6) isAgg76 sizeOf76 rfl rfl) ?_ | refine SQ (zD (hBs12x6) isAgg76 sizeOf76 rfl rfl rfl) ?_
       refine z2 (enc := encO) (val := valO) (os := [.tmp 71]) rfl rfl (MV.cons (x := (⟨y.code, toR ((foundR C).take (x.1 + 1)) y.a, toR ((foundR C).take (x.1 + 1)) y.b, y.c, y.n⟩ : Ot)) MV.nil) (fun _ => rfl) (fun _ => rfl) zU23 sizeOf76 zeroValue76 rfl (by decide) (by decide) rfl ?_;intro w72 v72 b72 e72 hb72 hz72 hob72 hO72
       have hle72 : ws6.heap.size ≤ b72 := by have := hb0.size; omega
       have lt_b1_72 : b1 < b72 := by have := hB1.lt; omega
       have lt_b2_72 : b2 < b72 := by have := hB2.lt; omega
       have lt_b5_72 : b5 < b72 := by have := hB5.lt; omega
       have lt_b7_72 : b7 < b72 := by have := hBs12x6.lt; omega
       replace hb0 := btr hb0 hb72;replace hB1 := hB1.below hb72;replace hB2 := hB2.below hb72;replace hB5 := hB5.below hb72;replace hu2 := hu2.below hb72;replace hu3 := hu3.below hb72;replace hsC := hsC.below hb72;replace hF := hF.below hb72;replace hT := hT.below hb72;replace hW := hW.below hb72;refine qr (hW) (hO72.sl) underlying23 info76 rfl rfl rfl (fun _ _ => rfl) (by simp only [List.length_append, List.length_cons, List.length_nil]; (try rw [qF, hpl]); omega) (by simp only [List.length_append, List.length_cons, List.length_nil]; (try rw [qF, hpl]); omega) (by have := hb0.size; omega) rfl ?_;intro v73 w73 hO73 hch73 hsn73;replace hbw := (btr hbw hb0).trans (hch73.below (btr hbw hb0).size (fun k hk e => by have := hWl k e; omega));have hz073 := hb0.size; have hz73 := hch73.size
       obtain ⟨a73, n73, c73, hv73⟩ : ∃ a n c, v73 = Value.slice a n c := by obtain ⟨a, c, h⟩ := hO73.sl.len; exact ⟨_, _, _, h⟩
       subst hv73;clear hb0;have hb0 := Below.refl w73.heap.size w73
       replace hB1 := (hB1.chg hch73 (fun e => by have := hWl _ e; omega))
       replace hB2 := (hB2.chg hch73 (fun e => by have := hWl _ e; omega))
       replace hB5 := (hB5.chg hch73 (fun e => by have := hWl _ e; omega))
       replace hu2 := (hu2.chg hch73 (fun hp e => by have := hlo2 hp; have := hWl _ e; omega))
       replace hu3 := (hu3.chg hch73 (fun hp e => by have := hlo3 hp; have := hWl _ e; omega))
       replace hsC := (hsC.chg hch73 (fun hp e => by have := hsl hp; have := hWl _ e; omega))
       replace hF := (hF.chg hch73 (fun k e e2 => by have := hFo k e; have := hWl k e2; omega))
       replace hT := (hT.chg hch73 (fun k e e2 => by have := hTo k e; have := hWl k e2; omega))
       clear hBs12x6;clear hO72;clear hW;refine SQ (zh z1 rfl) ?_
       have helt : (⟨y.code, toR ((foundR C).take (x.1 + 1)) y.a, toR ((foundR C).take (x.1 + 1)) y.b, y.c, y.n⟩ : Ot) = at0 (toR ((foundR C).take (x.1 + 1))) y := by unfold at0; rw [if_pos (show 1 ≤ arN y.code by omega), if_pos (show 2 ≤ arN y.code by omega), if_neg (show ¬ 3 ≤ arN y.code by omega)]
       rw [helt, z4 hel, j3 (fun n hn => (hbd n hn).2)] at hO73;refine qz (hB5) rfl rfl rfl rfl sizeOf23 rfl rfl ?_;intro ws15 hcs15 hBs15
       dsimp only [setAll, List.set] at hBs15
       replace hbw := (btr hbw hb0).trans (hcs15.below (btr hbw hb0).size (fun k hk e => by omega));replace hF := hF.chg hcs15 (fun k e e2 => by have := hFo k e; omega);replace hT := hT.chg hcs15 (fun k e e2 => by have := hTo k e; omega);replace hO73 := hO73.chg hcs15 (fun k e e2 => by have := (hO73.lt e).1; omega);replace hB1 := hB1.chg hcs15 (by omega);replace hB2 := hB2.chg hcs15 (by omega);replace hu2 := hu2.chg hcs15 (fun hp e => by have := hlo2 hp; omega);replace hu3 := hu3.chg hcs15 (fun hp e => by have := hlo3 hp; omega);replace hsC := hsC.chg hcs15 (fun hp e => (hsl hp).2.2 e);clear hB5;clear hb0;have hb0 := Below.refl ws15.heap.size ws15;refine zd ?_;refine zQ ?_;refine zb ?_;refine za ?_;refine SQ (zf rfl) ?_;refine SQ (qb rfl rfl (zS (by omega) (by omega))) ?_;refine SQ (ze rfl) ?_;refine zd ?_;refine qh ((x.1 + 1, _)) (by repeat (first | exact Sub.nil | refine Sub.cons rfl ?_)) ⟨by dsimp only; omega, btr hbw hb0, hB1, hB2, hBs15, ⟨hu2, hu3, hsC⟩, hF, hT, by dsimp only; rw [z4 hel, jo, hy]; exact hO73, by have := hb0.size; have := hcs15.size; omega⟩ (by dsimp only; omega)
     ·intro g54
      try simp only [dd] at g54
      refine zH (zb (zg (zg (za (SQ (zf rfl) (SQ (qu rfl rfl) (zd (zb ?_))))))));refine zw rfl ?_ ?_
      ·intro g62
       try simp only [dd] at g62
       refine za (SQ (zf rfl) (SQ (zh q5 rfl) (SQ (zi (hBs10x6) isAgg3 rfl rfl) ?_)))
       first | refine zy (hu2) zU24 sizeOf3 rfl rfl ?_ ?_ rfl ?_ | refine zy (hu3) zU24 sizeOf3 rfl rfl ?_ ?_ rfl ?_ | refine zy (hsC) zU24 sizeOf3 rfl rfl ?_ ?_ rfl ?_ | refine zy (hF.sl) zU24 sizeOf3 rfl rfl ?_ ?_ rfl ?_ | refine zy (hT.sl) zU24 sizeOf3 rfl rfl ?_ ?_ rfl ?_ | refine zy (hW.sl) zU24 sizeOf3 rfl rfl ?_ ?_ rfl ?_
       ·first | omega | (rw [qX]; omega)
       ·first | omega | (rw [qX]; omega)
       intro x66 hx66 hc66;have ex66 := Option.some.inj ((htc).symm.trans hx66); subst ex66;refine SQ (qd isAgg3 rfl ((hc66).cell 0 rfl)) (SQ (zh q5 rfl) (qz (hBs10x6) rfl rfl rfl rfl sizeOf3 rfl rfl ?_));intro ws14x6 hchs14x6 hBs14x6
       dsimp only [setAll, List.set] at hBs14x6
       replace hb0 := bchg hb0 hchs14x6 hle7;replace hB1 := hB1.chg hchs14x6 ne_b1_7;replace hB2 := hB2.chg hchs14x6 ne_b2_7;replace hB5 := hB5.chg hchs14x6 ne_b5_7;replace hu2 := hu2.chg hchs14x6 ne_hu2_b7;replace hu3 := hu3.chg hchs14x6 ne_hu3_b7;replace hsC := hsC.chg hchs14x6 ne_hsC_b7;replace hF := hF.chg hchs14x6 (fun k e e2 => by first | exact ne_hF_b7 k e e2 | (have := hF.lt e; have := ne_hF_b7; omega));replace hT := hT.chg hchs14x6 (fun k e e2 => by first | exact ne_hT_b7 k e e2 | (have := hT.lt e; have := ne_hT_b7; omega));replace hW := hW.chg hchs14x6 (fun k e e2 => by first | exact ne_hW_b7 k e e2 | (have := hW.lt e; have := ne_hW_b7; omega));clear hc66;clear hBs10x6;refine zd ?_;refine zb ?_;refine za ?_;refine SQ (zh z1 rfl) ?_;refine SQ (zi (hB5) isAgg23 rfl rfl) ?_
       first | refine SQ (zC (hBs14x6) isAgg76 sizeOf76 rfl rfl) ?_ | refine SQ (zD (hBs14x6) isAgg76 sizeOf76 rfl rfl rfl) ?_
       refine z2 (enc := encO) (val := valO) (os := [.tmp 71]) rfl rfl (MV.cons (x := (⟨y.code, toR ((foundR C).take (x.1 + 1)) y.a, y.b, toR ((foundR C).take (x.1 + 1)) y.c, y.n⟩ : Ot)) MV.nil) (fun _ => rfl) (fun _ => rfl) zU23 sizeOf76 zeroValue76 rfl (by decide) (by decide) rfl ?_;intro w72 v72 b72 e72 hb72 hz72 hob72 hO72
       have hle72 : ws6.heap.size ≤ b72 := by have := hb0.size; omega
       have lt_b1_72 : b1 < b72 := by have := hB1.lt; omega
       have lt_b2_72 : b2 < b72 := by have := hB2.lt; omega
       have lt_b5_72 : b5 < b72 := by have := hB5.lt; omega
       have lt_b7_72 : b7 < b72 := by have := hBs14x6.lt; omega
       replace hb0 := btr hb0 hb72;replace hB1 := hB1.below hb72;replace hB2 := hB2.below hb72;replace hB5 := hB5.below hb72;replace hu2 := hu2.below hb72;replace hu3 := hu3.below hb72;replace hsC := hsC.below hb72;replace hF := hF.below hb72;replace hT := hT.below hb72;replace hW := hW.below hb72;refine qr (hW) (hO72.sl) underlying23 info76 rfl rfl rfl (fun _ _ => rfl) (by simp only [List.length_append, List.length_cons, List.length_nil]; (try rw [qF, hpl]); omega) (by simp only [List.length_append, List.length_cons, List.length_nil]; (try rw [qF, hpl]); omega) (by have := hb0.size; omega) rfl ?_;intro v73 w73 hO73 hch73 hsn73;replace hbw := (btr hbw hb0).trans (hch73.below (btr hbw hb0).size (fun k hk e => by have := hWl k e; omega));have hz073 := hb0.size; have hz73 := hch73.size
       obtain ⟨a73, n73, c73, hv73⟩ : ∃ a n c, v73 = Value.slice a n c := by obtain ⟨a, c, h⟩ := hO73.sl.len; exact ⟨_, _, _, h⟩
       subst hv73;clear hb0;have hb0 := Below.refl w73.heap.size w73
       replace hB1 := (hB1.chg hch73 (fun e => by have := hWl _ e; omega))
       replace hB2 := (hB2.chg hch73 (fun e => by have := hWl _ e; omega))
       replace hB5 := (hB5.chg hch73 (fun e => by have := hWl _ e; omega))
       replace hu2 := (hu2.chg hch73 (fun hp e => by have := hlo2 hp; have := hWl _ e; omega))
       replace hu3 := (hu3.chg hch73 (fun hp e => by have := hlo3 hp; have := hWl _ e; omega))
       replace hsC := (hsC.chg hch73 (fun hp e => by have := hsl hp; have := hWl _ e; omega))
       replace hF := (hF.chg hch73 (fun k e e2 => by have := hFo k e; have := hWl k e2; omega))
       replace hT := (hT.chg hch73 (fun k e e2 => by have := hTo k e; have := hWl k e2; omega))
       clear hBs14x6;clear hO72;clear hW;refine SQ (zh z1 rfl) ?_
       have helt : (⟨y.code, toR ((foundR C).take (x.1 + 1)) y.a, y.b, toR ((foundR C).take (x.1 + 1)) y.c, y.n⟩ : Ot) = at0 (toR ((foundR C).take (x.1 + 1))) y := by unfold at0; rw [if_pos (show 1 ≤ arN y.code by omega), if_neg (show ¬ 2 ≤ arN y.code by omega), if_pos (show 3 ≤ arN y.code by omega)]
       rw [helt, z4 hel, j3 (fun n hn => (hbd n hn).2)] at hO73;refine qz (hB5) rfl rfl rfl rfl sizeOf23 rfl rfl ?_;intro ws15 hcs15 hBs15
       dsimp only [setAll, List.set] at hBs15
       replace hbw := (btr hbw hb0).trans (hcs15.below (btr hbw hb0).size (fun k hk e => by omega));replace hF := hF.chg hcs15 (fun k e e2 => by have := hFo k e; omega);replace hT := hT.chg hcs15 (fun k e e2 => by have := hTo k e; omega);replace hO73 := hO73.chg hcs15 (fun k e e2 => by have := (hO73.lt e).1; omega);replace hB1 := hB1.chg hcs15 (by omega);replace hB2 := hB2.chg hcs15 (by omega);replace hu2 := hu2.chg hcs15 (fun hp e => by have := hlo2 hp; omega);replace hu3 := hu3.chg hcs15 (fun hp e => by have := hlo3 hp; omega);replace hsC := hsC.chg hcs15 (fun hp e => (hsl hp).2.2 e);clear hB5;clear hb0;have hb0 := Below.refl ws15.heap.size ws15;refine zd ?_;refine zQ ?_;refine zb ?_;refine za ?_;refine SQ (zf rfl) ?_;refine SQ (qb rfl rfl (zS (by omega) (by omega))) ?_;refine SQ (ze rfl) ?_;refine zd ?_;refine qh ((x.1 + 1, _)) (by repeat (first | exact Sub.nil | refine Sub.cons rfl ?_)) ⟨by dsimp only; omega, btr hbw hb0, hB1, hB2, hBs15, ⟨hu2, hu3, hsC⟩, hF, hT, by dsimp only; rw [z4 hel, jo, hy]; exact hO73, by have := hb0.size; have := hcs15.size; omega⟩ (by dsimp only; omega)
      ·intro g62
       try simp only [dd] at g62
       refine zH (zb (za (SQ (zh z1 rfl) (SQ (zi (hB5) isAgg23 rfl rfl) ?_))))
       first | refine SQ (zC (hBs10x6) isAgg76 sizeOf76 rfl rfl) ?_ | refine SQ (zD (hBs10x6) isAgg76 sizeOf76 rfl rfl rfl) ?_
       refine z2 (enc := encO) (val := valO) (os := [.tmp 71]) rfl rfl (MV.cons (x := (⟨y.code, toR ((foundR C).take (x.1 + 1)) y.a, y.b, y.c, y.n⟩ : Ot)) MV.nil) (fun _ => rfl) (fun _ => rfl) zU23 sizeOf76 zeroValue76 rfl (by decide) (by decide) rfl ?_;intro w72 v72 b72 e72 hb72 hz72 hob72 hO72
       have hle72 : ws6.heap.size ≤ b72 := by have := hb0.size; omega
       have lt_b1_72 : b1 < b72 := by have := hB1.lt; omega
       have lt_b2_72 : b2 < b72 := by have := hB2.lt; omega
       have lt_b5_72 : b5 < b72 := by have := hB5.lt; omega
       have lt_b7_72 : b7 < b72 := by have := hBs10x6.lt; omega
       replace hb0 := btr hb0 hb72;replace hB1 := hB1.below hb72;replace hB2 := hB2.below hb72;replace hB5 := hB5.below hb72;replace hu2 := hu2.below hb72;replace hu3 := hu3.below hb72;replace hsC := hsC.below hb72;replace hF := hF.below hb72;replace hT := hT.below hb72;replace hW := hW.below hb72;refine qr (hW) (hO72.sl) underlying23 info76 rfl rfl rfl (fun _ _ => rfl) (by simp only [List.length_append, List.length_cons, List.length_nil]; (try rw [qF, hpl]); omega) (by simp only [List.length_append, List.length_cons, List.length_nil]; (try rw [qF, hpl]); omega) (by have := hb0.size; omega) rfl ?_;intro v73 w73 hO73 hch73 hsn73;replace hbw := (btr hbw hb0).trans (hch73.below (btr hbw hb0).size (fun k hk e => by have := hWl k e; omega));have hz073 := hb0.size; have hz73 := hch73.size
       obtain ⟨a73, n73, c73, hv73⟩ : ∃ a n c, v73 = Value.slice a n c := by obtain ⟨a, c, h⟩ := hO73.sl.len; exact ⟨_, _, _, h⟩
       subst hv73;clear hb0;have hb0 := Below.refl w73.heap.size w73
       replace hB1 := (hB1.chg hch73 (fun e => by have := hWl _ e; omega))
       replace hB2 := (hB2.chg hch73 (fun e => by have := hWl _ e; omega))
       replace hB5 := (hB5.chg hch73 (fun e => by have := hWl _ e; omega))
       replace hu2 := (hu2.chg hch73 (fun hp e => by have := hlo2 hp; have := hWl _ e; omega))
       replace hu3 := (hu3.chg hch73 (fun hp e => by have := hlo3 hp; have := hWl _ e; omega))
       replace hsC := (hsC.chg hch73 (fun hp e => by have := hsl hp; have := hWl _ e; omega))
       replace hF := (hF.chg hch73 (fun k e e2 => by have := hFo k e; have := hWl k e2; omega))
       replace hT := (hT.chg hch73 (fun k e e2 => by have := hTo k e; have := hWl k e2; omega))
       clear hBs10x6;clear hO72;clear hW;refine SQ (zh z1 rfl) ?_
       have helt : (⟨y.code, toR ((foundR C).take (x.1 + 1)) y.a, y.b, y.c, y.n⟩ : Ot) = at0 (toR ((foundR C).take (x.1 + 1))) y := by unfold at0; rw [if_pos (show 1 ≤ arN y.code by omega), if_neg (show ¬ 2 ≤ arN y.code by omega), if_neg (show ¬ 3 ≤ arN y.code by omega)]
       rw [helt, z4 hel, j3 (fun n hn => (hbd n hn).2)] at hO73;refine qz (hB5) rfl rfl rfl rfl sizeOf23 rfl rfl ?_;intro ws15 hcs15 hBs15
       dsimp only [setAll, List.set] at hBs15
       replace hbw := (btr hbw hb0).trans (hcs15.below (btr hbw hb0).size (fun k hk e => by omega));replace hF := hF.chg hcs15 (fun k e e2 => by have := hFo k e; omega);replace hT := hT.chg hcs15 (fun k e e2 => by have := hTo k e; omega);replace hO73 := hO73.chg hcs15 (fun k e e2 => by have := (hO73.lt e).1; omega);replace hB1 := hB1.chg hcs15 (by omega);replace hB2 := hB2.chg hcs15 (by omega);replace hu2 := hu2.chg hcs15 (fun hp e => by have := hlo2 hp; omega);replace hu3 := hu3.chg hcs15 (fun hp e => by have := hlo3 hp; omega);replace hsC := hsC.chg hcs15 (fun hp e => (hsl hp).2.2 e);clear hB5;clear hb0;have hb0 := Below.refl ws15.heap.size ws15;refine zd ?_;refine zQ ?_;refine zb ?_;refine za ?_;refine SQ (zf rfl) ?_;refine SQ (qb rfl rfl (zS (by omega) (by omega))) ?_;refine SQ (ze rfl) ?_;refine zd ?_;refine qh ((x.1 + 1, _)) (by repeat (first | exact Sub.nil | refine Sub.cons rfl ?_)) ⟨by dsimp only; omega, btr hbw hb0, hB1, hB2, hBs15, ⟨hu2, hu3, hsC⟩, hF, hT, by dsimp only; rw [z4 hel, jo, hy]; exact hO73, by have := hb0.size; have := hcs15.size; omega⟩ (by dsimp only; omega)
    ·intro g46
     try simp only [dd] at g46
     refine zH (zb (zg (zg (za (SQ (zf rfl) (SQ (qu rfl rfl) (zd (zb ?_))))))));refine zw rfl ?_ ?_
     ·intro g54
      try simp only [dd] at g54
      refine za (SQ (zf rfl) (SQ (zh qE rfl) (SQ (zi (hBs7x9) isAgg3 rfl rfl) ?_)))
      first | refine zy (hu2) zU24 sizeOf3 rfl rfl ?_ ?_ rfl ?_ | refine zy (hu3) zU24 sizeOf3 rfl rfl ?_ ?_ rfl ?_ | refine zy (hsC) zU24 sizeOf3 rfl rfl ?_ ?_ rfl ?_ | refine zy (hF.sl) zU24 sizeOf3 rfl rfl ?_ ?_ rfl ?_ | refine zy (hT.sl) zU24 sizeOf3 rfl rfl ?_ ?_ rfl ?_ | refine zy (hW.sl) zU24 sizeOf3 rfl rfl ?_ ?_ rfl ?_
      ·first | omega | (rw [qX]; omega)
      ·first | omega | (rw [qX]; omega)
      intro x58 hx58 hc58;have ex58 := Option.some.inj ((htb).symm.trans hx58); subst ex58;refine SQ (qd isAgg3 rfl ((hc58).cell 0 rfl)) (SQ (zh qE rfl) (qz (hBs7x9) rfl rfl rfl rfl sizeOf3 rfl rfl ?_));intro ws12x6 hchs12x6 hBs12x6
      dsimp only [setAll, List.set] at hBs12x6
      replace hb0 := bchg hb0 hchs12x6 hle7;replace hB1 := hB1.chg hchs12x6 ne_b1_7;replace hB2 := hB2.chg hchs12x6 ne_b2_7;replace hB5 := hB5.chg hchs12x6 ne_b5_7;replace hu2 := hu2.chg hchs12x6 ne_hu2_b7;replace hu3 := hu3.chg hchs12x6 ne_hu3_b7;replace hsC := hsC.chg hchs12x6 ne_hsC_b7;replace hF := hF.chg hchs12x6 (fun k e e2 => by first | exact ne_hF_b7 k e e2 | (have := hF.lt e; have := ne_hF_b7; omega));replace hT := hT.chg hchs12x6 (fun k e e2 => by first | exact ne_hT_b7 k e e2 | (have := hT.lt e; have := ne_hT_b7; omega));replace hW := hW.chg hchs12x6 (fun k e e2 => by first | exact ne_hW_b7 k e e2 | (have := hW.lt e; have := ne_hW_b7; omega));clear hc58;clear hBs7x9;refine zd ?_;refine zb ?_;refine zg ?_;refine zg ?_;refine za ?_;refine SQ (zf rfl) ?_;refine SQ (qu rfl rfl) ?_;refine zd ?_;refine zb ?_;refine zw rfl ?_ ?_
      ·intro g62
       try simp only [dd] at g62
       refine za (SQ (zf rfl) (SQ (zh q5 rfl) (SQ (zi (hBs12x6) isAgg3 rfl rfl) ?_)))
       first | refine zy (hu2) zU24 sizeOf3 rfl rfl ?_ ?_ rfl ?_ | refine zy (hu3) zU24 sizeOf3 rfl rfl ?_ ?_ rfl ?_ | refine zy (hsC) zU24 sizeOf3 rfl rfl ?_ ?_ rfl ?_ | refine zy (hF.sl) zU24 sizeOf3 rfl rfl ?_ ?_ rfl ?_ | refine zy (hT.sl) zU24 sizeOf3 rfl rfl ?_ ?_ rfl ?_ | refine zy (hW.sl) zU24 sizeOf3 rfl rfl ?_ ?_ rfl ?_
       ·first | omega | (rw [qX]; omega)
       ·first | omega | (rw [qX]; omega)
       intro x66 hx66 hc66;have ex66 := Option.some.inj ((htc).symm.trans hx66); subst ex66;refine SQ (qd isAgg3 rfl ((hc66).cell 0 rfl)) (SQ (zh q5 rfl) (qz (hBs12x6) rfl rfl rfl rfl sizeOf3 rfl rfl ?_));intro ws14x6 hchs14x6 hBs14x6
       dsimp only [setAll, List.set] at hBs14x6
       replace hb0 := bchg hb0 hchs14x6 hle7;replace hB1 := hB1.chg hchs14x6 ne_b1_7;replace hB2 := hB2.chg hchs14x6 ne_b2_7;replace hB5 := hB5.chg hchs14x6 ne_b5_7;replace hu2 := hu2.chg hchs14x6 ne_hu2_b7;replace hu3 := hu3.chg hchs14x6 ne_hu3_b7;replace hsC := hsC.chg hchs14x6 ne_hsC_b7;replace hF := hF.chg hchs14x6 (fun k e e2 => by first | exact ne_hF_b7 k e e2 | (have := hF.lt e; have := ne_hF_b7; omega));replace hT := hT.chg hchs14x6 (fun k e e2 => by first | exact ne_hT_b7 k e e2 | (have := hT.lt e; have := ne_hT_b7; omega));replace hW := hW.chg hchs14x6 (fun k e e2 => by first | exact ne_hW_b7 k e e2 | (have := hW.lt e; have := ne_hW_b7; omega));clear hc66;clear hBs12x6;refine zd ?_;refine zb ?_;refine za ?_;refine SQ (zh z1 rfl) ?_;refine SQ (zi (hB5) isAgg23 rfl rfl) ?_
       first | refine SQ (zC (hBs14x6) isAgg76 sizeOf76 rfl rfl) ?_ | refine SQ (zD (hBs14x6) isAgg76 sizeOf76 rfl rfl rfl) ?_
       refine z2 (enc := encO) (val := valO) (os := [.tmp 71]) rfl rfl (MV.cons (x := (⟨y.code, y.a, toR ((foundR C).take (x.1 + 1)) y.b, toR ((foundR C).take (x.1 + 1)) y.c, y.n⟩ : Ot)) MV.nil) (fun _ => rfl) (fun _ => rfl) zU23 sizeOf76 zeroValue76 rfl (by decide) (by decide) rfl ?_;intro w72 v72 b72 e72 hb72 hz72 hob72 hO72
       have hle72 : ws6.heap.size ≤ b72 := by have := hb0.size; omega
       have lt_b1_72 : b1 < b72 := by have := hB1.lt; omega
       have lt_b2_72 : b2 < b72 := by have := hB2.lt; omega
       have lt_b5_72 : b5 < b72 := by have := hB5.lt; omega
       have lt_b7_72 : b7 < b72 := by have := hBs14x6.lt; omega
       replace hb0 := btr hb0 hb72;replace hB1 := hB1.below hb72;replace hB2 := hB2.below hb72;replace hB5 := hB5.below hb72;replace hu2 := hu2.below hb72;replace hu3 := hu3.below hb72;replace hsC := hsC.below hb72;replace hF := hF.below hb72;replace hT := hT.below hb72;replace hW := hW.below hb72;refine qr (hW) (hO72.sl) underlying23 info76 rfl rfl rfl (fun _ _ => rfl) (by simp only [List.length_append, List.length_cons, List.length_nil]; (try rw [qF, hpl]); omega) (by simp only [List.length_append, List.length_cons, List.length_nil]; (try rw [qF, hpl]); omega) (by have := hb0.size; omega) rfl ?_;intro v73 w73 hO73 hch73 hsn73;replace hbw := (btr hbw hb0).trans (hch73.below (btr hbw hb0).size (fun k hk e => by have := hWl k e; omega));have hz073 := hb0.size; have hz73 := hch73.size
       obtain ⟨a73, n73, c73, hv73⟩ : ∃ a n c, v73 = Value.slice a n c := by obtain ⟨a, c, h⟩ := hO73.sl.len; exact ⟨_, _, _, h⟩
       subst hv73;clear hb0;have hb0 := Below.refl w73.heap.size w73
       replace hB1 := (hB1.chg hch73 (fun e => by have := hWl _ e; omega))
       replace hB2 := (hB2.chg hch73 (fun e => by have := hWl _ e; omega))
       replace hB5 := (hB5.chg hch73 (fun e => by have := hWl _ e; omega))
       replace hu2 := (hu2.chg hch73 (fun hp e => by have := hlo2 hp; have := hWl _ e; omega))
       replace hu3 := (hu3.chg hch73 (fun hp e => by have := hlo3 hp; have := hWl _ e; omega))
       replace hsC := (hsC.chg hch73 (fun hp e => by have := hsl hp; have := hWl _ e; omega))
       replace hF := (hF.chg hch73 (fun k e e2 => by have := hFo k e; have := hWl k e2; omega))
       replace hT := (hT.chg hch73 (fun k e e2 => by have := hTo k e; have := hWl k e2; omega))
       clear hBs14x6;clear hO72;clear hW;refine SQ (zh z1 rfl) ?_
       have helt : (⟨y.code, y.a, toR ((foundR C).take (x.1 + 1)) y.b, toR ((foundR C).take (x.1 + 1)) y.c, y.n⟩ : Ot) = at0 (toR ((foundR C).take (x.1 + 1))) y := by unfold at0; rw [if_neg (show ¬ 1 ≤ arN y.code by omega), if_pos (show 2 ≤ arN y.code by omega), if_pos (show 3 ≤ arN y.code by omega)]
       rw [helt, z4 hel, j3 (fun n hn => (hbd n hn).2)] at hO73;refine qz (hB5) rfl rfl rfl rfl sizeOf23 rfl rfl ?_;intro ws15 hcs15 hBs15
       dsimp only [setAll, List.set] at hBs15
       replace hbw := (btr hbw hb0).trans (hcs15.below (btr hbw hb0).size (fun k hk e => by omega));replace hF := hF.chg hcs15 (fun k e e2 => by have := hFo k e; omega);replace hT := hT.chg hcs15 (fun k e e2 => by have := hTo k e; omega);replace hO73 := hO73.chg hcs15 (fun k e e2 => by have := (hO73.lt e).1; omega);replace hB1 := hB1.chg hcs15 (by omega);replace hB2 := hB2.chg hcs15 (by omega);replace hu2 := hu2.chg hcs15 (fun hp e => by have := hlo2 hp; omega);replace hu3 := hu3.chg hcs15 (fun hp e => by have := hlo3 hp; omega);replace hsC := hsC.chg hcs15 (fun hp e => (hsl hp).2.2 e);clear hB5;clear hb0;have hb0 := Below.refl ws15.heap.size ws15;refine zd ?_;refine zQ ?_;refine zb ?_;refine za ?_;refine SQ (zf rfl) ?_;refine SQ (qb rfl rfl (zS (by omega) (by omega))) ?_;refine SQ (ze rfl) ?_;refine zd ?_;refine qh ((x.1 + 1, _)) (by repeat (first | exact Sub.nil | refine Sub.cons rfl ?_)) ⟨by dsimp only; omega, btr hbw hb0, hB1, hB2, hBs15, ⟨hu2, hu3, hsC⟩, hF, hT, by dsimp only; rw [z4 hel, jo, hy]; exact hO73, by have := hb0.size; have := hcs15.size; omega⟩ (by dsimp only; omega)
      ·intro g62
       try simp only [dd] at g62
       refine zH (zb (za (SQ (zh z1 rfl) (SQ (zi (hB5) isAgg23 rfl rfl) ?_))))
       first | refine SQ (zC (hBs12x6) isAgg76 sizeOf76 rfl rfl) ?_ | refine SQ (zD (hBs12x6) isAgg76 sizeOf76 rfl rfl rfl) ?_
       refine z2 (enc := encO) (val := valO) (os := [.tmp 71]) rfl rfl (MV.cons (x := (⟨y.code, y.a, toR ((foundR C).take (x.1 + 1)) y.b, y.c, y.n⟩ : Ot)) MV.nil) (fun _ => rfl) (fun _ => rfl) zU23 sizeOf76 zeroValue76 rfl (by decide) (by decide) rfl ?_;intro w72 v72 b72 e72 hb72 hz72 hob72 hO72
       have hle72 : ws6.heap.size ≤ b72 := by have := hb0.size; omega
       have lt_b1_72 : b1 < b72 := by have := hB1.lt; omega
       have lt_b2_72 : b2 < b72 := by have := hB2.lt; omega
       have lt_b5_72 : b5 < b72 := by have := hB5.lt; omega
       have lt_b7_72 : b7 < b72 := by have := hBs12x6.lt; omega
       replace hb0 := btr hb0 hb72;replace hB1 := hB1.below hb72;replace hB2 := hB2.below hb72;replace hB5 := hB5.below hb72;replace hu2 := hu2.below hb72;replace hu3 := hu3.below hb72;replace hsC := hsC.below hb72;replace hF := hF.below hb72;replace hT := hT.below hb72;replace hW := hW.below hb72;refine qr (hW) (hO72.sl) underlying23 info76 rfl rfl rfl (fun _ _ => rfl) (by simp only [List.length_append, List.length_cons, List.length_nil]; (try rw [qF, hpl]); omega) (by simp only [List.length_append, List.length_cons, List.length_nil]; (try rw [qF, hpl]); omega) (by have := hb0.size; omega) rfl ?_;intro v73 w73 hO73 hch73 hsn73;replace hbw := (btr hbw hb0).trans (hch73.below (btr hbw hb0).size (fun k hk e => by have := hWl k e; omega));have hz073 := hb0.size; have hz73 := hch73.size
       obtain ⟨a73, n73, c73, hv73⟩ : ∃ a n c, v73 = Value.slice a n c := by obtain ⟨a, c, h⟩ := hO73.sl.len; exact ⟨_, _, _, h⟩
       subst hv73;clear hb0;have hb0 := Below.refl w73.heap.size w73
       replace hB1 := (hB1.chg hch73 (fun e => by have := hWl _ e; omega))
       replace hB2 := (hB2.chg hch73 (fun e => by have := hWl _ e; omega))
       replace hB5 := (hB5.chg hch73 (fun e => by have := hWl _ e; omega))
       replace hu2 := (hu2.chg hch73 (fun hp e => by have := hlo2 hp; have := hWl _ e; omega))
       replace hu3 := (hu3.chg hch73 (fun hp e => by have := hlo3 hp; have := hWl _ e; omega))
       replace hsC := (hsC.chg hch73 (fun hp e => by have := hsl hp; have := hWl _ e; omega))
       replace hF := (hF.chg hch73 (fun k e e2 => by have := hFo k e; have := hWl k e2; omega))
       replace hT := (hT.chg hch73 (fun k e e2 => by have := hTo k e; have := hWl k e2; omega))
       clear hBs12x6;clear hO72;clear hW;refine SQ (zh z1 rfl) ?_
       have helt : (⟨y.code, y.a, toR ((foundR C).take (x.1 + 1)) y.b, y.c, y.n⟩ : Ot) = at0 (toR ((foundR C).take (x.1 + 1))) y := by unfold at0; rw [if_neg (show ¬ 1 ≤ arN y.code by omega), if_pos (show 2 ≤ arN y.code by omega), if_neg (show ¬ 3 ≤ arN y.code by omega)]
       rw [helt, z4 hel, j3 (fun n hn => (hbd n hn).2)] at hO73;refine qz (hB5) rfl rfl rfl rfl sizeOf23 rfl rfl ?_;intro ws15 hcs15 hBs15
       dsimp only [setAll, List.set] at hBs15
       replace hbw := (btr hbw hb0).trans (hcs15.below (btr hbw hb0).size (fun k hk e => by omega));replace hF := hF.chg hcs15 (fun k e e2 => by have := hFo k e; omega);replace hT := hT.chg hcs15 (fun k e e2 => by have := hTo k e; omega);replace hO73 := hO73.chg hcs15 (fun k e e2 => by have := (hO73.lt e).1; omega);replace hB1 := hB1.chg hcs15 (by omega);replace hB2 := hB2.chg hcs15 (by omega);replace hu2 := hu2.chg hcs15 (fun hp e => by have := hlo2 hp; omega);replace hu3 := hu3.chg hcs15 (fun hp e => by have := hlo3 hp; omega);replace hsC := hsC.chg hcs15 (fun hp e => (hsl hp).2.2 e);clear hB5;clear hb0;have hb0 := Below.refl ws15.heap.size ws15;refine zd ?_;refine zQ ?_;refine zb ?_;refine za ?_;refine SQ (zf rfl) ?_;refine SQ (qb rfl rfl (zS (by omega) (by omega))) ?_;refine SQ (ze rfl) ?_;refine zd ?_;refine qh ((x.1 + 1, _)) (by repeat (first | exact Sub.nil | refine Sub.cons rfl ?_)) ⟨by dsimp only; omega, btr hbw hb0, hB1, hB2, hBs15, ⟨hu2, hu3, hsC⟩, hF, hT, by dsimp only; rw [z4 hel, jo, hy]; exact hO73, by have := hb0.size; have := hcs15.size; omega⟩ (by dsimp only; omega)
     ·intro g54
      try simp only [dd] at g54
      refine zH (zb (zg (zg (za (SQ (zf rfl) (SQ (qu rfl rfl) (zd (zb ?_))))))));refine zw rfl ?_ ?_
      ·intro g62
       try simp only [dd] at g62
       refine za (SQ (zf rfl) (SQ (zh q5 rfl) (SQ (zi (hBs7x9) isAgg3 rfl rfl) ?_)))
       first | refine zy (hu2) zU24 sizeOf3 rfl rfl ?_ ?_ rfl ?_ | refine zy (hu3) zU24 sizeOf3 rfl rfl ?_ ?_ rfl ?_ | refine zy (hsC) zU24 sizeOf3 rfl rfl ?_ ?_ rfl ?_ | refine zy (hF.sl) zU24 sizeOf3 rfl rfl ?_ ?_ rfl ?_ | refine zy (hT.sl) zU24 sizeOf3 rfl rfl ?_ ?_ rfl ?_ | refine zy (hW.sl) zU24 sizeOf3 rfl rfl ?_ ?_ rfl ?_
       ·first | omega | (rw [qX]; omega)
       ·first | omega | (rw [qX]; omega)
       intro x66 hx66 hc66;have ex66 := Option.some.inj ((htc).symm.trans hx66); subst ex66;refine SQ (qd isAgg3 rfl ((hc66).cell 0 rfl)) (SQ (zh q5 rfl) (qz (hBs7x9) rfl rfl rfl rfl sizeOf3 rfl rfl ?_));intro ws14x6 hchs14x6 hBs14x6
       dsimp only [setAll, List.set] at hBs14x6
       replace hb0 := bchg hb0 hchs14x6 hle7;replace hB1 := hB1.chg hchs14x6 ne_b1_7;replace hB2 := hB2.chg hchs14x6 ne_b2_7;replace hB5 := hB5.chg hchs14x6 ne_b5_7;replace hu2 := hu2.chg hchs14x6 ne_hu2_b7;replace hu3 := hu3.chg hchs14x6 ne_hu3_b7;replace hsC := hsC.chg hchs14x6 ne_hsC_b7;replace hF := hF.chg hchs14x6 (fun k e e2 => by first | exact ne_hF_b7 k e e2 | (have := hF.lt e; have := ne_hF_b7; omega));replace hT := hT.chg hchs14x6 (fun k e e2 => by first | exact ne_hT_b7 k e e2 | (have := hT.lt e; have := ne_hT_b7; omega));replace hW := hW.chg hchs14x6 (fun k e e2 => by first | exact ne_hW_b7 k e e2 | (have := hW.lt e; have := ne_hW_b7; omega));clear hc66;clear hBs7x9;refine zd ?_;refine zb ?_;refine za ?_;refine SQ (zh z1 rfl) ?_;refine SQ (zi (hB5) isAgg23 rfl rfl) ?_
       first | refine SQ (zC (hBs14x6) isAgg76 sizeOf76 rfl rfl) ?_ | refine SQ (zD (hBs14x6) isAgg76 sizeOf76 rfl rfl rfl) ?_
       refine z2 (enc := encO) (val := valO) (os := [.tmp 71]) rfl rfl (MV.cons (x := (⟨y.code, y.a, y.b, toR ((foundR C).take (x.1 + 1)) y.c, y.n⟩ : Ot)) MV.nil) (fun _ => rfl) (fun _ => rfl) zU23 sizeOf76 zeroValue76 rfl (by decide) (by decide) rfl ?_;intro w72 v72 b72 e72 hb72 hz72 hob72 hO72
       have hle72 : ws6.heap.size ≤ b72 := by have := hb0.size; omega
       have lt_b1_72 : b1 < b72 := by have := hB1.lt; omega
       have lt_b2_72 : b2 < b72 := by have := hB2.lt; omega
       have lt_b5_72 : b5 < b72 := by have := hB5.lt; omega
       have lt_b7_72 : b7 < b72 := by have := hBs14x6.lt; omega
       replace hb0 := btr hb0 hb72;replace hB1 := hB1.below hb72;replace hB2 := hB2.below hb72;replace hB5 := hB5.below hb72;replace hu2 := hu2.below hb72;replace hu3 := hu3.below hb72;replace hsC := hsC.below hb72;replace hF := hF.below hb72;replace hT := hT.below hb72;replace hW := hW.below hb72;refine qr (hW) (hO72.sl) underlying23 info76 rfl rfl rfl (fun _ _ => rfl) (by simp only [List.length_append, List.length_cons, List.length_nil]; (try rw [qF, hpl]); omega) (by simp only [List.length_append, List.length_cons, List.length_nil]; (try rw [qF, hpl]); omega) (by have := hb0.size; omega) rfl ?_;intro v73 w73 hO73 hch73 hsn73;replace hbw := (btr hbw hb0).trans (hch73.below (btr hbw hb0).size (fun k hk e => by have := hWl k e; omega));have hz073 := hb0.size; have hz73 := hch73.size
       obtain ⟨a73, n73, c73, hv73⟩ : ∃ a n c, v73 = Value.slice a n c := by obtain ⟨a, c, h⟩ := hO73.sl.len; exact ⟨_, _, _, h⟩
       subst hv73;clear hb0;have hb0 := Below.refl w73.heap.size w73
       replace hB1 := (hB1.chg hch73 (fun e => by have := hWl _ e; omega))
       replace hB2 := (hB2.chg hch73 (fun e => by have := hWl _ e; omega))
       replace hB5 := (hB5.chg hch73 (fun e => by have := hWl _ e; omega))
       replace hu2 := (hu2.chg hch73 (fun hp e => by have := hlo2 hp; have := hWl _ e; omega))
       replace hu3 := (hu3.chg hch73 (fun hp e => by have := hlo3 hp; have := hWl _ e; omega))
       replace hsC := (hsC.chg hch73 (fun hp e => by have := hsl hp; have := hWl _ e; omega))
       replace hF := (hF.chg hch73 (fun k e e2 => by have := hFo k e; have := hWl k e2; omega))
       replace hT := (hT.chg hch73 (fun k e e2 => by have := hTo k e; have := hWl k e2; omega))
       clear hBs14x6;clear hO72;clear hW;refine SQ (zh z1 rfl) ?_
       have helt : (⟨y.code, y.a, y.b, toR ((foundR C).take (x.1 + 1)) y.c, y.n⟩ : Ot) = at0 (toR ((foundR C).take (x.1 + 1))) y := by unfold at0; rw [if_neg (show ¬ 1 ≤ arN y.code by omega), if_neg (show ¬ 2 ≤ arN y.code by omega), if_pos (show 3 ≤ arN y.code by omega)]
       rw [helt, z4 hel, j3 (fun n hn => (hbd n hn).2)] at hO73;refine qz (hB5) rfl rfl rfl rfl sizeOf23 rfl rfl ?_;intro ws15 hcs15 hBs15
       dsimp only [setAll, List.set] at hBs15
       replace hbw := (btr hbw hb0).trans (hcs15.below (btr hbw hb0).size (fun k hk e => by omega));replace hF := hF.chg hcs15 (fun k e e2 => by have := hFo k e; omega);replace hT := hT.chg hcs15 (fun k e e2 => by have := hTo k e; omega);replace hO73 := hO73.chg hcs15 (fun k e e2 => by have := (hO73.lt e).1; omega);replace hB1 := hB1.chg hcs15 (by omega);replace hB2 := hB2.chg hcs15 (by omega);replace hu2 := hu2.chg hcs15 (fun hp e => by have := hlo2 hp; omega);replace hu3 := hu3.chg hcs15 (fun hp e => by have := hlo3 hp; omega);replace hsC := hsC.chg hcs15 (fun hp e => (hsl hp).2.2 e);clear hB5;clear hb0;have hb0 := Below.refl ws15.heap.size ws15;refine zd ?_;refine zQ ?_;refine zb ?_;refine za ?_;refine SQ (zf rfl) ?_;refine SQ (qb rfl rfl (zS (by omega) (by omega))) ?_;refine SQ (ze rfl) ?_;refine zd ?_;refine qh ((x.1 + 1, _)) (by repeat (first | exact Sub.nil | refine Sub.cons rfl ?_)) ⟨by dsimp only; omega, btr hbw hb0, hB1, hB2, hBs15, ⟨hu2, hu3, hsC⟩, hF, hT, by dsimp only; rw [z4 hel, jo, hy]; exact hO73, by have := hb0.size; have := hcs15.size; omega⟩ (by dsimp only; omega)
      ·intro g62
       try simp only [dd] at g62
       refine zH (zb (za (SQ (zh z1 rfl) (SQ (zi (hB5) isAgg23 rfl rfl) ?_))))
       first | refine SQ (zC (hBs7x9) isAgg76 sizeOf76 rfl rfl) ?_ | refine SQ (zD (hBs7x9) isAgg76 sizeOf76 rfl rfl rfl) ?_
       refine z2 (enc := encO) (val := valO) (os := [.tmp 71]) rfl rfl (MV.cons (x := (⟨y.code, y.a, y.b, y.c, y.n⟩ : Ot)) MV.nil) (fun _ => rfl) (fun _ => rfl) zU23 sizeOf76 zeroValue76 rfl (by decide) (by decide) rfl ?_;intro w72 v72 b72 e72 hb72 hz72 hob72 hO72
       have hle72 : ws6.heap.size ≤ b72 := by have := hb0.size; omega
       have lt_b1_72 : b1 < b72 := by have := hB1.lt; omega
       have lt_b2_72 : b2 < b72 := by have := hB2.lt; omega
       have lt_b5_72 : b5 < b72 := by have := hB5.lt; omega
       have lt_b7_72 : b7 < b72 := by have := hBs7x9.lt; omega
       replace hb0 := btr hb0 hb72;replace hB1 := hB1.below hb72;replace hB2 := hB2.below hb72;replace hB5 := hB5.below hb72;replace hu2 := hu2.below hb72;replace hu3 := hu3.below hb72;replace hsC := hsC.below hb72;replace hF := hF.below hb72;replace hT := hT.below hb72;replace hW := hW.below hb72;refine qr (hW) (hO72.sl) underlying23 info76 rfl rfl rfl (fun _ _ => rfl) (by simp only [List.length_append, List.length_cons, List.length_nil]; (try rw [qF, hpl]); omega) (by simp only [List.length_append, List.length_cons, List.length_nil]; (try rw [qF, hpl]); omega) (by have := hb0.size; omega) rfl ?_;intro v73 w73 hO73 hch73 hsn73;replace hbw := (btr hbw hb0).trans (hch73.below (btr hbw hb0).size (fun k hk e => by have := hWl k e; omega));have hz073 := hb0.size; have hz73 := hch73.size
       obtain ⟨a73, n73, c73, hv73⟩ : ∃ a n c, v73 = Value.slice a n c := by obtain ⟨a, c, h⟩ := hO73.sl.len; exact ⟨_, _, _, h⟩
       subst hv73;clear hb0;have hb0 := Below.refl w73.heap.size w73
       replace hB1 := (hB1.chg hch73 (fun e => by have := hWl _ e; omega))
       replace hB2 := (hB2.chg hch73 (fun e => by have := hWl _ e; omega))
       replace hB5 := (hB5.chg hch73 (fun e => by have := hWl _ e; omega))
       replace hu2 := (hu2.chg hch73 (fun hp e => by have := hlo2 hp; have := hWl _ e; omega))
       replace hu3 := (hu3.chg hch73 (fun hp e => by have := hlo3 hp; have := hWl _ e; omega))
       replace hsC := (hsC.chg hch73 (fun hp e => by have := hsl hp; have := hWl _ e; omega))
       replace hF := (hF.chg hch73 (fun k e e2 => by have := hFo k e; have := hWl k e2; omega))
       replace hT := (hT.chg hch73 (fun k e e2 => by have := hTo k e; have := hWl k e2; omega))
       clear hBs7x9;clear hO72;clear hW;refine SQ (zh z1 rfl) ?_
       have helt : (⟨y.code, y.a, y.b, y.c, y.n⟩ : Ot) = at0 (toR ((foundR C).take (x.1 + 1))) y := by unfold at0; rw [if_neg (show ¬ 1 ≤ arN y.code by omega), if_neg (show ¬ 2 ≤ arN y.code by omega), if_neg (show ¬ 3 ≤ arN y.code by omega)]
       rw [helt, z4 hel, j3 (fun n hn => (hbd n hn).2)] at hO73;refine qz (hB5) rfl rfl rfl rfl sizeOf23 rfl rfl ?_;intro ws15 hcs15 hBs15
       dsimp only [setAll, List.set] at hBs15
       replace hbw := (btr hbw hb0).trans (hcs15.below (btr hbw hb0).size (fun k hk e => by omega));replace hF := hF.chg hcs15 (fun k e e2 => by have := hFo k e; omega);replace hT := hT.chg hcs15 (fun k e e2 => by have := hTo k e; omega);replace hO73 := hO73.chg hcs15 (fun k e e2 => by have := (hO73.lt e).1; omega);replace hB1 := hB1.chg hcs15 (by omega);replace hB2 := hB2.chg hcs15 (by omega);replace hu2 := hu2.chg hcs15 (fun hp e => by have := hlo2 hp; omega);replace hu3 := hu3.chg hcs15 (fun hp e => by have := hlo3 hp; omega);replace hsC := hsC.chg hcs15 (fun hp e => (hsl hp).2.2 e);clear hB5;clear hb0;have hb0 := Below.refl ws15.heap.size ws15;refine zd ?_;refine zQ ?_;refine zb ?_;refine za ?_;refine SQ (zf rfl) ?_;refine SQ (qb rfl rfl (zS (by omega) (by omega))) ?_;refine SQ (ze rfl) ?_;refine zd ?_;refine qh ((x.1 + 1, _)) (by repeat (first | exact Sub.nil | refine Sub.cons rfl ?_)) ⟨by dsimp only; omega, btr hbw hb0, hB1, hB2, hBs15, ⟨hu2, hu3, hsC⟩, hF, hT, by dsimp only; rw [z4 hel, jo, hy]; exact hO73, by have := hb0.size; have := hcs15.size; omega⟩ (by dsimp only; omega)
  ·intro g24
   try simp only [dd] at g24
   have hxe : (foundR C).length ≤ x.1 := by omega
   rw [List.take_of_length_le hxe] at hT hW
   obtain ⟨aO, nO, cO, hvO⟩ : ∃ a n c, x.2 = Value.slice a n c := by obtain ⟨a, c, h⟩ := hW.sl.len; exact ⟨_, _, _, h⟩
   rw [hvO] at hB5 hW;have hV := hW;clear hW
   have hVu : ∀ k, Value.ownBlock (.slice aO nO cO) = some k → k < wl0.heap.size := fun k e => (hV.lt e).2
   have hVl : ∀ k, Value.ownBlock (.slice aO nO cO) = some k → ws2x6.heap.size ≤ k := fun k e => (hV.lt e).1
   refine qk (z0 (z9 ?_));refine zX (zb (zg (zg (za (SQ (ze rfl) (zd (zb (zL ?_))))))));refine qo (α := Nat × Value) (fun z => [(9, .int .i64 (z.1 : Nat)), (4, v15), (1, .pointer (some ⟨b1, 0, none⟩)), (2, .pointer (some ⟨b2, 0, none⟩)), (5, .pointer (some ⟨b5, 0, none⟩))]) (fun z w' => z.1 ≤ C.roots.length ∧ Below w.heap.size w w' ∧ Blk w' b1 [uC, uO, uR] 26 ∧ Blk w' b2 [.slice none 0 0, .slice none 0 0, .slice none 0 0] 26 ∧ Blk w' b5 [.slice aC nC cC, .slice aO nO cO, z.2] 26 ∧ (SL w' uR 1 encI C.roots ∧ SL w' (.slice aC nC cC) 3 encC C.ch) ∧ OS w' v15 3 1 encI (toL C.ops.length (foundR C)) w2.heap.size ∧ OS w' (.slice aO nO cO) 76 5 encO (tidyO C.ops (foundR C)) ws2x6.heap.size ∧ OS w' z.2 3 1 encI ((C.roots.take z.1).map (toR (foundR C))) wl0.heap.size ∧ wl0.heap.size ≤ w'.heap.size ∧ (∀ k, z.2.ownBlock = some k → Value.ownBlock (.slice aO nO cO) ≠ some k)) (fun z => C.roots.length - z.1) ((0, .slice none 0 0)) (by repeat (first | exact Sub.nil | refine Sub.cons rfl ?_)) ⟨Nat.zero_le _, btr hbw hb0, hB1, hB2, hB5, ⟨hu3, hsC⟩, hT, hV, OS.nil (fun _ => rfl) (by decide), hb0.size, fun k e => (by cases e)⟩ ?_;clear hb0;clear hB1;clear hB2;clear hB5;clear hu2;clear hu3;clear hsC;clear hF;clear hT;clear hV;rintro z wl1 ⟨hzi, hbw, hB1, hB2, hB5, ⟨hu3, hsC⟩, hT, hV, hZ, hzw, hzv⟩;have hb0 := Below.refl wl1.heap.size wl1;refine zg (zg (za (SQ (zf rfl) (SQ (zh qI rfl) (SQ (zi (hB1) isAgg24 rfl rfl) ?_)))))
   first | refine SQ (zr (hu3) zU24 rfl) ?_ | refine SQ (zr (hsC) zU24 rfl) ?_ | refine SQ (zr (hT.sl) zU24 rfl) ?_ | refine SQ (zr (hV.sl) zU24 rfl) ?_ | refine SQ (zr (hZ.sl) zU24 rfl) ?_
   refine SQ (qi rfl rfl) (zd (zb ?_));refine zw rfl ?_ ?_
   ·intro g79
    try simp only [dd] at g79
    have hzl : z.1 < C.roots.length := by omega
    obtain ⟨m, hm⟩ : ∃ m, C.roots[z.1]? = some m := ⟨_, List.getElem?_eq_getElem hzl⟩
    have hmb := hroots m (List.mem_of_getElem? hm);have hzwl := hzw
    have hZl : ∀ k, z.2.ownBlock = some k → wl0.heap.size ≤ k := fun k e => (hZ.lt e).1
    refine zH ?_;refine zb ?_;refine zg ?_;refine zL ?_;refine jh 11 [[], [0], [], [], [3], [], [4, 5], [6], [2, 7], [8], [9]] [det [] ?a19_0n3, det [0] ?a19_1n3, det [] ?a19_2n3, det [] ?a19_3n3, det [3] ?a19_4n3, det [] ?a19_5n3, det [4, 5] ?a19_6n3, det [6] ?a19_7n3, det [2, 7] ?a19_8n3, det [8] ?a19_9n3, frs [9] (SlR 0 1 encI [toR (foundR C) m])] mixed (by kernel_rfl) rfl ⟨zn _ _, zn _ _, zn _ _, zn _ _, zn _ _, zn _ _, zn _ _, zn _ _, zn _ _, zn _ _, SlR.stab, trivial⟩ ?_ ?_; rotate_left 10
    ·refine zj ?_ ?_
     ·intro wq hbq
      refine zo ?_
      refine zz (zh qI rfl) ?_; first | exact rfl | rfl
     refine zj ?_ ?_
     ·intro wq hbq
      refine zx rfl rfl (zo ?_)
      refine zz (zi ((hB5).below hbq) isAgg24 rfl rfl) ?_; first | exact rfl | rfl
     refine zj ?_ ?_
     ·intro wq hbq
      refine zo ?_
      refine zz (zf rfl) ?_; first | exact rfl | rfl
     refine zj ?_ ?_
     ·intro wq hbq
      refine zo ?_
      refine zz (zh qI rfl) ?_; first | exact rfl | rfl
     refine zj ?_ ?_
     ·intro wq hbq
      refine zx rfl rfl (zo ?_)
      refine zz (zi ((hB1).below hbq) isAgg24 rfl rfl) ?_; first | exact rfl | rfl
     refine zj ?_ ?_
     ·intro wq hbq
      refine zo ?_
      refine zz (zf rfl) ?_; first | exact rfl | rfl
     refine zj ?_ ?_
     ·intro wq hbq
      refine zx rfl rfl (zx rfl rfl (zo ?_))
      refine zz (qt (hu3.below hbq) zU24 sizeOf3 rfl rfl (by omega) (by omega)) ?_; first | exact rfl | rfl
     refine zj ?_ ?_
     ·intro wq hbq
      refine zx rfl rfl (zo ?_)
      refine zz (qd isAgg3 rfl (((hu3.cells (((z.1 : Nat) : Int)).toNat m hm).below hbq).cell 0 rfl)) ?_; first | exact rfl | rfl
     refine zj ?_ ?_
     ·intro wq hbq
      refine zx rfl rfl (zx rfl rfl (zo ?_))
      refine zz (qt (hT.sl.below hbq) zU24 sizeOf3 rfl rfl hmb.1 (by rw [qX]; exact hmb.2)) ?_; first | exact rfl | rfl
     refine zj ?_ ?_
     ·intro wq hbq
      refine zx rfl rfl (zo ?_)
      refine zz (qd isAgg3 rfl (((hT.sl.cells m.toNat _ (toL_get hmb.1 hmb.2)).below hbq).cell 0 rfl)) ?_; first | exact rfl | rfl
     refine zj ?_ ?_
     ·intro wq hbq
      refine zx rfl rfl (zo ?_);exact Zd (enc := encI) (val := valI) (os := [.tmp 91]) (Nat.zero_le _) rfl rfl (MV.cons (x := toR (foundR C) m) MV.nil) (fun _ => rfl) (fun _ => rfl) zU24 sizeOf3 zeroValue3 rfl (by decide) (by decide)
     exact qD
    ·intro wa19 hba19
     replace hb0 := btr hb0 hba19;replace hB1 := hB1.below hba19;replace hB2 := hB2.below hba19;replace hB5 := hB5.below hba19;replace hu3 := hu3.below hba19;replace hsC := hsC.below hba19;replace hT := hT.below hba19;replace hV := hV.below hba19;replace hZ := hZ.below hba19;refine zq rfl (zq rfl (zq rfl (zq rfl (zq rfl (zq rfl (zq rfl (zq rfl (zq rfl (zq rfl (qY rfl ?_)))))))))); intro v92 lo92 hi92 hR92 hlB92 hlh92 hhw92 hdj92;refine qH ?_
     simp only [List.drop_succ_cons, List.drop_zero]
     have hS92 := hR92.1;have hz19 := hba19.size;refine qr (hZ) (hS92) underlying24 info3 rfl rfl rfl (fun _ _ => rfl) (by simp only [List.length_append, List.length_cons, List.length_nil]; rw [List.length_map]; have := List.length_take_le z.1 C.roots; omega) (by simp only [List.length_append, List.length_cons, List.length_nil]; rw [List.length_map]; have := List.length_take_le z.1 C.roots; omega) (by have := hb0.size; omega) rfl ?_;intro v93 w93 hO93 hch93 hsn93;replace hbw := (btr hbw hb0).trans (hch93.below (btr hbw hb0).size (fun k hk e => by have := hZl k e; omega));have hz093 := hb0.size; have hz93 := hch93.size
     obtain ⟨a93, n93, c93, hv93⟩ : ∃ a n c, v93 = Value.slice a n c := by obtain ⟨a, c, h⟩ := hO93.sl.len; exact ⟨_, _, _, h⟩
     subst hv93;clear hb0;have hb0 := Below.refl w93.heap.size w93
     replace hB1 := (hB1.chg hch93 (fun e => by have := hZl _ e; omega))
     replace hB2 := (hB2.chg hch93 (fun e => by have := hZl _ e; omega))
     replace hB5 := (hB5.chg hch93 (fun e => by have := hZl _ e; omega))
     replace hu3 := (hu3.chg hch93 (fun hp e => by have := hlo3 hp; have := hZl _ e; omega))
     replace hsC := (hsC.chg hch93 (fun hp e => by have := hsl hp; have := hZl _ e; omega))
     replace hT := (hT.chg hch93 (fun k e e2 => by have := hTo k e; have := hZl k e2; omega))
     replace hV := (hV.chg hch93 (fun k e e2 => hzv k e2 e))
     clear hS92;clear hZ;refine SQ (zh qI rfl) (qz (hB5) rfl rfl rfl rfl sizeOf24 rfl rfl ?_);intro ws19 hcs19 hBs19
     dsimp only [setAll, List.set] at hBs19
     replace hbw := (btr hbw hb0).trans (hcs19.below (btr hbw hb0).size (fun k hk e => by omega));replace hT := hT.chg hcs19 (fun k e e2 => by have := hTo k e; omega);replace hV := hV.chg hcs19 (fun k e e2 => by have := (hV.lt e).1; omega);replace hO93 := hO93.chg hcs19 (fun k e e2 => by have := (hO93.lt e).1; omega);replace hB1 := hB1.chg hcs19 (by omega);replace hB2 := hB2.chg hcs19 (by omega);replace hu3 := hu3.chg hcs19 (fun hp e => by have := hlo3 hp; omega);replace hsC := hsC.chg hcs19 (fun hp e => (hsl hp).2.2 e);clear hB5;clear hb0;have hb0 := Below.refl ws19.heap.size ws19;refine zd ?_;refine zQ ?_;refine zb ?_;refine za ?_;refine SQ (zf rfl) ?_;refine SQ (qb rfl rfl (zS (by omega) (by omega))) ?_;refine SQ (ze rfl) ?_;refine zd ?_;refine qh ((z.1 + 1, _)) (by repeat (first | exact Sub.nil | refine Sub.cons rfl ?_)) ⟨by dsimp only; omega, btr hbw hb0, hB1, hB2, hBs19, ⟨hu3, hsC⟩, hT, hV, by dsimp only; rw [z4 hm, List.map_append]; exact hO93, by have := hb0.size; have := hcs19.size; omega, fun k e => (hsn93 k e).elim (fun e => hzv k e) (fun h e2 => by have := hVu k e2; omega)⟩ (by dsimp only; omega)
   ·intro g79
    try simp only [dd] at g79
    have hze : C.roots.length ≤ z.1 := by omega
    rw [List.take_of_length_le hze] at hZ
    obtain ⟨aZ, nZ, cZ, hvZ⟩ : ∃ a n c, z.2 = Value.slice a n c := by obtain ⟨a, c, h⟩ := hZ.sl.len; exact ⟨_, _, _, h⟩
    rw [hvZ] at hB5 hZ;clear hb0;have hb0 := hbw
    have ne_hsC_b2 : 0 < C.ch.length → ¬ sb (.slice aC nC cC) = b2 := fun hp e => by have := hsl hp; omega
    have ne_hT_b2 := hb2l;have ne_hV_b2 := hb2l;have ne_hZ_b2 := hb2l;refine qk (z0 (z9 ?_));refine zX (zb (zg (za ?_)))
    first | refine SQ (zC (hB5) isAgg26 sizeOf26 rfl rfl) ?_ | refine SQ (zD (hB5) isAgg26 sizeOf26 rfl rfl rfl) ?_
    refine zm (hB2) rfl rfl rfl rfl sizeOf26 rfl rfl ?_;intro ws20x1 hchs20x1 hBs20x1;replace hb0 := bchg hb0 hchs20x1 hle2;replace hsC := hsC.chg hchs20x1 ne_hsC_b2;replace hT := hT.chg hchs20x1 (fun k e e2 => by first | exact ne_hT_b2 k e e2 | (have := hT.lt e; have := ne_hT_b2; omega));replace hV := hV.chg hchs20x1 (fun k e e2 => by first | exact ne_hV_b2 k e e2 | (have := hV.lt e; have := ne_hV_b2; omega));replace hZ := hZ.chg hchs20x1 (fun k e e2 => by first | exact ne_hZ_b2 k e e2 | (have := hZ.lt e; have := ne_hZ_b2; omega));clear hB2;refine zd ?_;refine zb ?_;refine zu ?_;refine zR rfl rfl (.cellW rfl (hBs20x1) isAgg26 sizeOf26 rfl) ?_;exact ⟨_, rfl, hb0, aC, nC, cC, aO, nO, cO, aZ, nZ, cZ, rfl, ⟨hsC, hV.sl, hZ.sl⟩, fun _ => Nat.zero_le _, fun _ => Nat.zero_le _, fun _ => Nat.zero_le _⟩
end Go.Proofs.YtphmoebiobjfhaaGreat
