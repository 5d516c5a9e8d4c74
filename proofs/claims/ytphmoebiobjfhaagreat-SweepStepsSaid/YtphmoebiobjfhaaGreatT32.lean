/- Walks of functions, printed by a program of the author. -/
import Derived.Test.YtphmoebiobjfhaaGreatT30
set_option linter.all false
namespace Go.Proofs.YtphmoebiobjfhaaGreat
open Go Go.Mi Go.RowKit Tryz Go.Proofs.Tryz
theorem fa95_0 (w : World) (a : Addr) : (Instr.fieldAt 95 (.pointer (some a)) 0).run prog w = .ok (.pointer (some (a.add 0))) w := by kernel_rfl
theorem fa95_1 (w : World) (a : Addr) : (Instr.fieldAt 95 (.pointer (some a)) 1).run prog w = .ok (.pointer (some (a.add 1))) w := by kernel_rfl
theorem f51_c (n i t : Int) (w : World) : Pure prog 51 #[.int .i64 n, .int .i64 i, .int .i64 t] w (.int .i64 (turnI i t n)) := by
 have hb0 := Below.refl w.heap.size w;refine zE func51 rfl ntmps51 rfl ?_;refine zg (za (SQ (ze rfl) (zd (zb (zg (zg (za (SQ (zf rfl) (SQ (zf rfl) (SQ (zO rfl rfl) (zd (zb ?_))))))))))));refine zw rfl ?_ ?_
 ·intro g9
  try simp only [dd] at g9
  refine zg (za (SQ (zf rfl) (SQ (ze rfl) (zd (zb (zu (zl (zP rfl rfl rfl ?_))))))));exact ⟨by rw [turnI, if_pos (by omega)], hb0⟩
 ·intro g9
  try simp only [dd] at g9
  refine zH (zb (zg (za (SQ (zf rfl) (SQ (ze rfl) (zd (zb (zu (zP rfl rfl rfl ?_)))))))));exact ⟨by rw [turnI, if_neg (by omega)], hb0⟩
set_option maxHeartbeats 2000000 in
theorem f24_c {v : Value} {C : Co} {w : World} (hC : CoS w v C) (hck : checkR C = 0) (rr : Int) {o : Nat} (ho : o < C.ops.length) : Mi.Fn prog 24 #[v, valR ⟨rr, (o : Int)⟩] w fun u w' => ApR 84 76 3 w.heap.size C ⟨rr, (o : Int)⟩ u w' := by
 obtain ⟨uC, uO, uR, rfl, hu1, hu2, hu3⟩ := hC.ex;have hlo1 := hu1.lt; have hlo2 := hu2.lt; have hlo3 := hu3.lt;have hlen := (qm hck).1
 have h0 : (0 : Int) ≤ (o : Int) := by omega
 have h1 : (o : Int) < C.ops.length := by omega
 have hxo := zV h0 h1;have hb0 := Below.refl w.heap.size w;refine zE func24 rfl ntmps24 rfl ?_;refine zg (za (qe rfl rfl rfl ?_));intro w2 b2 e2 hb2 hz2 hB2
 have hle2 : w.heap.size ≤ b2 := by have := hb0.size; omega
 replace hb0 := btr hb0 hb2;replace hu1 := hu1.below hb2;replace hu2 := hu2.below hb2;replace hu3 := hu3.below hb2;refine qe rfl rfl rfl ?_;intro w3 b3 e3 hb3 hz3 hB3
 have hle3 : w.heap.size ≤ b3 := by have := hb0.size; omega
 have ne_b2_3 : ¬ b2 = b3 := by have := hB2.lt; omega
 replace hb0 := btr hb0 hb3;replace hu1 := hu1.below hb3;replace hu2 := hu2.below hb3;replace hu3 := hu3.below hb3;replace hB2 := hB2.below hb3;refine zM zeroValue26 rfl rfl ?_;intro w4 b4 e4 hb4 hz4 hB4
 have hle4 : w.heap.size ≤ b4 := by have := hb0.size; omega
 have ne_b2_4 : ¬ b2 = b4 := by have := hB2.lt; omega
 have ne_b3_4 : ¬ b3 = b4 := by have := hB3.lt; omega
 replace hb0 := btr hb0 hb4;replace hu1 := hu1.below hb4;replace hu2 := hu2.below hb4;replace hu3 := hu3.below hb4;replace hB2 := hB2.below hb4;replace hB3 := hB3.below hb4;refine SQ (ze rfl) (zd (zb (zg (zg (za ?_)))))
 first | refine SQ (zC (hB2) isAgg26 sizeOf26 rfl rfl) ?_ | refine SQ (zD (hB2) isAgg26 sizeOf26 rfl rfl rfl) ?_
 refine SQ (zh jE rfl) (SQ (zi (hB3) isAgg3 rfl rfl) (zF rfl call49 rfl (f49_c (⟨⟨_, _, _, rfl, (hu1), (hu2), (hu3)⟩⟩ : CoS _ _ C) hck ho) ?_));intro w16 hb16;replace hb0 := btr hb0 hb16;replace hu1 := hu1.below hb16;replace hu2 := hu2.below hb16;replace hu3 := hu3.below hb16;replace hB2 := hB2.below hb16;replace hB3 := hB3.below hb16;replace hB4 := hB4.below hb16;refine SQ (qv rfl) (zd (zb ?_));refine zw rfl ?_ ?_
 ·intro g17
  try simp only [dd] at g17
  have hus : usedB C (o : Int) = false := by simpa using g17
  have hap : (atC C rr (o : Int)).ap = false := at_unused hck h0 h1 hus;refine zg ?_;refine za ?_;refine SQ (qj build26_) ?_;refine zm (hB4) rfl rfl rfl rfl sizeOf26 rfl rfl ?_;intro ws2x1 hchs2x1 hBs2x1;replace hb0 := bchg hb0 hchs2x1 hle4;clear hB4;refine SQ (ze rfl) ?_;refine zd ?_;refine zb ?_;refine zu ?_;refine zl ?_;refine qa rfl rfl (.cellW rfl (hBs2x1) isAgg26 sizeOf26 rfl) (.tmp rfl) ?_;exact ⟨_, rfl, hb0, _, by rw [hap], by unfold apC; dsimp only; rw [if_neg (by rw [hap]; decide)]; exact CoW.no⟩
 ·intro g17
  try simp only [dd] at g17
  have hus : usedB C (o : Int) = true := by simpa using g17
  refine zH ?_;refine zb ?_;refine zg ?_;have hz4 := hB4.lt; have hz3 := hB3.lt; have hz2 := hB2.lt;refine W_anyG 13 [[], [], [1], [], [3], [], [5], [0, 2, 4, 6], [7], [8], [8], [], [11, 9]] (List.replicate 1 (FrE w16.heap.size 95 6)) (fun w9 => Below w16.heap.size w16 w9) [gdet [] ?a3_0n1, gdet [] ?a3_1n1, gfrs [1] (fun v w _ _ => OS w v 4 1 encB (truthsR C.ops) 0), gdet [] ?a3_3n1, gdet [3] ?a3_4n1, gdet [] ?a3_5n1, gdet [5] ?a3_6n1, gdet [0, 2, 4, 6] ?a3_7n1, gdet [7] ?a3_8n1, gdet [8] ?a3_9n1, gdet [8] ?a3_10n1, gfrs [] (AllocL w16.heap.size 95 6), gsv 0 [11, 9] (StRf 95 (fun _ => encD (tryR C.ops (truthsR C.ops) rr (o : Int)))) StV] mixed (by kernel_rfl) (by kernel_rfl) rfl rfl (fr_ok rfl) (fs_stab (tg := [11]) rfl (by decide) ⟨.det, .det, .val (fun _ _ _ _ _ hc h => OS.frR (by decide) h hc), .det, .det, .det, .det, .det, .det, .det, .det, .frs, .sv rfl rfl, trivial⟩) (Below.refl _ _) (fun h => h.drew) ?_ ?_; rotate_left 10
  ·refine zp ?_ ?_
   ·intro wq hq hzq
    refine zk ?_
    first | (refine zN (zC ((hB2).below hq) isAgg26 sizeOf26 rfl rfl) ?_; first | exact rfl | rfl) | (refine zN (zD ((hB2).below hq) isAgg26 sizeOf26 rfl rfl rfl) ?_; first | exact rfl | rfl)
   refine zp ?_ ?_
   ·intro wq hq hzq
    refine zk ?_
    first | (refine zN (zC ((hB2).below hq) isAgg26 sizeOf26 rfl rfl) ?_; first | exact rfl | rfl) | (refine zN (zD ((hB2).below hq) isAgg26 sizeOf26 rfl rfl rfl) ?_; first | exact rfl | rfl)
   refine zp ?_ ?_
   ·intro wq hq hzq
    refine zI rfl rfl rfl (zk ?_);exact GEx.of (qq rfl call27 (Fn.mono (f27_c (⟨⟨_, _, _, rfl, hu1.below hq, hu2.below hq, hu3.below hq⟩⟩ : CoS _ _ C) hck) fun v w' hb h => h.le (Nat.zero_le _)))
   refine zp ?_ ?_
   ·intro wq hq hzq
    refine zk ?_
    refine zN (zh fa45_0 rfl) ?_; first | exact rfl | rfl
   refine zp ?_ ?_
   ·intro wq hq hzq
    refine zI rfl rfl rfl (zk ?_)
    refine zN (zi ((hB3).below hq) isAgg5 rfl rfl) ?_; first | exact rfl | rfl
   refine zp ?_ ?_
   ·intro wq hq hzq
    refine zk ?_
    refine zN (zh jE rfl) ?_; first | exact rfl | rfl
   refine zp ?_ ?_
   ·intro wq hq hzq
    refine zI rfl rfl rfl (zk ?_)
    refine zN (zi ((hB3).below hq) isAgg3 rfl rfl) ?_; first | exact rfl | rfl
   refine zp ?_ ?_
   ·intro wq hq hzq
    refine zI rfl rfl rfl (jm rfl rfl rfl ?_); intro v22 lo22 hi22 hle22 hR22;refine zI rfl rfl rfl (zI rfl rfl rfl (zk ?_))
    refine GEx_call rfl call50 (f50_c (⟨⟨_, _, _, rfl, hu1.below hq, hu2.below hq, hu3.below hq⟩⟩ : CoS _ _ C) hck hR22.sl h0 h1 rr) ?_; first | exact rfl | rfl
   refine zp ?_ ?_
   ·intro wq hq hzq
    refine zI rfl rfl rfl (zk ?_)
    refine zN (zf rfl) ?_; first | exact rfl | rfl
   refine zp ?_ ?_
   ·intro wq hq hzq
    refine zI rfl rfl rfl (zk ?_)
    refine zN (zK rfl rfl) ?_; first | exact rfl | rfl
   refine zp ?_ ?_
   ·intro wq hq hzq
    refine zI rfl rfl rfl (zk ?_)
    refine zN (zK rfl rfl) ?_; first | exact rfl | rfl
   refine zp ?_ ?_
   ·intro wq hq hzq
    refine zk ?_;exact GEx_allocL (ds := []) (v := undef) (cs := [.int .i64 0, .int .u8 0, .int .i64 0, .int .i64 0, .int .i64 0, .int .i64 0]) hzq (Ex_alloc zeroValue95 rfl)
   refine zp ?_ ?_
   ·intro wq hq hzq
    refine jm rfl rfl rfl ?_; intro v6 lo6 hi6 hle6 hR6;refine zI rfl rfl rfl (zk ?_);exact GEx_stFf hR6 rfl rfl rfl rfl sizeOf95 rfl rfl rfl rfl (by decide)
   exact qW
  ·intro wa3 hba3 hzz3
   refine zG rfl ?_;refine zG rfl ?_;refine je rfl ?_; intro v22 lo22 hi22 hR22 hlB22 hlh22 hhw22 hdj22;refine zG rfl ?_;refine zG rfl ?_;refine zG rfl ?_;refine zG rfl ?_;refine zG rfl ?_;refine zG rfl ?_;refine zG rfl ?_;refine zG rfl ?_;refine je rfl ?_; intro v6 lo6 hi6 hR6 hlB6 hlh6 hhw6 hdj6;refine GFin_sv rfl ?_; intro hs3x12 _; simp only [List.nil_append, List.cons_append, List.map_cons, List.map_nil, List.getD_cons_succ, List.getD_cons_zero, List.getElem?_cons_succ, List.getElem?_cons_zero] at hs3x12;refine qZ ?_
   simp only [List.drop_succ_cons, List.drop_zero]
   replace hb0 := btr hb0 hba3;replace hu1 := hu1.below hba3;replace hu2 := hu2.below hba3;replace hu3 := hu3.below hba3;replace hB2 := hB2.below hba3;replace hB3 := hB3.below hba3;replace hB4 := hB4.below hba3;obtain ⟨b6, rfl, hlo6, _, _, _⟩ := hR6;obtain ⟨c6, hv6, hB6⟩ := hs3x12;replace hv6 : Value.pointer (some ⟨b6, 0, none⟩) = .pointer (some ⟨c6, 0, none⟩) := hv6;cases hv6;replace hB6 : Blk wa3 b6 (encD (tryR C.ops (truthsR C.ops) rr (o : Int))) 95 := hB6;refine SQ (ze rfl) (zd (zb (zg (zg (za (SQ (zf rfl) (SQ (qv rfl) (zd (zb ?_)))))))));refine zw rfl ?_ ?_
   ·intro g31
    try simp only [dd] at g31
    have hap : (atC C rr (o : Int)).ap = false := by rw [← try_ap2 hck h0 h1 hus]; simpa using g31
    refine zg ?_;refine za ?_;refine SQ (qj build26_) ?_;refine zm (hB4) rfl rfl rfl rfl sizeOf26 rfl rfl ?_;intro ws5x1 hchs5x1 hBs5x1;replace hb0 := bchg hb0 hchs5x1 hle4;clear hB4;refine SQ (ze rfl) ?_;refine zd ?_;refine zb ?_;refine zu ?_;refine zl ?_;refine qa rfl rfl (.cellW rfl (hBs5x1) isAgg26 sizeOf26 rfl) (.tmp rfl) ?_;exact ⟨_, rfl, hb0, _, by rw [hap], by unfold apC; dsimp only; rw [if_neg (by rw [hap]; decide)]; exact CoW.no⟩
   ·intro g31
    try simp only [dd] at g31
    have hap0 : (tryR C.ops (truthsR C.ops) rr (o : Int)).ap = true := by simpa using g31
    have hat := try_eq2 hck h0 h1 hus hap0;rw [hat] at hB6
    have hap : (atC C rr (o : Int)).ap = true := by rw [← hat]; exact hap0
    have hok := (at_ok hck h0 h1 hap).2;have hz3 := hB3.lt; have hz4 := hB4.lt; have hz6 := hB6.lt;refine zH (zb (zg (za ?_)))
    first | refine SQ (zC (hB2) isAgg26 sizeOf26 rfl rfl) ?_ | refine SQ (zD (hB2) isAgg26 sizeOf26 rfl rfl rfl) ?_
    refine qf rfl call11 rfl (f11_w (⟨⟨_, _, _, rfl, (hu1), (hu2), (hu3)⟩⟩ : CoS _ _ C) (by omega) (by omega) (by omega)) ?_;rintro v34 w34 hb34 ⟨a1, n1, c1, a2, n2, c2, a3, n3, c3, rfl, hs1, hs2, hs3⟩;replace hb0 := btr hb0 hb34;replace hB3 := hB3.below hb34;replace hB4 := hB4.below hb34;replace hB6 := hB6.below hb34
    have ne_hs1_b4 : ∀ q, Value.ownBlock (.slice a1 n1 c1) = some q → ¬ q = b4 := fun q e => by have := (hs1.lt e).1; omega
    have ne_hs2_b4 : ∀ q, Value.ownBlock (.slice a2 n2 c2) = some q → ¬ q = b4 := fun q e => by have := (hs2.lt e).1; omega
    have ne_hs3_b4 : ∀ q, Value.ownBlock (.slice a3 n3 c3) = some q → ¬ q = b4 := fun q e => by have := (hs3.lt e).1; omega
    clear hu1;clear hu2;clear hu3;clear hB2;refine zM zeroValue26 rfl rfl ?_;intro w8 b8 e8 hb8 hz8 hB8
    have hle8 : w.heap.size ≤ b8 := by have := hb0.size; omega
    have ne_b3_8 : ¬ b3 = b8 := by have := hB3.lt; omega
    have ne_b4_8 : ¬ b4 = b8 := by have := hB4.lt; omega
    have ne_b6_8 : ¬ b6 = b8 := by have := hB6.lt; omega
    have ne_hs1_b8 : ∀ k, Value.ownBlock (.slice a1 n1 c1) = some k → ¬ k = b8 := fun k e => by have := hs1.lt e; omega
    have ne_hs2_b8 : ∀ k, Value.ownBlock (.slice a2 n2 c2) = some k → ¬ k = b8 := fun k e => by have := hs2.lt e; omega
    have ne_hs3_b8 : ∀ k, Value.ownBlock (.slice a3 n3 c3) = some k → ¬ k = b8 := fun k e => by have := hs3.lt e; omega
    replace hb0 := btr hb0 hb8;replace hB3 := hB3.below hb8;replace hB4 := hB4.below hb8;replace hB6 := hB6.below hb8;replace hs1 := hs1.below hb8;replace hs2 := hs2.below hb8;replace hs3 := hs3.below hb8
    have hsl2 : ∀ q, Value.ownBlock (.slice a2 n2 c2) = some q → wa3.heap.size ≤ q ∧ q < b8 := fun q e => by have := hs2.lt e; have := ne_hs2_b8 q e; omega
    have hsl3 : ∀ q, Value.ownBlock (.slice a3 n3 c3) = some q → wa3.heap.size ≤ q ∧ q < b8 := fun q e => by have := hs3.lt e; have := ne_hs3_b8 q e; omega
    refine zm (hB8) rfl rfl rfl rfl sizeOf26 rfl rfl ?_;intro ws6x3 hchs6x3 hBs6x3;replace hb0 := bchg hb0 hchs6x3 hle8;replace hB3 := hB3.chg hchs6x3 ne_b3_8;replace hB4 := hB4.chg hchs6x3 ne_b4_8;replace hB6 := hB6.chg hchs6x3 ne_b6_8;replace hs1 := hs1.chg hchs6x3 (fun k e e2 => by first | exact ne_hs1_b8 k e e2 | (have := hs1.lt e; have := ne_hs1_b8; omega));replace hs2 := hs2.chg hchs6x3 (fun k e e2 => by first | exact ne_hs2_b8 k e e2 | (have := hs2.lt e; have := ne_hs2_b8; omega));replace hs3 := hs3.chg hchs6x3 (fun k e e2 => by first | exact ne_hs3_b8 k e e2 | (have := hs3.lt e; have := ne_hs3_b8; omega));clear hB8;refine zd ?_;refine zb ?_;refine zg ?_;refine zg ?_;refine za ?_;refine SQ (zh fa95_0 rfl) ?_;refine SQ (zi (hB6) isAgg3 rfl rfl) ?_;refine SQ (qi rfl rfl) ?_;refine zd ?_;refine zb ?_;refine zw rfl ?_ ?_
    ·intro g37
     try simp only [dd] at g37
     have hst1 : (atC C rr (o : Int)).st = -1 := by rcases hok with h | h; exact h.1; omega
     refine zg (za (SQ (zh z1 rfl) (SQ (zi (hBs6x3) isAgg23 rfl rfl) (SQ (zh jE rfl) (SQ (zi (hB3) isAgg3 rfl rfl) (SQ (zh fa95_1 rfl) (SQ (zD (hB6) isAgg76 sizeOf76 rfl rfl rfl) ?_)))))))
     first | refine zy (hs1.sl) zU23 sizeOf76 rfl rfl ?_ ?_ rfl ?_ | refine zy (hs2.sl) zU23 sizeOf76 rfl rfl ?_ ?_ rfl ?_ | refine zy (hs3.sl) zU23 sizeOf76 rfl rfl ?_ ?_ rfl ?_
     ·first | omega | (rw [qG]; omega)
     ·first | omega | (rw [qG]; omega)
     intro x44 hx44 hc44;refine q0 (n := 5) (o := 0) (elt := getO C.ops (o : Int)) (elt' := (atC C rr (o : Int)).be) hs2 rfl rfl rfl rfl sizeOf76 rfl hxo (Nat.le_refl 5) rfl ?_;intro ws8 hcws8 hOws8;replace hb0 := hb0.trans (hcws8.below hb0.size (fun q hq e => by have := hsl2 q e; omega));replace hB3 := hB3.chg hcws8 (fun e => by have := hsl2 _ e; omega);replace hB4 := hB4.chg hcws8 (fun e => by have := hsl2 _ e; omega);replace hB6 := hB6.chg hcws8 (fun e => by have := hsl2 _ e; omega);replace hs1 := hs1.chg hcws8 (fun q e e2 => hs1.ne_type hs2 (by decide) q e e2);replace hs3 := hs3.chg hcws8 (fun q e e2 => hs3.ne_type hs2 (by decide) q e e2);replace hBs6x3 := hBs6x3.chg hcws8 (fun e => by have := hsl2 _ e; omega);clear hc44;clear hs2;have hs2 := hOws8;refine zd ?_;refine zb ?_;refine zg ?_;refine za ?_
     first | refine SQ (zC (hBs6x3) isAgg26 sizeOf26 rfl rfl) ?_ | refine SQ (zD (hBs6x3) isAgg26 sizeOf26 rfl rfl rfl) ?_
     refine zm (hB4) rfl rfl rfl rfl sizeOf26 rfl rfl ?_;intro ws9x1 hchs9x1 hBs9x1;replace hb0 := bchg hb0 hchs9x1 hle4;replace hs1 := hs1.chg hchs9x1 (fun k e e2 => by first | exact ne_hs1_b4 k e e2 | (have := hs1.lt e; have := ne_hs1_b4; omega));replace hs2 := hs2.chg hchs9x1 (fun k e e2 => by first | exact ne_hs2_b4 k e e2 | (have := hs2.lt e; have := ne_hs2_b4; omega));replace hs3 := hs3.chg hchs9x1 (fun k e e2 => by first | exact ne_hs3_b4 k e e2 | (have := hs3.lt e; have := ne_hs3_b4; omega));clear hB4;refine SQ (ze rfl) ?_;refine zd ?_;refine zb ?_;refine zu ?_;refine zl ?_;refine qa rfl rfl (.cellW rfl (hBs9x1) isAgg26 sizeOf26 rfl) (.tmp rfl) ?_
     have hapc : apC C ⟨rr, (o : Int)⟩ = ⟨C.ch, C.ops.set o (atC C rr (o : Int)).be, C.roots⟩ := by unfold apC; dsimp only; rw [if_pos hap]; unfold appR outC; dsimp only; rw [if_pos hst1]; rfl
     exact ⟨_, rfl, hb0, _, by rw [hap], a1, n1, c1, a2, n2, c2, a3, n3, c3, rfl, by rw [hapc]; exact hs1.le (by omega), by rw [hapc]; exact hs2.le (by omega), by rw [hapc]; exact hs3.le (by omega)⟩
    ·intro g37
     try simp only [dd] at g37
     have hstn : ¬ (atC C rr (o : Int)).st = -1 := by omega
     refine zH ?_;refine zb ?_;refine zg ?_;refine zg ?_;refine za ?_;refine SQ (ze rfl) ?_;refine zd ?_;refine zb ?_;refine zL ?_;refine qo (α := Nat) (fun x => [(9, .int .i64 (x : Nat)), (3, .pointer (some ⟨b3, 0, none⟩)), (4, .pointer (some ⟨b4, 0, none⟩)), (6, .pointer (some ⟨b6, 0, none⟩)), (8, .pointer (some ⟨b8, 0, none⟩))]) (fun x w' => Below w.heap.size w w' ∧ x ≤ C.ops.length ∧ (Blk w' b3 [.int .u8 rr, .int .i64 (o : Int)] 45 ∧ Blk w' b4 [.slice none 0 0, .slice none 0 0, .slice none 0 0] 26 ∧ Blk w' b6 (encD (atC C rr (o : Int))) 95 ∧ Blk w' b8 [.slice a1 n1 c1, .slice a2 n2 c2, .slice a3 n3 c3] 26) ∧ OS w' (.slice a1 n1 c1) 84 3 encC C.ch wa3.heap.size ∧ OS w' (.slice a2 n2 c2) 76 5 encO (prt (turnO (o : Int) (atC C rr (o : Int)).st) C.ops x) wa3.heap.size ∧ OS w' (.slice a3 n3 c3) 3 1 encI (C.roots) wa3.heap.size) (fun x => C.ops.length - x) (0) (by repeat (first | exact Sub.nil | refine Sub.cons rfl ?_)) ⟨hb0, Nat.zero_le _, ⟨hB3, hB4, hB6, hBs6x3⟩, hs1, by rw [prt_zero]; exact hs2, hs3⟩ ?_;clear hb0;clear hB3;clear hB4;clear hB6;clear hs1;clear hs2;clear hs3;clear hBs6x3;rintro x wl0 ⟨hb0, hxi, ⟨hB3, hB4, hB6, hB8⟩, hs1, hs2, hs3⟩;have hz8l := hB8.lt;refine zg ?_;refine zg ?_;refine za ?_;refine SQ (zf rfl) ?_;refine SQ (zh z1 rfl) ?_;refine SQ (zi (hB8) isAgg23 rfl rfl) ?_
     first | refine SQ (zr (hs1.sl) zU23 rfl) ?_ | refine SQ (zr (hs2.sl) zU23 rfl) ?_ | refine SQ (zr (hs3.sl) zU23 rfl) ?_
     refine SQ (qi rfl rfl) (zd (zb ?_));refine zw rfl ?_ ?_
     ·intro g50
      try simp only [dd] at g50
      rw [qG] at g50
      have hxl : x < C.ops.length := by omega
      obtain ⟨y, hel0⟩ : ∃ y, C.ops[x]? = some y := ⟨_, List.getElem?_eq_getElem hxl⟩
      have hel : (prt (turnO (o : Int) (atC C rr (o : Int)).st) C.ops x)[x]? = some y := by rw [prt_get hxi]; exact hel0
      have hyc := (qy ((qm hck).2.2 x y hel0)).1;have hol := jN y;have har3 := q7 y.code;refine zH (zb (zg (zL (zg (za (SQ (zh z1 rfl) (SQ (zi (hB8) isAgg23 rfl rfl) (SQ (zf rfl) ?_))))))))
      first | refine zy (hs1.sl) zU23 sizeOf76 rfl rfl ?_ ?_ rfl ?_ | refine zy (hs2.sl) zU23 sizeOf76 rfl rfl ?_ ?_ rfl ?_ | refine zy (hs3.sl) zU23 sizeOf76 rfl rfl ?_ ?_ rfl ?_
      ·first | omega | (rw [qG]; omega)
      ·first | omega | (rw [qG]; omega)
      intro x56 hx56 hc56;have ex56 := Option.some.inj ((hel).symm.trans hx56); subst ex56;refine SQ (qg isAgg76 sizeOf76 rfl ((hc56)) rfl) (zM zeroValue76 rfl rfl ?_);intro w10 b10 e10 hb10 hz10 hB10
      have hle10 : w.heap.size ≤ b10 := by have := hb0.size; omega
      have ne_b3_10 : ¬ b3 = b10 := by have := hB3.lt; omega
      have ne_b4_10 : ¬ b4 = b10 := by have := hB4.lt; omega
      have ne_b6_10 : ¬ b6 = b10 := by have := hB6.lt; omega
      have ne_b8_10 : ¬ b8 = b10 := by have := hB8.lt; omega
      have ne_hs1_b10 : ∀ k, Value.ownBlock (.slice a1 n1 c1) = some k → ¬ k = b10 := fun k e => by have := hs1.lt e; omega
      have ne_hs2_b10 : ∀ k, Value.ownBlock (.slice a2 n2 c2) = some k → ¬ k = b10 := fun k e => by have := hs2.lt e; omega
      have ne_hs3_b10 : ∀ k, Value.ownBlock (.slice a3 n3 c3) = some k → ¬ k = b10 := fun k e => by have := hs3.lt e; omega
      replace hb0 := btr hb0 hb10;replace hB3 := hB3.below hb10;replace hB4 := hB4.below hb10;replace hB6 := hB6.below hb10;replace hB8 := hB8.below hb10;replace hs1 := hs1.below hb10;replace hs2 := hs2.below hb10;replace hs3 := hs3.below hb10;refine zm (hB10) rfl rfl rfl rfl sizeOf76 rfl rfl ?_;intro ws13x6 hchs13x6 hBs13x6;replace hb0 := bchg hb0 hchs13x6 hle10;replace hB3 := hB3.chg hchs13x6 ne_b3_10;replace hB4 := hB4.chg hchs13x6 ne_b4_10;replace hB6 := hB6.chg hchs13x6 ne_b6_10;replace hB8 := hB8.chg hchs13x6 ne_b8_10;replace hs1 := hs1.chg hchs13x6 (fun k e e2 => by first | exact ne_hs1_b10 k e e2 | (have := hs1.lt e; have := ne_hs1_b10; omega));replace hs2 := hs2.chg hchs13x6 (fun k e e2 => by first | exact ne_hs2_b10 k e e2 | (have := hs2.lt e; have := ne_hs2_b10; omega));replace hs3 := hs3.chg hchs13x6 (fun k e e2 => by first | exact ne_hs3_b10 k e e2 | (have := hs3.lt e; have := ne_hs3_b10; omega));clear hc56;clear hB10;refine zd ?_;refine zb ?_;refine zg ?_;refine za ?_
      first | refine SQ (zC (hBs13x6) isAgg76 sizeOf76 rfl rfl) ?_ | refine SQ (zD (hBs13x6) isAgg76 sizeOf76 rfl rfl rfl) ?_
      refine qf rfl call46 rfl (f46_c y _ hyc.1 hyc.2.1) ?_;rintro v59 w59 hb59 ⟨hL, _⟩;replace hb0 := btr hb0 hb59;replace hB3 := hB3.below hb59;replace hB4 := hB4.below hb59;replace hB6 := hB6.below hb59;replace hB8 := hB8.below hb59;replace hs1 := hs1.below hb59;replace hs2 := hs2.below hb59;replace hs3 := hs3.below hb59;replace hBs13x6 := hBs13x6.below hb59
      first | refine SQ (zr (hL) zU24 rfl) ?_ | refine SQ (zr (hs1.sl) zU24 rfl) ?_ | refine SQ (zr (hs2.sl) zU24 rfl) ?_ | refine SQ (zr (hs3.sl) zU24 rfl) ?_
      clear hL;refine SQ (ze rfl) (zd (zb (zg (zg (za (SQ (zf rfl) (SQ (qu rfl rfl) (zd (zb ?_)))))))));refine zw rfl ?_ ?_
      ·intro g62
       try simp only [dd] at g62
       refine za (SQ (zh qs rfl) (SQ (zi (hBs13x6) isAgg3 rfl rfl) (SQ (zh jE rfl) (SQ (zi (hB3) isAgg3 rfl rfl) (SQ (zh fa95_0 rfl) (SQ (zi (hB6) isAgg3 rfl rfl) (zF rfl call51 rfl (f51_c _ _ _ _) ?_)))))));intro w69 hb69;replace hb0 := btr hb0 hb69;replace hB3 := hB3.below hb69;replace hB4 := hB4.below hb69;replace hB6 := hB6.below hb69;replace hB8 := hB8.below hb69;replace hs1 := hs1.below hb69;replace hs2 := hs2.below hb69;replace hs3 := hs3.below hb69;replace hBs13x6 := hBs13x6.below hb69;refine SQ (zh qs rfl) (qz (hBs13x6) rfl rfl rfl rfl sizeOf3 rfl rfl ?_);intro ws16x8 hchs16x8 hBs16x8
       dsimp only [setAll, List.set] at hBs16x8
       replace hb0 := bchg hb0 hchs16x8 hle10;replace hB3 := hB3.chg hchs16x8 ne_b3_10;replace hB4 := hB4.chg hchs16x8 ne_b4_10;replace hB6 := hB6.chg hchs16x8 ne_b6_10;replace hB8 := hB8.chg hchs16x8 ne_b8_10;replace hs1 := hs1.chg hchs16x8 (fun k e e2 => by first | exact ne_hs1_b10 k e e2 | (have := hs1.lt e; have := ne_hs1_b10; omega));replace hs2 := hs2.chg hchs16x8 (fun k e e2 => by first | exact ne_hs2_b10 k e e2 | (have := hs2.lt e; have := ne_hs2_b10; omega));replace hs3 := hs3.chg hchs16x8 (fun k e e2 => by first | exact ne_hs3_b10 k e e2 | (have := hs3.lt e; have := ne_hs3_b10; omega));clear hBs13x6;refine zd ?_;refine zb ?_;refine zg ?_;refine zg ?_;refine za ?_;refine SQ (zf rfl) ?_;refine SQ (qu rfl rfl) ?_;refine zd ?_;refine zb ?_;refine zw rfl ?_ ?_
       ·intro g72
        try simp only [dd] at g72
        refine za (SQ (zh qE rfl) (SQ (zi (hBs16x8) isAgg3 rfl rfl) (SQ (zh jE rfl) (SQ (zi (hB3) isAgg3 rfl rfl) (SQ (zh fa95_0 rfl) (SQ (zi (hB6) isAgg3 rfl rfl) (zF rfl call51 rfl (f51_c _ _ _ _) ?_)))))));intro w79 hb79;replace hb0 := btr hb0 hb79;replace hB3 := hB3.below hb79;replace hB4 := hB4.below hb79;replace hB6 := hB6.below hb79;replace hB8 := hB8.below hb79;replace hs1 := hs1.below hb79;replace hs2 := hs2.below hb79;replace hs3 := hs3.below hb79;replace hBs16x8 := hBs16x8.below hb79;refine SQ (zh qE rfl) (qz (hBs16x8) rfl rfl rfl rfl sizeOf3 rfl rfl ?_);intro ws18x8 hchs18x8 hBs18x8
        dsimp only [setAll, List.set] at hBs18x8
        replace hb0 := bchg hb0 hchs18x8 hle10;replace hB3 := hB3.chg hchs18x8 ne_b3_10;replace hB4 := hB4.chg hchs18x8 ne_b4_10;replace hB6 := hB6.chg hchs18x8 ne_b6_10;replace hB8 := hB8.chg hchs18x8 ne_b8_10;replace hs1 := hs1.chg hchs18x8 (fun k e e2 => by first | exact ne_hs1_b10 k e e2 | (have := hs1.lt e; have := ne_hs1_b10; omega));replace hs2 := hs2.chg hchs18x8 (fun k e e2 => by first | exact ne_hs2_b10 k e e2 | (have := hs2.lt e; have := ne_hs2_b10; omega));replace hs3 := hs3.chg hchs18x8 (fun k e e2 => by first | exact ne_hs3_b10 k e e2 | (have := hs3.lt e; have := ne_hs3_b10; omega));clear hBs16x8;refine zd ?_;refine zb ?_;refine zg ?_;refine zg ?_;refine za ?_;refine SQ (zf rfl) ?_;refine SQ (qu rfl rfl) ?_;refine zd ?_;refine zb ?_;refine zw rfl ?_ ?_
        ·intro g82
         try simp only [dd] at g82
         refine za (SQ (zh q5 rfl) (SQ (zi (hBs18x8) isAgg3 rfl rfl) (SQ (zh jE rfl) (SQ (zi (hB3) isAgg3 rfl rfl) (SQ (zh fa95_0 rfl) (SQ (zi (hB6) isAgg3 rfl rfl) (zF rfl call51 rfl (f51_c _ _ _ _) ?_)))))));intro w89 hb89;replace hb0 := btr hb0 hb89;replace hB3 := hB3.below hb89;replace hB4 := hB4.below hb89;replace hB6 := hB6.below hb89;replace hB8 := hB8.below hb89;replace hs1 := hs1.below hb89;replace hs2 := hs2.below hb89;replace hs3 := hs3.below hb89;replace hBs18x8 := hBs18x8.below hb89;refine SQ (zh q5 rfl) (qz (hBs18x8) rfl rfl rfl rfl sizeOf3 rfl rfl ?_);intro ws20x8 hchs20x8 hBs20x8
         dsimp only [setAll, List.set] at hBs20x8
         replace hb0 := bchg hb0 hchs20x8 hle10;replace hB3 := hB3.chg hchs20x8 ne_b3_10;replace hB4 := hB4.chg hchs20x8 ne_b4_10;replace hB6 := hB6.chg hchs20x8 ne_b6_10;replace hB8 := hB8.chg hchs20x8 ne_b8_10;replace hs1 := hs1.chg hchs20x8 (fun k e e2 => by first | exact ne_hs1_b10 k e e2 | (have := hs1.lt e; have := ne_hs1_b10; omega));replace hs2 := hs2.chg hchs20x8 (fun k e e2 => by first | exact ne_hs2_b10 k e e2 | (have := hs2.lt e; have := ne_hs2_b10; omega));replace hs3 := hs3.chg hchs20x8 (fun k e e2 => by first | exact ne_hs3_b10 k e e2 | (have := hs3.lt e; have := ne_hs3_b10; omega));clear hBs18x8;refine zd ?_;refine zb ?_;refine za ?_;refine SQ (zh z1 rfl) ?_;refine SQ (zi (hB8) isAgg23 rfl rfl) ?_;refine SQ (zf rfl) ?_
         first | refine SQ (zC (hBs20x8) isAgg76 sizeOf76 rfl rfl) ?_ | refine SQ (zD (hBs20x8) isAgg76 sizeOf76 rfl rfl rfl) ?_
         first | refine zy (hs1.sl) zU23 sizeOf76 rfl rfl ?_ ?_ rfl ?_ | refine zy (hs2.sl) zU23 sizeOf76 rfl rfl ?_ ?_ rfl ?_ | refine zy (hs3.sl) zU23 sizeOf76 rfl rfl ?_ ?_ rfl ?_
         ·first | omega | (rw [qG]; omega)
         ·first | omega | (rw [qG]; omega)
         intro x95 hx95 hc95
         have helt : (⟨y.code, turnI (o : Int) (atC C rr (o : Int)).st y.a, turnI (o : Int) (atC C rr (o : Int)).st y.b, turnI (o : Int) (atC C rr (o : Int)).st y.c, y.n⟩ : Ot) = turnO (o : Int) (atC C rr (o : Int)).st y := by unfold turnO; rw [if_pos (show 1 ≤ arN y.code by omega), if_pos (show 2 ≤ arN y.code by omega), if_pos (show 3 ≤ arN y.code by omega)]
         refine q0 (n := 5) (o := 0) (elt := y) (elt' := turnO (o : Int) (atC C rr (o : Int)).st y) hs2 rfl rfl rfl rfl sizeOf76 rfl hel (Nat.le_refl 5) (by rw [← helt]; rfl) ?_;intro ws21 hcws21 hOws21;rw [Int.toNat_natCast, prt_set hel0] at hOws21;replace hb0 := hb0.trans (hcws21.below hb0.size (fun q hq e => by have := hsl2 q e; omega));replace hB3 := hB3.chg hcws21 (fun e => by have := hsl2 _ e; omega);replace hB4 := hB4.chg hcws21 (fun e => by have := hsl2 _ e; omega);replace hB6 := hB6.chg hcws21 (fun e => by have := hsl2 _ e; omega);replace hB8 := hB8.chg hcws21 (fun e => by have := hsl2 _ e; omega);replace hs1 := hs1.chg hcws21 (fun q e e2 => hs1.ne_type hs2 (by decide) q e e2);replace hs3 := hs3.chg hcws21 (fun q e e2 => hs3.ne_type hs2 (by decide) q e e2);replace hBs20x8 := hBs20x8.chg hcws21 (fun e => by have := hsl2 _ e; omega);clear hc95;clear hs2;have hs2 := hOws21;refine zd ?_;refine zQ ?_;refine zb ?_;refine za ?_;refine SQ (zf rfl) ?_;refine SQ (qb rfl rfl (zS (by omega) (by omega))) ?_;refine SQ (ze rfl) ?_;refine zd ?_;refine qh (x + 1) (by repeat (first | exact Sub.nil | refine Sub.cons rfl ?_)) ⟨hb0, by omega, ⟨hB3, hB4, hB6, hB8⟩, hs1, hs2, hs3⟩ (by omega)
        ·intro g82
         try simp only [dd] at g82
         refine zH (zb (za (SQ (zh z1 rfl) (SQ (zi (hB8) isAgg23 rfl rfl) (SQ (zf rfl) ?_)))))
         first | refine SQ (zC (hBs18x8) isAgg76 sizeOf76 rfl rfl) ?_ | refine SQ (zD (hBs18x8) isAgg76 sizeOf76 rfl rfl rfl) ?_
         first | refine zy (hs1.sl) zU23 sizeOf76 rfl rfl ?_ ?_ rfl ?_ | refine zy (hs2.sl) zU23 sizeOf76 rfl rfl ?_ ?_ rfl ?_ | refine zy (hs3.sl) zU23 sizeOf76 rfl rfl ?_ ?_ rfl ?_
         ·first | omega | (rw [qG]; omega)
         ·first | omega | (rw [qG]; omega)
         intro x95 hx95 hc95
         have helt : (⟨y.code, turnI (o : Int) (atC C rr (o : Int)).st y.a, turnI (o : Int) (atC C rr (o : Int)).st y.b, y.c, y.n⟩ : Ot) = turnO (o : Int) (atC C rr (o : Int)).st y := by unfold turnO; rw [if_pos (show 1 ≤ arN y.code by omega), if_pos (show 2 ≤ arN y.code by omega), if_neg (show ¬ 3 ≤ arN y.code by omega)]
         refine q0 (n := 5) (o := 0) (elt := y) (elt' := turnO (o : Int) (atC C rr (o : Int)).st y) hs2 rfl rfl rfl rfl sizeOf76 rfl hel (Nat.le_refl 5) (by rw [← helt]; rfl) ?_;intro ws21 hcws21 hOws21;rw [Int.toNat_natCast, prt_set hel0] at hOws21;replace hb0 := hb0.trans (hcws21.below hb0.size (fun q hq e => by have := hsl2 q e; omega));replace hB3 := hB3.chg hcws21 (fun e => by have := hsl2 _ e; omega);replace hB4 := hB4.chg hcws21 (fun e => by have := hsl2 _ e; omega);replace hB6 := hB6.chg hcws21 (fun e => by have := hsl2 _ e; omega);replace hB8 := hB8.chg hcws21 (fun e => by have := hsl2 _ e; omega);replace hs1 := hs1.chg hcws21 (fun q e e2 => hs1.ne_type hs2 (by decide) q e e2);replace hs3 := hs3.chg hcws21 (fun q e e2 => hs3.ne_type hs2 (by decide) q e e2);replace hBs18x8 := hBs18x8.chg hcws21 (fun e => by have := hsl2 _ e; omega);clear hc95;clear hs2;have hs2 := hOws21;refine zd ?_;refine zQ ?_;refine zb ?_;refine za ?_;refine SQ (zf rfl) ?_;refine SQ (qb rfl rfl (zS (by omega) (by omega))) ?_;refine SQ (ze rfl) ?_;refine zd ?_;refine qh (x + 1) (by repeat (first | exact Sub.nil | refine Sub.cons rfl ?_)) ⟨hb0, by omega, ⟨hB3, hB4, hB6, hB8⟩, hs1, hs2, hs3⟩ (by omega)
       ·intro g72
        try simp only [dd] at g72
        refine zH (zb (zg (zg (za (SQ (zf rfl) (SQ (qu rfl rfl) (zd (zb ?_))))))));refine zw rfl ?_ ?_
        ·intro g82; exfalso; (try simp only [dd] at g82); omega
        ·intro g82
         try simp only [dd] at g82
         refine zH (zb (za (SQ (zh z1 rfl) (SQ (zi (hB8) isAgg23 rfl rfl) (SQ (zf rfl) ?_)))))
         first | refine SQ (zC (hBs16x8) isAgg76 sizeOf76 rfl rfl) ?_ | refine SQ (zD (hBs16x8) isAgg76 sizeOf76 rfl rfl rfl) ?_
         first | refine zy (hs1.sl) zU23 sizeOf76 rfl rfl ?_ ?_ rfl ?_ | refine zy (hs2.sl) zU23 sizeOf76 rfl rfl ?_ ?_ rfl ?_ | refine zy (hs3.sl) zU23 sizeOf76 rfl rfl ?_ ?_ rfl ?_
         ·first | omega | (rw [qG]; omega)
         ·first | omega | (rw [qG]; omega)
         intro x95 hx95 hc95
         have helt : (⟨y.code, turnI (o : Int) (atC C rr (o : Int)).st y.a, y.b, y.c, y.n⟩ : Ot) = turnO (o : Int) (atC C rr (o : Int)).st y := by unfold turnO; rw [if_pos (show 1 ≤ arN y.code by omega), if_neg (show ¬ 2 ≤ arN y.code by omega), if_neg (show ¬ 3 ≤ arN y.code by omega)]
         refine q0 (n := 5) (o := 0) (elt := y) (elt' := turnO (o : Int) (atC C rr (o : Int)).st y) hs2 rfl rfl rfl rfl sizeOf76 rfl hel (Nat.le_refl 5) (by rw [← helt]; rfl) ?_;intro ws21 hcws21 hOws21;rw [Int.toNat_natCast, prt_set hel0] at hOws21;replace hb0 := hb0.trans (hcws21.below hb0.size (fun q hq e => by have := hsl2 q e; omega));replace hB3 := hB3.chg hcws21 (fun e => by have := hsl2 _ e; omega);replace hB4 := hB4.chg hcws21 (fun e => by have := hsl2 _ e; omega);replace hB6 := hB6.chg hcws21 (fun e => by have := hsl2 _ e; omega);replace hB8 := hB8.chg hcws21 (fun e => by have := hsl2 _ e; omega);replace hs1 := hs1.chg hcws21 (fun q e e2 => hs1.ne_type hs2 (by decide) q e e2);replace hs3 := hs3.chg hcws21 (fun q e e2 => hs3.ne_type hs2 (by decide) q e e2);replace hBs16x8 := hBs16x8.chg hcws21 (fun e => by have := hsl2 _ e; omega);clear hc95;clear hs2;have hs2 := hOws21;refine zd ?_;refine zQ ?_;refine zb ?_;refine za ?_;refine SQ (zf rfl) ?_;refine SQ (qb rfl rfl (zS (by omega) (by omega))) ?_;refine SQ (ze rfl) ?_;refine zd ?_;refine qh (x + 1) (by repeat (first | exact Sub.nil | refine Sub.cons rfl ?_)) ⟨hb0, by omega, ⟨hB3, hB4, hB6, hB8⟩, hs1, hs2, hs3⟩ (by omega)
      ·intro g62
       try simp only [dd] at g62
       refine zH (zb (zg (zg (za (SQ (zf rfl) (SQ (qu rfl rfl) (zd (zb ?_))))))));refine zw rfl ?_ ?_
       ·intro g72; exfalso; (try simp only [dd] at g72); omega
       ·intro g72
        try simp only [dd] at g72
        refine zH (zb (zg (zg (za (SQ (zf rfl) (SQ (qu rfl rfl) (zd (zb ?_))))))));refine zw rfl ?_ ?_
        ·intro g82; exfalso; (try simp only [dd] at g82); omega
        ·intro g82
         try simp only [dd] at g82
         refine zH (zb (za (SQ (zh z1 rfl) (SQ (zi (hB8) isAgg23 rfl rfl) (SQ (zf rfl) ?_)))))
         first | refine SQ (zC (hBs13x6) isAgg76 sizeOf76 rfl rfl) ?_ | refine SQ (zD (hBs13x6) isAgg76 sizeOf76 rfl rfl rfl) ?_
         first | refine zy (hs1.sl) zU23 sizeOf76 rfl rfl ?_ ?_ rfl ?_ | refine zy (hs2.sl) zU23 sizeOf76 rfl rfl ?_ ?_ rfl ?_ | refine zy (hs3.sl) zU23 sizeOf76 rfl rfl ?_ ?_ rfl ?_
         ·first | omega | (rw [qG]; omega)
         ·first | omega | (rw [qG]; omega)
         intro x95 hx95 hc95
         have helt : (⟨y.code, y.a, y.b, y.c, y.n⟩ : Ot) = turnO (o : Int) (atC C rr (o : Int)).st y := by unfold turnO; rw [if_neg (show ¬ 1 ≤ arN y.code by omega), if_neg (show ¬ 2 ≤ arN y.code by omega), if_neg (show ¬ 3 ≤ arN y.code by omega)]
         refine q0 (n := 5) (o := 0) (elt := y) (elt' := turnO (o : Int) (atC C rr (o : Int)).st y) hs2 rfl rfl rfl rfl sizeOf76 rfl hel (Nat.le_refl 5) (by rw [← helt]; rfl) ?_;intro ws21 hcws21 hOws21;rw [Int.toNat_natCast, prt_set hel0] at hOws21;replace hb0 := hb0.trans (hcws21.below hb0.size (fun q hq e => by have := hsl2 q e; omega));replace hB3 := hB3.chg hcws21 (fun e => by have := hsl2 _ e; omega);replace hB4 := hB4.chg hcws21 (fun e => by have := hsl2 _ e; omega);replace hB6 := hB6.chg hcws21 (fun e => by have := hsl2 _ e; omega);replace hB8 := hB8.chg hcws21 (fun e => by have := hsl2 _ e; omega);replace hs1 := hs1.chg hcws21 (fun q e e2 => hs1.ne_type hs2 (by decide) q e e2);replace hs3 := hs3.chg hcws21 (fun q e e2 => hs3.ne_type hs2 (by decide) q e e2);replace hBs13x6 := hBs13x6.chg hcws21 (fun e => by have := hsl2 _ e; omega);clear hc95;clear hs2;have hs2 := hOws21;refine zd ?_;refine zQ ?_;refine zb ?_;refine za ?_;refine SQ (zf rfl) ?_;refine SQ (qb rfl rfl (zS (by omega) (by omega))) ?_;refine SQ (ze rfl) ?_;refine zd ?_;refine qh (x + 1) (by repeat (first | exact Sub.nil | refine Sub.cons rfl ?_)) ⟨hb0, by omega, ⟨hB3, hB4, hB6, hB8⟩, hs1, hs2, hs3⟩ (by omega)
     ·intro g50
      try simp only [dd] at g50
      rw [qG] at g50
      have hxe : x = C.ops.length := by omega
      refine qk ?_;refine z0 ?_;refine z9 ?_;refine zX ?_;refine zb ?_;refine zg ?_;refine zg ?_;refine za ?_;refine SQ (ze rfl) ?_;refine zd ?_;refine zb ?_;refine zL ?_;refine qo (α := Nat) (fun x => [(12, .int .i64 (x : Nat)), (3, .pointer (some ⟨b3, 0, none⟩)), (4, .pointer (some ⟨b4, 0, none⟩)), (6, .pointer (some ⟨b6, 0, none⟩)), (8, .pointer (some ⟨b8, 0, none⟩))]) (fun x w' => Below w.heap.size w w' ∧ x ≤ C.roots.length ∧ (Blk w' b3 [.int .u8 rr, .int .i64 (o : Int)] 45 ∧ Blk w' b4 [.slice none 0 0, .slice none 0 0, .slice none 0 0] 26 ∧ Blk w' b6 (encD (atC C rr (o : Int))) 95 ∧ Blk w' b8 [.slice a1 n1 c1, .slice a2 n2 c2, .slice a3 n3 c3] 26) ∧ OS w' (.slice a1 n1 c1) 84 3 encC C.ch wa3.heap.size ∧ OS w' (.slice a2 n2 c2) 76 5 encO (prt (turnO (o : Int) (atC C rr (o : Int)).st) C.ops C.ops.length) wa3.heap.size ∧ OS w' (.slice a3 n3 c3) 3 1 encI (prt (turnI (o : Int) (atC C rr (o : Int)).st) C.roots x) wa3.heap.size) (fun x => C.roots.length - x) (0) (by repeat (first | exact Sub.nil | refine Sub.cons rfl ?_)) ⟨hb0, Nat.zero_le _, ⟨hB3, hB4, hB6, hB8⟩, hs1, by rw [← hxe]; exact hs2, by rw [prt_zero]; exact hs3⟩ ?_;clear hb0;clear hB3;clear hB4;clear hB6;clear hB8;clear hs1;clear hs2;clear hs3;rintro x wl1 ⟨hb0, hri, ⟨hB3, hB4, hB6, hB8⟩, hs1, hs2, hs3⟩;refine zg ?_;refine zg ?_;refine za ?_;refine SQ (zf rfl) ?_;refine SQ (zh qI rfl) ?_;refine SQ (zi (hB8) isAgg24 rfl rfl) ?_
      first | refine SQ (zr (hs1.sl) zU24 rfl) ?_ | refine SQ (zr (hs2.sl) zU24 rfl) ?_ | refine SQ (zr (hs3.sl) zU24 rfl) ?_
      refine SQ (qi rfl rfl) (zd (zb ?_));refine zw rfl ?_ ?_
      ·intro g100
       try simp only [dd] at g100
       rw [qG] at g100
       have hrl : x < C.roots.length := by omega
       obtain ⟨m, hm⟩ : ∃ m, C.roots[x]? = some m := ⟨_, List.getElem?_eq_getElem hrl⟩
       have hmp : (prt (turnI (o : Int) (atC C rr (o : Int)).st) C.roots x)[x]? = some m := by rw [prt_get hri]; exact hm
       refine zH ?_;refine zb ?_;refine zg ?_;refine zL ?_;refine jh 14 [[], [0], [], [], [3], [], [4, 5], [6], [], [8], [], [10], [7, 9, 11], [1, 2]] [det [] ?a25_0n2, det [0] ?a25_1n2, det [] ?a25_2n2, det [] ?a25_3n2, det [3] ?a25_4n2, det [] ?a25_5n2, det [4, 5] ?a25_6n2, det [6] ?a25_7n2, det [] ?a25_8n2, det [8] ?a25_9n2, det [] ?a25_10n2, det [10] ?a25_11n2, det [7, 9, 11] ?a25_12n2, det [1, 2] ?a25_13n2] mixed (by kernel_rfl) rfl ⟨zn _ _, zn _ _, zn _ _, zn _ _, zn _ _, zn _ _, zn _ _, zn _ _, zn _ _, zn _ _, zn _ _, zn _ _, zn _ _, zn _ _, trivial⟩ ?_ ?_; rotate_left 14
       ·refine zj ?_ ?_
        ·intro wq hbq
         refine zo ?_
         refine zz (zh qI rfl) ?_; first | exact rfl | rfl
        refine zj ?_ ?_
        ·intro wq hbq
         refine zx rfl rfl (zo ?_)
         refine zz (zi ((hB8).below hbq) isAgg24 rfl rfl) ?_; first | exact rfl | rfl
        refine zj ?_ ?_
        ·intro wq hbq
         refine zo ?_
         refine zz (zf rfl) ?_; first | exact rfl | rfl
        refine zj ?_ ?_
        ·intro wq hbq
         refine zo ?_
         refine zz (zh qI rfl) ?_; first | exact rfl | rfl
        refine zj ?_ ?_
        ·intro wq hbq
         refine zx rfl rfl (zo ?_)
         refine zz (zi ((hB8).below hbq) isAgg24 rfl rfl) ?_; first | exact rfl | rfl
        refine zj ?_ ?_
        ·intro wq hbq
         refine zo ?_
         refine zz (zf rfl) ?_; first | exact rfl | rfl
        refine zj ?_ ?_
        ·intro wq hbq
         refine zx rfl rfl (zx rfl rfl (zo ?_))
         refine zz (qt (hs3.sl.below hbq) zU24 sizeOf3 rfl rfl (by omega) (by rw [qG]; omega)) ?_; first | exact rfl | rfl
        refine zj ?_ ?_
        ·intro wq hbq
         refine zx rfl rfl (zo ?_)
         refine zz (qd isAgg3 rfl (((hs3.sl.cells (((x : Nat) : Int)).toNat m hmp).below hbq).cell 0 rfl)) ?_; first | exact rfl | rfl
        refine zj ?_ ?_
        ·intro wq hbq
         refine zo ?_
         refine zz (zh jE rfl) ?_; first | exact rfl | rfl
        refine zj ?_ ?_
        ·intro wq hbq
         refine zx rfl rfl (zo ?_)
         refine zz (zi ((hB3).below hbq) isAgg3 rfl rfl) ?_; first | exact rfl | rfl
        refine zj ?_ ?_
        ·intro wq hbq
         refine zo ?_
         refine zz (zh fa95_0 rfl) ?_; first | exact rfl | rfl
        refine zj ?_ ?_
        ·intro wq hbq
         refine zx rfl rfl (zo ?_)
         refine zz (zi ((hB6).below hbq) isAgg3 rfl rfl) ?_; first | exact rfl | rfl
        refine zj ?_ ?_
        ·intro wq hbq
         refine zx rfl rfl (zx rfl rfl (zx rfl rfl (zo ?_)))
         refine qq rfl call51 (qB (f51_c _ _ _ _) ?_); first | exact rfl | rfl
        refine zj ?_ ?_
        ·intro wq hbq
         refine zx rfl rfl (zx rfl rfl (zo ?_))
         refine zz (qt (hs3.sl.below hbq) zU24 sizeOf3 rfl rfl (by omega) (by rw [qG]; omega)) ?_; first | exact rfl | rfl
        exact qD
       ·intro wa25 hba25
        replace hb0 := btr hb0 hba25;replace hB3 := hB3.below hba25;replace hB4 := hB4.below hba25;replace hB6 := hB6.below hba25;replace hB8 := hB8.below hba25;replace hs1 := hs1.below hba25;replace hs2 := hs2.below hba25;replace hs3 := hs3.below hba25;refine zq rfl (zq rfl (zq rfl (zq rfl (zq rfl (zq rfl (zq rfl (zq rfl (zq rfl (zq rfl (zq rfl (zq rfl (zq rfl (zq rfl (qH ?_))))))))))))))
        simp only [List.drop_succ_cons, List.drop_zero]
        refine q0 (n := 1) (o := 0) (elt := m) (elt' := turnI (o : Int) (atC C rr (o : Int)).st m) hs3 rfl rfl rfl rfl sizeOf3 rfl hmp (Nat.le_refl 1) rfl ?_;intro ws25 hcws25 hOws25;rw [Int.toNat_natCast, prt_set hm] at hOws25;replace hb0 := hb0.trans (hcws25.below hb0.size (fun q hq e => by have := hsl3 q e; omega));replace hB3 := hB3.chg hcws25 (fun e => by have := hsl3 _ e; omega);replace hB4 := hB4.chg hcws25 (fun e => by have := hsl3 _ e; omega);replace hB6 := hB6.chg hcws25 (fun e => by have := hsl3 _ e; omega);replace hB8 := hB8.chg hcws25 (fun e => by have := hsl3 _ e; omega);replace hs1 := hs1.chg hcws25 (fun q e e2 => hs1.ne_type hs3 (by decide) q e e2);replace hs2 := hs2.chg hcws25 (fun q e e2 => hs2.ne_type hs3 (by decide) q e e2);clear hs3;have hs3 := hOws25;refine zd ?_;refine zQ ?_;refine zb ?_;refine za ?_;refine SQ (zf rfl) ?_;refine SQ (qb rfl rfl (zS (by omega) (by omega))) ?_;refine SQ (ze rfl) ?_;refine zd ?_;refine qh (x + 1) (by repeat (first | exact Sub.nil | refine Sub.cons rfl ?_)) ⟨hb0, by omega, ⟨hB3, hB4, hB6, hB8⟩, hs1, hs2, hs3⟩ (by omega)
      ·intro g100
       try simp only [dd] at g100
       rw [qG] at g100;refine qk (z0 (z9 ?_));refine zX (zb (zg (za ?_)))
       first | refine SQ (zC (hB8) isAgg26 sizeOf26 rfl rfl) ?_ | refine SQ (zD (hB8) isAgg26 sizeOf26 rfl rfl rfl) ?_
       refine zm (hB4) rfl rfl rfl rfl sizeOf26 rfl rfl ?_;intro ws26x1 hchs26x1 hBs26x1;replace hb0 := bchg hb0 hchs26x1 hle4;replace hs1 := hs1.chg hchs26x1 (fun k e e2 => by first | exact ne_hs1_b4 k e e2 | (have := hs1.lt e; have := ne_hs1_b4; omega));replace hs2 := hs2.chg hchs26x1 (fun k e e2 => by first | exact ne_hs2_b4 k e e2 | (have := hs2.lt e; have := ne_hs2_b4; omega));replace hs3 := hs3.chg hchs26x1 (fun k e e2 => by first | exact ne_hs3_b4 k e e2 | (have := hs3.lt e; have := ne_hs3_b4; omega));clear hB4;refine SQ (ze rfl) ?_;refine zd ?_;refine zb ?_;refine zu ?_;refine qa rfl rfl (.cellW rfl (hBs26x1) isAgg26 sizeOf26 rfl) (.tmp rfl) ?_
       have hxr : C.roots.length ≤ x := by omega
       rw [prt_end (Nat.le_refl _)] at hs2;rw [prt_end hxr] at hs3
       have hapc : apC C ⟨rr, (o : Int)⟩ = ⟨C.ch, C.ops.map (turnO (o : Int) (atC C rr (o : Int)).st), C.roots.map (turnI (o : Int) (atC C rr (o : Int)).st)⟩ := by unfold apC; dsimp only; rw [if_pos hap]; unfold appR outC; dsimp only; rw [if_neg hstn]
       exact ⟨_, rfl, hb0, _, by rw [hap], a1, n1, c1, a2, n2, c2, a3, n3, c3, rfl, by rw [hapc]; exact hs1.le (by omega), by rw [hapc]; exact hs2.le (by omega), by rw [hapc]; exact hs3.le (by omega)⟩
end Go.Proofs.YtphmoebiobjfhaaGreat
