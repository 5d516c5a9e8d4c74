/- Walks of functions, printed by a program of the author. -/
import Derived.Test.YtphmoebiobjfhaaGreatRe
import Derived.Test.YtphmoebiobjfhaaGreatT21
set_option linter.all false
namespace Go.Proofs.YtphmoebiobjfhaaGreat
open Go Go.Mi Go.RowKit Tryz Go.Proofs.Tryz
theorem f77_c (n : Int) (w : World) : Pure prog 77 #[.int .i64 n] w (valV ⟨0, n⟩) := by
 have hb0 := Below.refl w.heap.size w;refine zE func77 rfl ntmps77 rfl ?_;refine zg (za (zM zeroValue106 rfl rfl ?_));intro w2 b2 e2 hb2 hz2 hB2
 have hle2 : w.heap.size ≤ b2 := by have := hb0.size; omega
 replace hb0 := btr hb0 hb2;refine zd (zb (zg (za (SQ (zf rfl) (SQ (qK build106_1 rfl rfl ) (zm (hB2) rfl rfl rfl rfl sizeOf106 rfl rfl ?_))))));intro ws1x2 hchs1x2 hBs1x2;replace hb0 := bchg hb0 hchs1x2 hle2;clear hB2;refine zd (zb (zu (zR rfl rfl (.cellW rfl (hBs1x2) isAgg106 sizeOf106 rfl) ?_)));exact ⟨rfl, hb0⟩
theorem f78_c (n : Int) (w : World) : Pure prog 78 #[.int .u8 n] w (valV ⟨n, 0⟩) := by
 have hb0 := Below.refl w.heap.size w;refine zE func78 rfl ntmps78 rfl ?_;refine zg (za (zM zeroValue106 rfl rfl ?_));intro w2 b2 e2 hb2 hz2 hB2
 have hle2 : w.heap.size ≤ b2 := by have := hb0.size; omega
 replace hb0 := btr hb0 hb2;refine zd (zb (zg (za (SQ (zf rfl) (SQ (qK build106_0 rfl rfl ) (zm (hB2) rfl rfl rfl rfl sizeOf106 rfl rfl ?_))))));intro ws1x2 hchs1x2 hBs1x2;replace hb0 := bchg hb0 hchs1x2 hle2;clear hB2;refine zd (zb (zu (zR rfl rfl (.cellW rfl (hBs1x2) isAgg106 sizeOf106 rfl) ?_)));exact ⟨rfl, hb0⟩
theorem f102_c (b : Bool) (w : World) : Pure prog 102 #[.bool b] w (valV (truthV b)) := by
 have hb0 := Below.refl w.heap.size w;refine zE func102 rfl ntmps102 rfl ?_;refine zg (za (zM zeroValue106 rfl rfl ?_));intro w2 b2 e2 hb2 hz2 hB2
 have hle2 : w.heap.size ≤ b2 := by have := hb0.size; omega
 replace hb0 := btr hb0 hb2;refine zd (zb (zg (zg (za (SQ (zf rfl) (zd (zb ?_)))))));refine zw rfl ?_ ?_
 ·intro g3
  try simp only [dd] at g3
  refine zg ?_;refine za ?_;refine zF rfl call77 rfl (f77_c _ _) ?_;intro w4 hb4;replace hb0 := btr hb0 hb4;replace hB2 := hB2.below hb4;refine zm (hB2) rfl rfl rfl rfl sizeOf106 rfl rfl ?_;intro ws2x1 hchs2x1 hBs2x1;replace hb0 := bchg hb0 hchs2x1 hle2;clear hB2;refine zd ?_;refine zb ?_;refine zu ?_;refine zl ?_;refine zR rfl rfl (.cellW rfl (hBs2x1) isAgg106 sizeOf106 rfl) ?_;exact ⟨by rw [g3]; rfl, hb0⟩
 ·intro g3
  try simp only [dd] at g3
  refine zH ?_;refine zb ?_;refine zg ?_;refine za ?_;refine zF rfl call77 rfl (f77_c _ _) ?_;intro w5 hb5;replace hb0 := btr hb0 hb5;replace hB2 := hB2.below hb5;refine zm (hB2) rfl rfl rfl rfl sizeOf106 rfl rfl ?_;intro ws3x1 hchs3x1 hBs3x1;replace hb0 := bchg hb0 hchs3x1 hle2;clear hB2;refine zd ?_;refine zb ?_;refine zu ?_;refine zR rfl rfl (.cellW rfl (hBs3x1) isAgg106 sizeOf106 rfl) ?_;exact ⟨by rw [g3]; rfl, hb0⟩
theorem f103_c (n : Int) (w : World) : Pure prog 103 #[.int .i64 n] w (valV (mkV n)) := by
 have hb0 := Below.refl w.heap.size w;refine zE func103 rfl ntmps103 rfl ?_;refine zg (za (zM zeroValue106 rfl rfl ?_));intro w2 b2 e2 hb2 hz2 hB2
 have hle2 : w.heap.size ≤ b2 := by have := hb0.size; omega
 replace hb0 := btr hb0 hb2;refine zd ?_;refine zb ?_;refine zg ?_;refine zg ?_;refine za ?_;refine SQ (zf rfl) ?_;refine SQ (qi rfl rfl) ?_;refine SQ (zf rfl) ?_;refine qC (r := ?r5n1) 3 8 5 rfl ?_ ?_ ?_; rotate_left
 ·intro g5 K5
  have g5' := g5; try simp only [dd] at g5'
  have hm5 := Below.refl (w2).heap.size w2;refine zv 5 rfl rfl g5 (SQ (zf rfl) (zv 5 rfl rfl g5 (SQ (qu rfl rfl) (SQ (zA rfl (fun h => absurd (g5.symm.trans h) (by decide)) (fun _ => rfl)) ?_))));exact K5 _ _ hm5 (by repeat (first | exact Sub.refl | refine Sub.shadow ?_ | refine Sub.same ?_ | refine Sub.push rfl ?_))
 ·intro g5 K5
  have g5' := g5; try simp only [dd] at g5'
  have hm5 := Below.refl (w2).heap.size w2;refine zB 5 rfl rfl g5 rfl (zB 5 rfl rfl g5 rfl (SQ (zA rfl (fun _ => rfl) (fun h => absurd (g5.symm.trans h) (by decide))) ?_));exact K5 _ _ hm5 (by repeat (first | exact Sub.refl | refine Sub.shadow ?_ | refine Sub.same ?_ | refine Sub.push rfl ?_))
 intro wm5 hbm5;replace hb0 := btr hb0 hbm5;replace hB2 := hB2.below hbm5
 simp only [List.drop_succ_cons, List.drop_zero]
 refine zd (zb ?_);refine zw rfl ?_ ?_
 ·intro g8
  try simp only [dd] at g8
  refine zg ?_;refine za ?_;refine zF rfl call78 rfl (f78_c _ _) ?_;intro w9 hb9;replace hb0 := btr hb0 hb9;replace hB2 := hB2.below hb9;refine zm (hB2) rfl rfl rfl rfl sizeOf106 rfl rfl ?_;intro ws2x1 hchs2x1 hBs2x1;replace hb0 := bchg hb0 hchs2x1 hle2;clear hB2;refine zd ?_;refine zb ?_;refine zu ?_;refine zl ?_;refine zR rfl rfl (.cellW rfl (hBs2x1) isAgg106 sizeOf106 rfl) ?_;exact ⟨by rw [mkV, if_neg (by omega)]; rfl, hb0⟩
 ·intro g8
  try simp only [dd] at g8
  refine zH ?_;refine zb ?_;refine zg ?_;refine za ?_;refine SQ (zf rfl) ?_;refine zF rfl call77 rfl (f77_c _ _) ?_;intro w11 hb11;replace hb0 := btr hb0 hb11;replace hB2 := hB2.below hb11;refine zm (hB2) rfl rfl rfl rfl sizeOf106 rfl rfl ?_;intro ws3x2 hchs3x2 hBs3x2;replace hb0 := bchg hb0 hchs3x2 hle2;clear hB2;refine zd ?_;refine zb ?_;refine zu ?_;refine zR rfl rfl (.cellW rfl (hBs3x2) isAgg106 sizeOf106 rfl) ?_;exact ⟨by rw [mkV, if_pos (by omega)]; rfl, hb0⟩
theorem small_mul2 {x b : Int} (h1 : -9999 ≤ x) (h2 : x ≤ 9999) (h3 : 0 < b) (h4 : b ≤ 9999) : (-99980001 ≤ x * b ∧ x * b ≤ 99980001) ∧ (x + 1) * b = x * b + b ∧ (x < 0 → x * b ≤ x) :=
 ⟨small_mul ⟨h1, h2⟩ ⟨by omega, h4⟩, by rw [Int.add_mul, Int.one_mul], fun h => by have : x * b ≤ x * 1 := Int.mul_le_mul_of_nonpos_left (by omega) (by omega); omega⟩
theorem f104_c {a b : Int} (ha : small a) (hb : small b) (h0 : b ≠ 0) (w : World) : Pure prog 104 #[.int .i64 a, .int .i64 b] w (.int .i64 (quotF a b)) := by
 obtain ⟨ha1, ha2⟩ := ha; obtain ⟨hb1, hb2⟩ := hb;have hb0 := Below.refl w.heap.size w;refine zE func104 rfl ntmps104 rfl ?_;refine zg (za (SQ (ze rfl) (zd (zb (zg (zg (za (SQ (zf rfl) (SQ (qi rfl rfl) (zd (zb ?_)))))))))));refine zw rfl ?_ ?_
 ·intro g7
  try simp only [dd] at g7
  refine za (SQ (zf rfl) (SQ (Rq_neg rfl (zS (by omega) (by omega))) (SQ (zf rfl) (SQ (Rq_neg rfl (zS (by omega) (by omega))) (SQ (ze rfl) (SQ (ze rfl) (zd (zb (zg (za (SQ (ze rfl) (zd (zb (zg (zL ?_)))))))))))))));refine qo (α := Int) (fun x => [(0, .int .i64 (-a)), (1, .int .i64 (-b)), (5, .int .i64 x)]) (fun x w' => Below w.heap.size w w' ∧ (0 ≤ x ∧ x ≤ 9999) ∧ (x = 0 ∨ x * (-b) ≤ -a)) (fun x => (10001 - x).toNat) (0) (by repeat (first | exact Sub.nil | refine Sub.cons rfl ?_)) ⟨hb0, ⟨by omega, by omega⟩, .inl rfl⟩ ?_;clear hb0;rintro x wl0 ⟨hb0, hx, hxa⟩;have hm1 : 0 ≤ (x + 1) * (-b) := Int.mul_nonneg (by omega) (by omega);have hm2 : (x + 1) * (-b) ≤ 10001 * 9999 := Int.mul_le_mul (by omega) (by omega) (by omega) (by omega);have hm3 : (x + 1) * 1 ≤ (x + 1) * (-b) := Int.mul_le_mul_of_nonneg_left (by omega) (by omega);refine zg (zg (za (SQ (zf rfl) (SQ (qb rfl rfl (zS (by omega) (by omega))) (SQ (zf rfl) (SQ (Rq_mul rfl rfl (zS (by omega) (by omega))) (SQ (zf rfl) (SQ (js rfl rfl) (zd (zb ?_))))))))));refine zw rfl ?_ ?_
  ·intro g17
   try simp only [dd] at g17
   refine zH (zb (zL (za (SQ (zf rfl) (SQ (qb rfl rfl (zS (by omega) (by omega))) (SQ (ze rfl) (zd (zQ ?_))))))));refine qh (x + 1) (by repeat (first | exact Sub.nil | refine Sub.cons rfl ?_)) ⟨hb0, ⟨by omega, by omega⟩, .inr (by omega)⟩ (by omega)
  ·intro g17
   try simp only [dd] at g17
   refine qk (z0 (z9 ?_));refine zX (zb (zg (zL ?_)));refine qo (α := Int) (fun x => [(0, .int .i64 (-a)), (1, .int .i64 (-b)), (5, .int .i64 x)]) (fun x w' => Below w.heap.size w w' ∧ (-9999 ≤ x ∧ x ≤ 9999) ∧ -a < (x + 1) * (-b)) (fun x => (x + 10001).toNat) (x) (by repeat (first | exact Sub.nil | refine Sub.cons rfl ?_)) ⟨hb0, ⟨by omega, by omega⟩, by omega⟩ ?_;clear hb0;rintro x wl1 ⟨hb0, hx, hxa⟩;have hm0 := small_mul2 (x := x) (b := (-b)) (by omega) (by omega) (by omega) (by omega);refine zg (zg (za (SQ (zf rfl) (SQ (zf rfl) (SQ (Rq_mul rfl rfl (zS (by omega) (by omega))) (SQ (zf rfl) (SQ (qu rfl rfl) (zd (zb ?_)))))))));refine zw rfl ?_ ?_
   ·intro g24
    try simp only [dd] at g24
    refine zH ?_;refine zb ?_;refine zL ?_;refine za ?_;refine SQ (zf rfl) ?_;refine SQ (qO rfl rfl (zS (by omega) (by omega))) ?_;refine SQ (ze rfl) ?_;refine zd ?_;refine zQ ?_;refine qh (x - 1) (by repeat (first | exact Sub.nil | refine Sub.cons rfl ?_)) ⟨hb0, ⟨by omega, by omega⟩, (by rw [show x - 1 + 1 = x by omega]; omega)⟩ (by omega)
   ·intro g24
    try simp only [dd] at g24
    refine qk (z0 (z9 ?_));refine zX (zb (zg (za (SQ (zf rfl) (SQ (ze rfl) (zd (zb (zu (zP rfl rfl rfl ?_)))))))));exact ⟨by rw [quotF, if_pos (by omega), ediv_of (by omega) (by omega) hxa], hb0⟩
 ·intro g7
  try simp only [dd] at g7
  refine zH (zb (zg (za (SQ (ze rfl) (zd (zb (zg (zL ?_))))))));refine qo (α := Int) (fun x => [(0, .int .i64 (a)), (1, .int .i64 (b)), (5, .int .i64 x)]) (fun x w' => Below w.heap.size w w' ∧ (0 ≤ x ∧ x ≤ 9999) ∧ (x = 0 ∨ x * (b) ≤ a)) (fun x => (10001 - x).toNat) (0) (by repeat (first | exact Sub.nil | refine Sub.cons rfl ?_)) ⟨hb0, ⟨by omega, by omega⟩, .inl rfl⟩ ?_;clear hb0;rintro x wl2 ⟨hb0, hx, hxa⟩;have hm1 : 0 ≤ (x + 1) * (b) := Int.mul_nonneg (by omega) (by omega);have hm2 : (x + 1) * (b) ≤ 10001 * 9999 := Int.mul_le_mul (by omega) (by omega) (by omega) (by omega);have hm3 : (x + 1) * 1 ≤ (x + 1) * (b) := Int.mul_le_mul_of_nonneg_left (by omega) (by omega);refine zg (zg (za (SQ (zf rfl) (SQ (qb rfl rfl (zS (by omega) (by omega))) (SQ (zf rfl) (SQ (Rq_mul rfl rfl (zS (by omega) (by omega))) (SQ (zf rfl) (SQ (js rfl rfl) (zd (zb ?_))))))))));refine zw rfl ?_ ?_
  ·intro g17
   try simp only [dd] at g17
   refine zH (zb (zL (za (SQ (zf rfl) (SQ (qb rfl rfl (zS (by omega) (by omega))) (SQ (ze rfl) (zd (zQ ?_))))))));refine qh (x + 1) (by repeat (first | exact Sub.nil | refine Sub.cons rfl ?_)) ⟨hb0, ⟨by omega, by omega⟩, .inr (by omega)⟩ (by omega)
  ·intro g17
   try simp only [dd] at g17
   refine qk (z0 (z9 ?_));refine zX (zb (zg (zL ?_)));refine qo (α := Int) (fun x => [(0, .int .i64 (a)), (1, .int .i64 (b)), (5, .int .i64 x)]) (fun x w' => Below w.heap.size w w' ∧ (-9999 ≤ x ∧ x ≤ 9999) ∧ a < (x + 1) * (b)) (fun x => (x + 10001).toNat) (x) (by repeat (first | exact Sub.nil | refine Sub.cons rfl ?_)) ⟨hb0, ⟨by omega, by omega⟩, by omega⟩ ?_;clear hb0;rintro x wl3 ⟨hb0, hx, hxa⟩;have hm0 := small_mul2 (x := x) (b := (b)) (by omega) (by omega) (by omega) (by omega);refine zg (zg (za (SQ (zf rfl) (SQ (zf rfl) (SQ (Rq_mul rfl rfl (zS (by omega) (by omega))) (SQ (zf rfl) (SQ (qu rfl rfl) (zd (zb ?_)))))))));refine zw rfl ?_ ?_
   ·intro g24
    try simp only [dd] at g24
    refine zH ?_;refine zb ?_;refine zL ?_;refine za ?_;refine SQ (zf rfl) ?_;refine SQ (qO rfl rfl (zS (by omega) (by omega))) ?_;refine SQ (ze rfl) ?_;refine zd ?_;refine zQ ?_;refine qh (x - 1) (by repeat (first | exact Sub.nil | refine Sub.cons rfl ?_)) ⟨hb0, ⟨by omega, by omega⟩, (by rw [show x - 1 + 1 = x by omega]; omega)⟩ (by omega)
   ·intro g24
    try simp only [dd] at g24
    refine qk (z0 (z9 ?_));refine zX (zb (zg (za (SQ (zf rfl) (SQ (ze rfl) (zd (zb (zu (zP rfl rfl rfl ?_)))))))));exact ⟨by rw [quotF, if_neg (by omega), ediv_of (by omega) (by omega) hxa], hb0⟩
theorem f79_c {code : Int} {a : Vl} (ha : small a.n) (w : World) : Pure prog 79 #[.int .u8 code, valV a] w (valV (rop1 code a)) := by
 obtain ⟨ha1, ha2⟩ := ha;have hb0 := Below.refl w.heap.size w;refine zE func79 rfl ntmps79 rfl ?_;refine zg (za (qe rfl rfl rfl ?_));intro w3 b3 e3 hb3 hz3 hB3
 have hle3 : w.heap.size ≤ b3 := by have := hb0.size; omega
 replace hb0 := btr hb0 hb3;refine zM zeroValue106 rfl rfl ?_;intro w4 b4 e4 hb4 hz4 hB4
 have hle4 : w.heap.size ≤ b4 := by have := hb0.size; omega
 have ne_b3_4 : ¬ b3 = b4 := by have := hB3.lt; omega
 replace hb0 := btr hb0 hb4;replace hB3 := hB3.below hb4;refine zd (zb (zg (zL (zg (za (SQ (zh jk rfl) (SQ (zi (hB3) isAgg5 rfl rfl) (SQ (qu rfl rfl) (SQ (ze rfl) (zd (zb ?_)))))))))));refine zw rfl ?_ ?_
 ·intro g5
  try simp only [dd] at g5
  refine zg (za ?_)
  first | refine SQ (zC (hB3) isAgg106 sizeOf106 rfl rfl) ?_ | refine SQ (zD (hB3) isAgg106 sizeOf106 rfl rfl rfl) ?_
  refine zm (hB4) rfl rfl rfl rfl sizeOf106 rfl rfl ?_;intro ws2x1 hchs2x1 hBs2x1;replace hb0 := bchg hb0 hchs2x1 hle4;clear hB4;refine zd ?_;refine zb ?_;refine zu ?_;refine zt ?_;refine zl ?_;refine zR rfl rfl (.cellW rfl (hBs2x1) isAgg106 sizeOf106 rfl) ?_;exact ⟨by rw [rop1, if_pos (by omega)]; rfl, hb0⟩
 ·intro g5
  try simp only [dd] at g5
  refine zg (za (SQ (zf rfl) (SQ (zO rfl rfl) (SQ (ze rfl) (zd (zb ?_))))));refine zw rfl ?_ ?_
  ·intro g10
   try simp only [dd] at g10
   refine zg ?_;refine za ?_;refine SQ (zh qw rfl) ?_;refine SQ (zi (hB3) isAgg3 rfl rfl) ?_;refine SQ (Rq_neg rfl (zS (by omega) (by omega))) ?_;refine zF rfl call77 rfl (f77_c _ _) ?_;intro w16 hb16;replace hb0 := btr hb0 hb16;replace hB4 := hB4.below hb16;refine zm (hB4) rfl rfl rfl rfl sizeOf106 rfl rfl ?_;intro ws4x4 hchs4x4 hBs4x4;replace hb0 := bchg hb0 hchs4x4 hle4;clear hB4;refine zd ?_;refine zb ?_;refine zu ?_;refine zt ?_;refine zl ?_;refine zR rfl rfl (.cellW rfl (hBs4x4) isAgg106 sizeOf106 rfl) ?_;exact ⟨by rw [rop1, if_neg (by omega), if_pos (by omega)]; rfl, hb0⟩
  ·intro g10
   try simp only [dd] at g10
   refine zH ?_;refine zQ ?_;refine zb ?_;refine zg ?_;refine za ?_;refine SQ (zh qw rfl) ?_;refine SQ (zi (hB3) isAgg3 rfl rfl) ?_;refine SQ (zO rfl rfl) ?_;refine zF rfl call102 rfl (f102_c _ _) ?_;intro w20 hb20;replace hb0 := btr hb0 hb20;replace hB4 := hB4.below hb20;refine zm (hB4) rfl rfl rfl rfl sizeOf106 rfl rfl ?_;intro ws5x4 hchs5x4 hBs5x4;replace hb0 := bchg hb0 hchs5x4 hle4;clear hB4;refine zd ?_;refine zb ?_;refine zu ?_;refine zR rfl rfl (.cellW rfl (hBs5x4) isAgg106 sizeOf106 rfl) ?_;exact ⟨by rw [rop1, if_neg (by omega), if_neg (by omega)]; rfl, hb0⟩
set_option maxHeartbeats 2000000 in
theorem f80_c {code : Int} {a b : Vl} (ha : small a.n) (hb : small b.n) (w : World) : Pure prog 80 #[.int .u8 code, valV a, valV b] w (valV (rop2 code a b)) := by
 have ha0 := ha; have hb0q := hb; have hmu := small_mul ha hb; obtain ⟨ha1, ha2⟩ := ha; obtain ⟨hb1, hb2⟩ := hb;have hb0 := Below.refl w.heap.size w;refine zE func80 rfl ntmps80 rfl ?_;refine zg (za (qe rfl rfl rfl ?_));intro w4 b4 e4 hb4 hz4 hB4
 have hle4 : w.heap.size ≤ b4 := by have := hb0.size; omega
 replace hb0 := btr hb0 hb4;refine qe rfl rfl rfl ?_;intro w5 b5 e5 hb5 hz5 hB5
 have hle5 : w.heap.size ≤ b5 := by have := hb0.size; omega
 have ne_b4_5 : ¬ b4 = b5 := by have := hB4.lt; omega
 replace hb0 := btr hb0 hb5;replace hB4 := hB4.below hb5;refine zM zeroValue106 rfl rfl ?_;intro w6 b6 e6 hb6 hz6 hB6
 have hle6 : w.heap.size ≤ b6 := by have := hb0.size; omega
 have ne_b4_6 : ¬ b4 = b6 := by have := hB4.lt; omega
 have ne_b5_6 : ¬ b5 = b6 := by have := hB5.lt; omega
 replace hb0 := btr hb0 hb6;replace hB4 := hB4.below hb6;replace hB5 := hB5.below hb6;refine zd (zb (zg (zL (zg (za (SQ (zh jk rfl) (SQ (zi (hB4) isAgg5 rfl rfl) (SQ (qu rfl rfl) (SQ (ze rfl) (zd (zb ?_)))))))))));refine zw rfl ?_ ?_
 ·intro g8
  try simp only [dd] at g8
  refine zg (za ?_)
  first | refine SQ (zC (hB4) isAgg106 sizeOf106 rfl rfl) ?_ | refine SQ (zD (hB4) isAgg106 sizeOf106 rfl rfl rfl) ?_
  refine zm (hB6) rfl rfl rfl rfl sizeOf106 rfl rfl ?_;intro ws2x1 hchs2x1 hBs2x1;replace hb0 := bchg hb0 hchs2x1 hle6;clear hB6;refine zd ?_;refine zb ?_;refine zu ?_;refine zt ?_;refine zl ?_;refine zR rfl rfl (.cellW rfl (hBs2x1) isAgg106 sizeOf106 rfl) ?_;exact ⟨by unfold rop2; (repeat (first | rw [if_pos (by omega)] | rw [if_neg (by omega)])); first | done | rfl, hb0⟩
 ·intro g8
  try simp only [dd] at g8
  refine zg ?_;refine za ?_;refine SQ (zf rfl) ?_;refine SQ (zO rfl rfl) ?_;refine SQ (zf rfl) ?_;refine qM (r := ?r16n1) 4 20 16 rfl ?_ ?_ ?_; rotate_left
  ·intro g16 K16
   have g16' := g16; try simp only [dd] at g16'
   have hm16 := Below.refl (w6).heap.size w6;refine zv 16 rfl rfl g16 (SQ (zh qw rfl) (zv 16 rfl rfl g16 (SQ (zi (hB4) isAgg3 rfl rfl) (zv 16 rfl rfl g16 (SQ (zO rfl rfl) (SQ (zA rfl (fun _ => rfl) (fun h => absurd (g16.symm.trans h) (by decide))) ?_))))));exact K16 _ _ hm16 (by repeat (first | exact Sub.refl | refine Sub.shadow ?_ | refine Sub.same ?_ | refine Sub.push rfl ?_))
  ·intro g16 K16
   have g16' := g16; try simp only [dd] at g16'
   have hm16 := Below.refl (w6).heap.size w6;refine zB 16 rfl rfl g16 rfl (zB 16 rfl rfl g16 rfl (zB 16 rfl rfl g16 rfl (SQ (zA rfl (fun h => absurd (g16.symm.trans h) (by decide)) (fun _ => rfl)) ?_)));exact K16 _ _ hm16 (by repeat (first | exact Sub.refl | refine Sub.shadow ?_ | refine Sub.same ?_ | refine Sub.push rfl ?_))
  intro wm16 hbm16;replace hb0 := btr hb0 hbm16;replace hB4 := hB4.below hbm16;replace hB5 := hB5.below hbm16;replace hB6 := hB6.below hbm16
  simp only [List.drop_succ_cons, List.drop_zero]
  refine SQ (ze rfl) (zd (zb ?_));refine zw rfl ?_ ?_
  ·intro g13
   try simp only [dd] at g13
   refine zg (za ?_)
   first | refine SQ (zC (hB4) isAgg106 sizeOf106 rfl rfl) ?_ | refine SQ (zD (hB4) isAgg106 sizeOf106 rfl rfl rfl) ?_
   refine zm (hB6) rfl rfl rfl rfl sizeOf106 rfl rfl ?_;intro ws4x1 hchs4x1 hBs4x1;replace hb0 := bchg hb0 hchs4x1 hle6;clear hB6;refine zd ?_;refine zb ?_;refine zu ?_;refine zt ?_;refine zl ?_;refine zR rfl rfl (.cellW rfl (hBs4x1) isAgg106 sizeOf106 rfl) ?_;exact ⟨by unfold rop2; (repeat (first | rw [if_pos (by omega)] | rw [if_neg (by omega)])); first | done | rfl, hb0⟩
  ·intro g13
   try simp only [dd] at g13
   refine zg ?_;refine za ?_;refine SQ (zf rfl) ?_;refine SQ (zO rfl rfl) ?_;refine SQ (zf rfl) ?_;refine qM (r := ?r25n2) 4 29 25 rfl ?_ ?_ ?_; rotate_left
   ·intro g25 K25
    have g25' := g25; try simp only [dd] at g25'
    have hm25 := Below.refl (wm16).heap.size wm16;refine zv 25 rfl rfl g25 (SQ (zh qw rfl) (zv 25 rfl rfl g25 (SQ (zi (hB4) isAgg3 rfl rfl) (zv 25 rfl rfl g25 (SQ (qp rfl rfl) (SQ (zA rfl (fun _ => rfl) (fun h => absurd (g25.symm.trans h) (by decide))) ?_))))));exact K25 _ _ hm25 (by repeat (first | exact Sub.refl | refine Sub.shadow ?_ | refine Sub.same ?_ | refine Sub.push rfl ?_))
   ·intro g25 K25
    have g25' := g25; try simp only [dd] at g25'
    have hm25 := Below.refl (wm16).heap.size wm16;refine zB 25 rfl rfl g25 rfl (zB 25 rfl rfl g25 rfl (zB 25 rfl rfl g25 rfl (SQ (zA rfl (fun h => absurd (g25.symm.trans h) (by decide)) (fun _ => rfl)) ?_)));exact K25 _ _ hm25 (by repeat (first | exact Sub.refl | refine Sub.shadow ?_ | refine Sub.same ?_ | refine Sub.push rfl ?_))
   intro wm25 hbm25;replace hb0 := btr hb0 hbm25;replace hB4 := hB4.below hbm25;replace hB5 := hB5.below hbm25;replace hB6 := hB6.below hbm25
   simp only [List.drop_succ_cons, List.drop_zero]
   refine SQ (ze rfl) (zd (zb ?_));refine zw rfl ?_ ?_
   ·intro g22
    try simp only [dd] at g22
    refine zg ?_;refine za ?_;refine zF rfl call77 rfl (f77_c _ _) ?_;intro w30 hb30;replace hb0 := btr hb0 hb30;replace hB6 := hB6.below hb30;refine zm (hB6) rfl rfl rfl rfl sizeOf106 rfl rfl ?_;intro ws6x1 hchs6x1 hBs6x1;replace hb0 := bchg hb0 hchs6x1 hle6;clear hB6;refine zd ?_;refine zb ?_;refine zu ?_;refine zt ?_;refine zl ?_;refine zR rfl rfl (.cellW rfl (hBs6x1) isAgg106 sizeOf106 rfl) ?_;exact ⟨by unfold rop2; (repeat (first | rw [if_pos (by omega)] | rw [if_neg (by omega)])); first | done | rfl, hb0⟩
   ·intro g22
    try simp only [dd] at g22
    refine zg ?_;refine za ?_;refine SQ (zf rfl) ?_;refine SQ (zO rfl rfl) ?_;refine SQ (zf rfl) ?_;refine qC (r := ?r34n3) 3 37 34 rfl ?_ ?_ ?_; rotate_left
    ·intro g34 K34
     have g34' := g34; try simp only [dd] at g34'
     have hm34 := Below.refl (wm25).heap.size wm25;refine zv 34 rfl rfl g34 (SQ (zf rfl) (zv 34 rfl rfl g34 (SQ (zO rfl rfl) (SQ (zA rfl (fun h => absurd (g34.symm.trans h) (by decide)) (fun _ => rfl)) ?_))));exact K34 _ _ hm34 (by repeat (first | exact Sub.refl | refine Sub.shadow ?_ | refine Sub.same ?_ | refine Sub.push rfl ?_))
    ·intro g34 K34
     have g34' := g34; try simp only [dd] at g34'
     have hm34 := Below.refl (wm25).heap.size wm25;refine zB 34 rfl rfl g34 rfl (zB 34 rfl rfl g34 rfl (SQ (zA rfl (fun _ => rfl) (fun h => absurd (g34.symm.trans h) (by decide))) ?_));exact K34 _ _ hm34 (by repeat (first | exact Sub.refl | refine Sub.shadow ?_ | refine Sub.same ?_ | refine Sub.push rfl ?_))
    intro wm34 hbm34;replace hb0 := btr hb0 hbm34;replace hB4 := hB4.below hbm34;replace hB5 := hB5.below hbm34;replace hB6 := hB6.below hbm34
    simp only [List.drop_succ_cons, List.drop_zero]
    refine SQ (ze rfl) (zd (zb ?_));refine zw rfl ?_ ?_
    ·intro g31
     try simp only [dd] at g31
     refine zg (za ?_)
     first | refine SQ (zC (hB5) isAgg106 sizeOf106 rfl rfl) ?_ | refine SQ (zD (hB5) isAgg106 sizeOf106 rfl rfl rfl) ?_
     refine zm (hB6) rfl rfl rfl rfl sizeOf106 rfl rfl ?_;intro ws8x1 hchs8x1 hBs8x1;replace hb0 := bchg hb0 hchs8x1 hle6;clear hB6;refine zd ?_;refine zb ?_;refine zu ?_;refine zt ?_;refine zl ?_;refine zR rfl rfl (.cellW rfl (hBs8x1) isAgg106 sizeOf106 rfl) ?_;exact ⟨by unfold rop2; (repeat (first | rw [if_pos (by omega)] | rw [if_neg (by omega)])); first | done | rfl, hb0⟩
    ·intro g31
     try simp only [dd] at g31
     refine zg (za (SQ (zh jk rfl) (SQ (zi (hB5) isAgg5 rfl rfl) (SQ (qu rfl rfl) (SQ (ze rfl) (zd (zb ?_)))))));refine zw rfl ?_ ?_
     ·intro g39
      try simp only [dd] at g39
      refine zg (za ?_)
      first | refine SQ (zC (hB5) isAgg106 sizeOf106 rfl rfl) ?_ | refine SQ (zD (hB5) isAgg106 sizeOf106 rfl rfl rfl) ?_
      refine zm (hB6) rfl rfl rfl rfl sizeOf106 rfl rfl ?_;intro ws10x1 hchs10x1 hBs10x1;replace hb0 := bchg hb0 hchs10x1 hle6;clear hB6;refine zd ?_;refine zb ?_;refine zu ?_;refine zt ?_;refine zl ?_;refine zR rfl rfl (.cellW rfl (hBs10x1) isAgg106 sizeOf106 rfl) ?_;exact ⟨by unfold rop2; (repeat (first | rw [if_pos (by omega)] | rw [if_neg (by omega)])); first | done | rfl, hb0⟩
     ·intro g39
      try simp only [dd] at g39
      refine zH (zQ (zb (zg (zg (za (SQ (zf rfl) (zd (zb (zL (zg (za (SQ (zO rfl rfl) (SQ (ze rfl) (zd (zb ?_)))))))))))))));refine zw rfl ?_ ?_
      ·intro g45
       try simp only [dd] at g45
       refine zg ?_;refine za ?_;refine SQ (zh qw rfl) ?_;refine SQ (zi (hB4) isAgg3 rfl rfl) ?_;refine SQ (zh qw rfl) ?_;refine SQ (zi (hB5) isAgg3 rfl rfl) ?_;refine SQ (qb rfl rfl (zS (by omega) (by omega))) ?_;refine zF rfl call103 rfl (f103_c _ _) ?_;intro w52 hb52;replace hb0 := btr hb0 hb52;replace hB6 := hB6.below hb52;refine zm (hB6) rfl rfl rfl rfl sizeOf106 rfl rfl ?_;intro ws13x6 hchs13x6 hBs13x6;replace hb0 := bchg hb0 hchs13x6 hle6;clear hB6;refine zd ?_;refine zb ?_;refine zu ?_;refine zt ?_;refine zl ?_;refine zR rfl rfl (.cellW rfl (hBs13x6) isAgg106 sizeOf106 rfl) ?_;exact ⟨by unfold rop2; (repeat (first | rw [if_pos (by omega)] | rw [if_neg (by omega)])); first | done | rfl, hb0⟩
      ·intro g45
       try simp only [dd] at g45
       refine zg (za (SQ (zO rfl rfl) (SQ (ze rfl) (zd (zb ?_)))));refine zw rfl ?_ ?_
       ·intro g53
        try simp only [dd] at g53
        refine zg ?_;refine za ?_;refine SQ (zh qw rfl) ?_;refine SQ (zi (hB4) isAgg3 rfl rfl) ?_;refine SQ (zh qw rfl) ?_;refine SQ (zi (hB5) isAgg3 rfl rfl) ?_;refine SQ (qO rfl rfl (zS (by omega) (by omega))) ?_;refine zF rfl call103 rfl (f103_c _ _) ?_;intro w60 hb60;replace hb0 := btr hb0 hb60;replace hB6 := hB6.below hb60;refine zm (hB6) rfl rfl rfl rfl sizeOf106 rfl rfl ?_;intro ws15x6 hchs15x6 hBs15x6;replace hb0 := bchg hb0 hchs15x6 hle6;clear hB6;refine zd ?_;refine zb ?_;refine zu ?_;refine zt ?_;refine zl ?_;refine zR rfl rfl (.cellW rfl (hBs15x6) isAgg106 sizeOf106 rfl) ?_;exact ⟨by unfold rop2; (repeat (first | rw [if_pos (by omega)] | rw [if_neg (by omega)])); first | done | rfl, hb0⟩
       ·intro g53
        try simp only [dd] at g53
        refine zg (za (SQ (zO rfl rfl) (SQ (ze rfl) (zd (zb ?_)))));refine zw rfl ?_ ?_
        ·intro g61
         try simp only [dd] at g61
         refine zg ?_;refine za ?_;refine SQ (zh qw rfl) ?_;refine SQ (zi (hB4) isAgg3 rfl rfl) ?_;refine SQ (zh qw rfl) ?_;refine SQ (zi (hB5) isAgg3 rfl rfl) ?_;refine SQ (Rq_mul rfl rfl (zS (by omega) (by omega))) ?_;refine zF rfl call103 rfl (f103_c _ _) ?_;intro w68 hb68;replace hb0 := btr hb0 hb68;replace hB6 := hB6.below hb68;refine zm (hB6) rfl rfl rfl rfl sizeOf106 rfl rfl ?_;intro ws17x6 hchs17x6 hBs17x6;replace hb0 := bchg hb0 hchs17x6 hle6;clear hB6;refine zd ?_;refine zb ?_;refine zu ?_;refine zt ?_;refine zl ?_;refine zR rfl rfl (.cellW rfl (hBs17x6) isAgg106 sizeOf106 rfl) ?_;exact ⟨by unfold rop2; (repeat (first | rw [if_pos (by omega)] | rw [if_neg (by omega)])); first | done | rfl, hb0⟩
        ·intro g61
         try simp only [dd] at g61
         refine zg (za (SQ (zO rfl rfl) (SQ (ze rfl) (zd (zb ?_)))));refine zw rfl ?_ ?_
         ·intro g69
          try simp only [dd] at g69
          refine zg ?_;refine za ?_;refine SQ (zh qw rfl) ?_;refine SQ (zi (hB4) isAgg3 rfl rfl) ?_;refine SQ (zh qw rfl) ?_;refine SQ (zi (hB5) isAgg3 rfl rfl) ?_;refine SQ (zO rfl rfl) ?_;refine zF rfl call102 rfl (f102_c _ _) ?_;intro w76 hb76;replace hb0 := btr hb0 hb76;replace hB6 := hB6.below hb76;refine zm (hB6) rfl rfl rfl rfl sizeOf106 rfl rfl ?_;intro ws19x6 hchs19x6 hBs19x6;replace hb0 := bchg hb0 hchs19x6 hle6;clear hB6;refine zd ?_;refine zb ?_;refine zu ?_;refine zt ?_;refine zl ?_;refine zR rfl rfl (.cellW rfl (hBs19x6) isAgg106 sizeOf106 rfl) ?_;exact ⟨by unfold rop2; (repeat (first | rw [if_pos (by omega)] | rw [if_neg (by omega)])); first | done | rfl, hb0⟩
         ·intro g69
          try simp only [dd] at g69
          refine zg (za (SQ (zO rfl rfl) (SQ (ze rfl) (zd (zb ?_)))));refine zw rfl ?_ ?_
          ·intro g77
           try simp only [dd] at g77
           refine zg ?_;refine za ?_;refine SQ (zh qw rfl) ?_;refine SQ (zi (hB4) isAgg3 rfl rfl) ?_;refine SQ (zh qw rfl) ?_;refine SQ (zi (hB5) isAgg3 rfl rfl) ?_;refine SQ (qi rfl rfl) ?_;refine zF rfl call102 rfl (f102_c _ _) ?_;intro w84 hb84;replace hb0 := btr hb0 hb84;replace hB6 := hB6.below hb84;refine zm (hB6) rfl rfl rfl rfl sizeOf106 rfl rfl ?_;intro ws21x6 hchs21x6 hBs21x6;replace hb0 := bchg hb0 hchs21x6 hle6;clear hB6;refine zd ?_;refine zb ?_;refine zu ?_;refine zt ?_;refine zl ?_;refine zR rfl rfl (.cellW rfl (hBs21x6) isAgg106 sizeOf106 rfl) ?_;exact ⟨by unfold rop2; (repeat (first | rw [if_pos (by omega)] | rw [if_neg (by omega)])); first | done | rfl, hb0⟩
          ·intro g77
           try simp only [dd] at g77
           refine zg (za (SQ (zO rfl rfl) (SQ (ze rfl) (zd (zb ?_)))));refine zw rfl ?_ ?_
           ·intro g85
            try simp only [dd] at g85
            refine zg ?_;refine za ?_;refine SQ (zh qw rfl) ?_;refine SQ (zi (hB4) isAgg3 rfl rfl) ?_;refine SQ (zh qw rfl) ?_;refine SQ (zi (hB5) isAgg3 rfl rfl) ?_;refine SQ (js rfl rfl) ?_;refine zF rfl call102 rfl (f102_c _ _) ?_;intro w92 hb92;replace hb0 := btr hb0 hb92;replace hB6 := hB6.below hb92;refine zm (hB6) rfl rfl rfl rfl sizeOf106 rfl rfl ?_;intro ws23x6 hchs23x6 hBs23x6;replace hb0 := bchg hb0 hchs23x6 hle6;clear hB6;refine zd ?_;refine zb ?_;refine zu ?_;refine zt ?_;refine zl ?_;refine zR rfl rfl (.cellW rfl (hBs23x6) isAgg106 sizeOf106 rfl) ?_;exact ⟨by unfold rop2; (repeat (first | rw [if_pos (by omega)] | rw [if_neg (by omega)])); first | done | rfl, hb0⟩
           ·intro g85
            try simp only [dd] at g85
            refine zH (zQ (zb (zg (zg (za (SQ (zh qw rfl) (SQ (zi (hB5) isAgg3 rfl rfl) (SQ (zO rfl rfl) (zd (zb ?_))))))))));refine zw rfl ?_ ?_
            ·intro g95
             try simp only [dd] at g95
             refine zg ?_;refine za ?_;refine zF rfl call78 rfl (f78_c _ _) ?_;intro w96 hb96;replace hb0 := btr hb0 hb96;replace hB6 := hB6.below hb96;refine zm (hB6) rfl rfl rfl rfl sizeOf106 rfl rfl ?_;intro ws25x1 hchs25x1 hBs25x1;replace hb0 := bchg hb0 hchs25x1 hle6;clear hB6;refine zd ?_;refine zb ?_;refine zu ?_;refine zl ?_;refine zR rfl rfl (.cellW rfl (hBs25x1) isAgg106 sizeOf106 rfl) ?_;exact ⟨by unfold rop2; (repeat (first | rw [if_pos (by omega)] | rw [if_neg (by omega)])); first | done | rfl, hb0⟩
            ·intro g95
             try simp only [dd] at g95
             refine zH (zb (zg (za (SQ (zh qw rfl) (SQ (zi (hB4) isAgg3 rfl rfl) (SQ (zh qw rfl) (SQ (zi (hB5) isAgg3 rfl rfl) (zF rfl call104 rfl (f104_c ha0 hb0q (by omega) _) ?_))))))));intro w101 hb101;replace hb0 := btr hb0 hb101;replace hB4 := hB4.below hb101;replace hB5 := hB5.below hb101;replace hB6 := hB6.below hb101;refine SQ (ze rfl) (zd (zb (zg (zg (za (SQ (zf rfl) (SQ (zO rfl rfl) (zd (zb ?_)))))))));refine zw rfl ?_ ?_
             ·intro g103
              try simp only [dd] at g103
              refine zg ?_;refine za ?_;refine SQ (zf rfl) ?_;refine zF rfl call77 rfl (f77_c _ _) ?_;intro w105 hb105;replace hb0 := btr hb0 hb105;replace hB6 := hB6.below hb105;refine zm (hB6) rfl rfl rfl rfl sizeOf106 rfl rfl ?_;intro ws28x2 hchs28x2 hBs28x2;replace hb0 := bchg hb0 hchs28x2 hle6;clear hB6;refine zd ?_;refine zb ?_;refine zu ?_;refine zl ?_;refine zR rfl rfl (.cellW rfl (hBs28x2) isAgg106 sizeOf106 rfl) ?_;exact ⟨by unfold rop2; (repeat (first | rw [if_pos (by omega)] | rw [if_neg (by omega)])); first | done | rfl, hb0⟩
             ·intro g103
              try simp only [dd] at g103
              refine zH ?_;refine zb ?_;refine zg ?_;refine za ?_;refine SQ (zh qw rfl) ?_;refine SQ (zi (hB4) isAgg3 rfl rfl) ?_;refine SQ (zh qw rfl) ?_;refine SQ (zi (hB5) isAgg3 rfl rfl) ?_;refine SQ (zf rfl) ?_;have hqs := quot_small ha0 (b := b.n) (by omega); have hmq := small_mul hb0q hqs;refine SQ (Rq_mul rfl rfl (zS (by omega) (by omega))) ?_;refine SQ (qO rfl rfl (zS (by omega) (by omega))) ?_;refine zF rfl call77 rfl (f77_c _ _) ?_;intro w113 hb113;replace hb0 := btr hb0 hb113;replace hB6 := hB6.below hb113;refine zm (hB6) rfl rfl rfl rfl sizeOf106 rfl rfl ?_;intro ws29x8 hchs29x8 hBs29x8;replace hb0 := bchg hb0 hchs29x8 hle6;clear hB6;refine zd ?_;refine zb ?_;refine zu ?_;refine zR rfl rfl (.cellW rfl (hBs29x8) isAgg106 sizeOf106 rfl) ?_;exact ⟨by unfold rop2; (repeat (first | rw [if_pos (by omega)] | rw [if_neg (by omega)])); first | done | rfl, hb0⟩
end Go.Proofs.YtphmoebiobjfhaaGreat
