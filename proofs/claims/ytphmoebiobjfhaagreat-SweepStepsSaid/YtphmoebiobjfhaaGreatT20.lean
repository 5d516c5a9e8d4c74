/- Walks of functions, printed by a program of the author. -/
import Derived.Test.YtphmoebiobjfhaaGreatRf
import Derived.Test.YtphmoebiobjfhaaGreatT19
set_option linter.all false
namespace Go.Proofs.YtphmoebiobjfhaaGreat
open Go Go.Mi Go.RowKit Tryz Go.Proofs.Tryz
theorem f43_c (n a b : Int) (w : World) : Pure prog 43 #[.int .i64 n, .int .i64 a, .int .i64 b] w (.bool (decide (a ≤ n) && decide (n ≤ b))) := by
 have hb0 := Below.refl w.heap.size w;refine zE func43 rfl ntmps43 rfl ?_;refine zg ?_;refine za ?_;refine SQ (ze rfl) ?_;refine zd ?_;refine zb ?_;refine zg ?_;refine za ?_;refine SQ (zf rfl) ?_;refine SQ (zf rfl) ?_;refine SQ (Rq_geq rfl rfl) ?_;refine SQ (zf rfl) ?_;refine qM (r := ?r10n1) 4 14 10 rfl ?_ ?_ ?_; rotate_left
 ·intro g10 K10
  have g10' := g10; try simp only [dd] at g10'
  have hm10 := Below.refl (w).heap.size w;refine zv 10 rfl rfl g10 (SQ (zf rfl) (zv 10 rfl rfl g10 (SQ (zf rfl) (zv 10 rfl rfl g10 (SQ (js rfl rfl) (SQ (zA rfl (fun _ => rfl) (fun h => absurd (g10.symm.trans h) (by decide))) ?_))))));exact K10 _ _ hm10 (by repeat (first | exact Sub.refl | refine Sub.shadow ?_ | refine Sub.same ?_ | refine Sub.push rfl ?_))
 ·intro g10 K10
  have g10' := g10; try simp only [dd] at g10'
  have hm10 := Below.refl (w).heap.size w;refine zB 10 rfl rfl g10 rfl (zB 10 rfl rfl g10 rfl (zB 10 rfl rfl g10 rfl (SQ (zA rfl (fun h => absurd (g10.symm.trans h) (by decide)) (fun _ => rfl)) ?_)));exact K10 _ _ hm10 (by repeat (first | exact Sub.refl | refine Sub.shadow ?_ | refine Sub.same ?_ | refine Sub.push rfl ?_))
 intro wm10 hbm10;replace hb0 := btr hb0 hbm10
 simp only [List.drop_succ_cons, List.drop_zero]
 refine SQ (ze rfl) (zd (zb (zu (zP rfl rfl rfl ?_))));exact ⟨rfl, hb0⟩
theorem f61_c (code ch : Int) (w : World) (h0 : 0 ≤ ch) (h1 : ch ≤ 100000) : Pure prog 61 #[.int .u8 code, .int .i64 ch] w (.tuple #[.int .i64 (opnR code ch).1, .int .i64 (opnR code ch).2.1, .int .i64 (opnR code ch).2.2]) := by
 have hb0 := Below.refl w.heap.size w;refine zE func61 rfl ntmps61 rfl ?_;refine zg (za (SQ (ze rfl) (SQ (ze rfl) (SQ (ze rfl) (zd (zb (zg (zL (zg (za (SQ (zf rfl) (SQ (zO rfl rfl) (SQ (ze rfl) (zd (zb ?_)))))))))))))));refine zw rfl ?_ ?_
 ·intro g7
  try simp only [dd] at g7
  refine zg ?_;refine za ?_;refine SQ (ze rfl) ?_;refine SQ (ze rfl) ?_;refine SQ (ze rfl) ?_;refine zd ?_;refine zb ?_;refine zu ?_;refine zt ?_;refine zl ?_;refine D_body3 rfl rfl rfl rfl rfl ?_;exact ⟨by unfold opnR; (repeat (first | rw [if_pos (by omega)] | rw [if_neg (by omega)])), hb0⟩
 ·intro g7
  try simp only [dd] at g7
  refine zg (za (SQ (zf rfl) (SQ (zO rfl rfl) (SQ (ze rfl) (zd (zb ?_))))));refine zw rfl ?_ ?_
  ·intro g10
   try simp only [dd] at g10
   refine zg ?_;refine za ?_;refine SQ (ze rfl) ?_;refine SQ (ze rfl) ?_;refine SQ (ze rfl) ?_;refine zd ?_;refine zb ?_;refine zu ?_;refine zt ?_;refine zl ?_;refine D_body3 rfl rfl rfl rfl rfl ?_;exact ⟨by unfold opnR; (repeat (first | rw [if_pos (by omega)] | rw [if_neg (by omega)])), hb0⟩
  ·intro g10
   try simp only [dd] at g10
   refine zg (za (SQ (zf rfl) (SQ (zO rfl rfl) (SQ (ze rfl) (zd (zb ?_))))));refine zw rfl ?_ ?_
   ·intro g13
    try simp only [dd] at g13
    refine zg ?_;refine za ?_;refine SQ (zf rfl) ?_;refine SQ (qO rfl rfl (zS (by omega) (by omega))) ?_;refine SQ (ze rfl) ?_;refine SQ (ze rfl) ?_;refine SQ (ze rfl) ?_;refine zd ?_;refine zb ?_;refine zu ?_;refine zt ?_;refine zl ?_;refine D_body3 rfl rfl rfl rfl rfl ?_;exact ⟨by unfold opnR; (repeat (first | rw [if_pos (by omega)] | rw [if_neg (by omega)])), hb0⟩
   ·intro g13
    try simp only [dd] at g13
    refine zg (za (SQ (zf rfl) (SQ (zO rfl rfl) (SQ (ze rfl) (zd (zb ?_))))));refine zw rfl ?_ ?_
    ·intro g18
     try simp only [dd] at g18
     refine zg ?_;refine za ?_;refine SQ (ze rfl) ?_;refine SQ (ze rfl) ?_;refine SQ (ze rfl) ?_;refine zd ?_;refine zb ?_;refine zu ?_;refine zt ?_;refine zl ?_;refine D_body3 rfl rfl rfl rfl rfl ?_;exact ⟨by unfold opnR; (repeat (first | rw [if_pos (by omega)] | rw [if_neg (by omega)])), hb0⟩
    ·intro g18
     try simp only [dd] at g18
     refine zg ?_;refine za ?_;refine SQ (zf rfl) ?_;refine SQ (zO rfl rfl) ?_;refine SQ (zf rfl) ?_;refine qC (r := ?r24n1) 3 27 24 rfl ?_ ?_ ?_; rotate_left
     ·intro g24 K24
      have g24' := g24; try simp only [dd] at g24'
      have hm24 := Below.refl (w).heap.size w;refine zv 24 rfl rfl g24 (SQ (zf rfl) (zv 24 rfl rfl g24 (SQ (zO rfl rfl) (SQ (zA rfl (fun h => absurd (g24.symm.trans h) (by decide)) (fun _ => rfl)) ?_))));exact K24 _ _ hm24 (by repeat (first | exact Sub.refl | refine Sub.shadow ?_ | refine Sub.same ?_ | refine Sub.push rfl ?_))
     ·intro g24 K24
      have g24' := g24; try simp only [dd] at g24'
      have hm24 := Below.refl (w).heap.size w;refine zB 24 rfl rfl g24 rfl (zB 24 rfl rfl g24 rfl (SQ (zA rfl (fun _ => rfl) (fun h => absurd (g24.symm.trans h) (by decide))) ?_));exact K24 _ _ hm24 (by repeat (first | exact Sub.refl | refine Sub.shadow ?_ | refine Sub.same ?_ | refine Sub.push rfl ?_))
     intro wm24 hbm24;replace hb0 := btr hb0 hbm24
     simp only [List.drop_succ_cons, List.drop_zero]
     refine SQ (ze rfl) (zd (zb ?_));refine zw rfl ?_ ?_
     ·intro g21
      try simp only [dd] at g21
      refine zg ?_;refine za ?_;refine SQ (ze rfl) ?_;refine SQ (ze rfl) ?_;refine SQ (ze rfl) ?_;refine zd ?_;refine zb ?_;refine zu ?_;refine zt ?_;refine zl ?_;refine D_body3 rfl rfl rfl rfl rfl ?_;exact ⟨by unfold opnR; (repeat (first | rw [if_pos (by omega)] | rw [if_neg (by omega)])), hb0⟩
     ·intro g21
      try simp only [dd] at g21
      refine zg ?_;refine za ?_;refine SQ (zf rfl) ?_;refine SQ (Rq_geq rfl rfl) ?_;refine SQ (zf rfl) ?_;refine qM (r := ?r31n2) 3 34 31 rfl ?_ ?_ ?_; rotate_left
      ·intro g31 K31
       have g31' := g31; try simp only [dd] at g31'
       have hm31 := Below.refl (wm24).heap.size wm24;refine zv 31 rfl rfl g31 (SQ (zf rfl) (zv 31 rfl rfl g31 (SQ (js rfl rfl) (SQ (zA rfl (fun _ => rfl) (fun h => absurd (g31.symm.trans h) (by decide))) ?_))));exact K31 _ _ hm31 (by repeat (first | exact Sub.refl | refine Sub.shadow ?_ | refine Sub.same ?_ | refine Sub.push rfl ?_))
      ·intro g31 K31
       have g31' := g31; try simp only [dd] at g31'
       have hm31 := Below.refl (wm24).heap.size wm24;refine zB 31 rfl rfl g31 rfl (zB 31 rfl rfl g31 rfl (SQ (zA rfl (fun h => absurd (g31.symm.trans h) (by decide)) (fun _ => rfl)) ?_));exact K31 _ _ hm31 (by repeat (first | exact Sub.refl | refine Sub.shadow ?_ | refine Sub.same ?_ | refine Sub.push rfl ?_))
      intro wm31 hbm31;replace hb0 := btr hb0 hbm31
      simp only [List.drop_succ_cons, List.drop_zero]
      refine SQ (ze rfl) (zd (zb ?_));refine zw rfl ?_ ?_
      ·intro g28
       try simp only [dd] at g28
       refine zg ?_;refine za ?_;refine SQ (ze rfl) ?_;refine SQ (ze rfl) ?_;refine SQ (ze rfl) ?_;refine zd ?_;refine zb ?_;refine zu ?_;refine zt ?_;refine zl ?_;refine D_body3 rfl rfl rfl rfl rfl ?_;exact ⟨by unfold opnR; (repeat (first | rw [if_pos (by omega)] | rw [if_neg (by omega)])), hb0⟩
      ·intro g28
       try simp only [dd] at g28
       refine zg (za (SQ (zf rfl) (SQ (zO rfl rfl) (SQ (ze rfl) (zd (zb ?_))))));refine zw rfl ?_ ?_
       ·intro g35
        try simp only [dd] at g35
        refine zg ?_;refine za ?_;refine SQ (ze rfl) ?_;refine SQ (ze rfl) ?_;refine SQ (ze rfl) ?_;refine zd ?_;refine zb ?_;refine zu ?_;refine zt ?_;refine zl ?_;refine D_body3 rfl rfl rfl rfl rfl ?_;exact ⟨by unfold opnR; (repeat (first | rw [if_pos (by omega)] | rw [if_neg (by omega)])), hb0⟩
       ·intro g35
        try simp only [dd] at g35
        refine zH ?_;refine zQ ?_;refine zb ?_;refine zg ?_;refine za ?_;refine SQ (ze rfl) ?_;refine SQ (ze rfl) ?_;refine SQ (ze rfl) ?_;refine zd ?_;refine zb ?_;refine zu ?_;refine D_body3 rfl rfl rfl rfl rfl ?_;exact ⟨by unfold opnR; (repeat (first | rw [if_pos (by omega)] | rw [if_neg (by omega)])), hb0⟩
theorem f44_c (z : Ot) (i nch : Nat) (w : World) (h0 : i ≤ 100000) (h1 : nch ≤ 100000) : Pure prog 44 #[valO z, .int .i64 (i : Int), .int .i64 (nch : Int)] w (.bool (isOpB nch i z)) := by
 have hb0 := Below.refl w.heap.size w;refine zE func44 rfl ntmps44 rfl ?_;refine zg (za (qe rfl rfl rfl ?_));intro w3 b3 e3 hb3 hz3 hB3
 have hle3 : w.heap.size ≤ b3 := by have := hb0.size; omega
 replace hb0 := btr hb0 hb3;refine SQ (ze rfl) (zd (zb (zg (za (SQ (zh qc rfl) (SQ (zi (hB3) isAgg5 rfl rfl) (SQ (zf rfl) (zF rfl call61 rfl (f61_c z.code (nch : Int) _ (by omega) (by omega)) ?_))))))));intro w16 hb16;replace hb0 := btr hb0 hb16;replace hB3 := hB3.below hb16;refine SQ (zf rfl) (SQ (zK rfl rfl) (SQ (zK rfl rfl) (SQ (zK rfl rfl) (SQ (ze rfl) (SQ (ze rfl) (SQ (ze rfl) (zd (zb (zg (zg (za (SQ (zh jx rfl) (SQ (zi (hB3) isAgg3 rfl rfl) (SQ (zf rfl) (SQ (zf rfl) (zF rfl call43 rfl (f43_c _ _ _ _) ?_))))))))))))))));intro w24 hb24;replace hb0 := btr hb0 hb24;replace hB3 := hB3.below hb24;refine SQ (qv rfl) (zd (zb ?_));refine zw rfl ?_ ?_
 ·intro g25
  try simp only [dd] at g25
  have hno := isOp_n (nch := nch) (i := i) (x := z) (by omega);refine zg (za (SQ (ze rfl) (zd (zb (zu (zl (zP rfl rfl rfl ?_)))))));exact ⟨by rw [hno], hb0⟩
 ·intro g25
  try simp only [dd] at g25
  refine zH (zb (zg (za (SQ (zh qs rfl) (SQ (zi (hB3) isAgg3 rfl rfl) (SQ (zh qE rfl) (SQ (zi (hB3) isAgg3 rfl rfl) (SQ (zh q5 rfl) (SQ (zi (hB3) isAgg3 rfl rfl) (z2 (enc := encI) (val := valI) (os := [.tmp 27, .tmp 29, .tmp 31]) rfl rfl (MV.cons (x := z.a) (MV.cons (x := z.b) (MV.cons (x := z.c) MV.nil))) (fun _ => rfl) (fun _ => rfl) zU24 sizeOf3 zeroValue3 rfl (by decide) (by decide) rfl ?_))))))))));intro w32 v32 b32 e32 hb32 hz32 hob32 hO32
  have hle32 : w.heap.size ≤ b32 := by have := hb0.size; omega
  have lt_b3_32 : b3 < b32 := by have := hB3.lt; omega
  replace hb0 := btr hb0 hb32;refine SQ (ze rfl) (zd (zb (zg (zg (za (SQ (ze rfl) (zd (zb (zL ?_)))))))));refine qo (α := Nat) (fun x => [(11, .int .i64 (x : Nat)), (7, .int .i64 (opnR z.code nch).1), (10, v32), (1, .int .i64 (i : Int))]) (fun x w' => Below w.heap.size w w' ∧ x ≤ 3 ∧ (∀ k' : Nat, k' < x → ((k' : Int) < (opnR z.code nch).1 → 0 ≤ (opndR z).getD k' 0 ∧ (opndR z).getD k' 0 ≤ (i : Int) - 1) ∧ ((opnR z.code nch).1 ≤ (k' : Int) → (opndR z).getD k' 0 = 0)) ∧ OS w' v32 3 1 encI [z.a, z.b, z.c] b32) (fun x => 3 - x) (0) (by repeat (first | exact Sub.nil | refine Sub.cons rfl ?_)) ⟨hb0, Nat.zero_le _, (fun k h => by omega), hO32⟩ ?_;clear hb0;clear hB3;clear hO32;rintro x wl0 ⟨hb0, hk, hno, hO32⟩;refine zg (zg (za (SQ (zf rfl) (SQ (qi rfl rfl) (zd (zb ?_))))));refine zw rfl ?_ ?_
  ·intro g34
   try simp only [dd] at g34
   have hk3 : x < 3 := by omega
   have hxk : [z.a, z.b, z.c][x]? = some ((opndR z).getD x 0) := by match x, hk3 with | 0, _ => rfl | 1, _ => rfl | 2, _ => rfl
   refine zH ?_;refine zb ?_;refine zg ?_;refine zL ?_;refine zg ?_;refine za ?_;refine SQ (zf rfl) ?_;refine SQ (zf rfl) ?_;refine SQ (qi rfl rfl) ?_;refine SQ (zf rfl) ?_;refine qM (r := ?r40n1) 9 49 40 rfl ?_ ?_ ?_; rotate_left
   ·intro g40 K40
    have g40' := g40; try simp only [dd] at g40'
    have hm40 := Below.refl (wl0).heap.size wl0;refine zv 40 rfl rfl g40 (SQ (zf rfl) (zv 40 rfl rfl g40 (SQ (zf rfl) (zv 40 rfl rfl g40 ?_))));refine zy (hO32.sl) zU24 sizeOf3 rfl rfl ?_ ?_ rfl ?_
    ·first | omega | (simp only [List.length_cons, List.length_nil]; omega)
    ·first | omega | (simp only [List.length_cons, List.length_nil]; omega)
    intro x43 hx43 hc43;have ex43 := Option.some.inj ((hxk).symm.trans hx43); subst ex43;refine zv 40 rfl rfl g40 (SQ (qd isAgg3 rfl ((hc43).cell 0 rfl)) (zv 40 rfl rfl g40 (SQ (zf rfl) (zv 40 rfl rfl g40 (SQ (qO rfl rfl (zS (by omega) (by omega))) (zv 40 rfl rfl g40 (zF rfl call43 rfl (f43_c _ _ _ _) ?_)))))));intro w47 hb47;replace hb0 := btr hb0 hb47;replace hm40 := btr hm40 hb47;refine zv 40 rfl rfl g40 (SQ (qv rfl) (SQ (zA rfl (fun _ => rfl) (fun h => absurd (g40.symm.trans h) (by decide))) ?_));exact K40 _ _ hm40 (by repeat (first | exact Sub.refl | refine Sub.shadow ?_ | refine Sub.same ?_ | refine Sub.push rfl ?_))
   ·intro g40 K40
    have g40' := g40; try simp only [dd] at g40'
    have hm40 := Below.refl (wl0).heap.size wl0;refine zB 40 rfl rfl g40 rfl (zB 40 rfl rfl g40 rfl (zB 40 rfl rfl g40 rfl (zB 40 rfl rfl g40 rfl (zB 40 rfl rfl g40 rfl (zB 40 rfl rfl g40 rfl (zB 40 rfl rfl g40 rfl (zB 40 rfl rfl g40 rfl (SQ (zA rfl (fun h => absurd (g40.symm.trans h) (by decide)) (fun _ => rfl)) ?_))))))));exact K40 _ _ hm40 (by repeat (first | exact Sub.refl | refine Sub.shadow ?_ | refine Sub.same ?_ | refine Sub.push rfl ?_))
   intro wm40 hbm40;replace hb0 := btr hb0 hbm40;replace hO32 := hO32.below hbm40
   simp only [List.drop_succ_cons, List.drop_zero]
   refine SQ (zf rfl) ?_;refine qC (r := ?r50n2) 11 61 50 rfl ?_ ?_ ?_; rotate_left
   ·intro g50 K50
    have g50' := g50; try simp only [dd] at g50'
    have hm50 := Below.refl (wm40).heap.size wm40;refine zv 50 rfl rfl g50 ?_;refine SQ (zf rfl) ?_;refine zv 50 rfl rfl g50 ?_;refine SQ (zf rfl) ?_;refine zv 50 rfl rfl g50 ?_;refine SQ (Rq_geq rfl rfl) ?_;refine zv 50 rfl rfl g50 ?_;refine SQ (zf rfl) ?_;refine qM (r := ?r54n3) 6 60 54 rfl ?_ ?_ ?_; rotate_left
    ·intro g54 K54
     have g54' := g54; try simp only [dd] at g54'
     have hm54 := Below.refl (wm40).heap.size wm40;refine zv 54 rfl rfl g54 (SQ (zf rfl) (zv 54 rfl rfl g54 (SQ (zf rfl) (zv 54 rfl rfl g54 ?_))));refine zy (hO32.sl) zU24 sizeOf3 rfl rfl ?_ ?_ rfl ?_
     ·first | omega | (simp only [List.length_cons, List.length_nil]; omega)
     ·first | omega | (simp only [List.length_cons, List.length_nil]; omega)
     intro x57 hx57 hc57;have ex57 := Option.some.inj ((hxk).symm.trans hx57); subst ex57;refine zv 54 rfl rfl g54 (SQ (qd isAgg3 rfl ((hc57).cell 0 rfl)) (zv 54 rfl rfl g54 (SQ (qp rfl rfl) (zv 50 rfl rfl g50 (SQ (zA rfl (fun _ => rfl) (fun h => absurd (g54.symm.trans h) (by decide))) ?_)))));exact K54 _ _ hm54 (by repeat (first | exact Sub.refl | refine Sub.shadow ?_ | refine Sub.same ?_ | refine Sub.push rfl ?_))
    ·intro g54 K54
     have g54' := g54; try simp only [dd] at g54'
     have hm54 := Below.refl (wm40).heap.size wm40;refine zB 54 rfl rfl g54 rfl (zB 54 rfl rfl g54 rfl (zB 54 rfl rfl g54 rfl (zB 54 rfl rfl g54 rfl (zB 54 rfl rfl g54 rfl (zv 50 rfl rfl g50 (SQ (zA rfl (fun h => absurd (g54.symm.trans h) (by decide)) (fun _ => rfl)) ?_))))));exact K54 _ _ hm54 (by repeat (first | exact Sub.refl | refine Sub.shadow ?_ | refine Sub.same ?_ | refine Sub.push rfl ?_))
    intro wm54 hbm54;replace hb0 := btr hb0 hbm54;replace hm50 := btr hm50 hbm54
    simp only [List.drop_succ_cons, List.drop_zero]
    refine SQ (zA rfl (fun h => absurd (g50.symm.trans h) (by decide)) (fun _ => rfl)) ?_;exact K50 _ _ hm50 (by repeat (first | exact Sub.refl | refine Sub.shadow ?_ | refine Sub.same ?_ | refine Sub.push rfl ?_))
   ·intro g50 K50
    have g50' := g50; try simp only [dd] at g50'
    have hm50 := Below.refl (wm40).heap.size wm40;refine zB 50 rfl rfl g50 rfl (zB 50 rfl rfl g50 rfl (zB 50 rfl rfl g50 rfl (zB 50 rfl rfl g50 rfl (jX 54 rfl rfl rfl (jX 54 rfl rfl rfl (jX 54 rfl rfl rfl (jX 54 rfl rfl rfl (jX 54 rfl rfl rfl (zB 50 rfl rfl g50 rfl (SQ (zA rfl (fun _ => rfl) (fun h => absurd (g50.symm.trans h) (by decide))) ?_))))))))));exact K50 _ _ hm50 (by repeat (first | exact Sub.refl | refine Sub.shadow ?_ | refine Sub.same ?_ | refine Sub.push rfl ?_))
   intro wm50 hbm50;replace hb0 := btr hb0 hbm50;replace hO32 := hO32.below hbm50
   simp only [List.drop_succ_cons, List.drop_zero]
   refine zd (zb ?_);refine zw rfl ?_ ?_
   ·intro g61
    try simp only [dd] at g61
    refine zg ?_;refine za ?_;refine SQ (ze rfl) ?_;refine zd ?_;refine zb ?_;refine zu ?_;refine zt ?_;refine zl ?_;refine qn ?_;refine zt ?_;refine zl ?_;refine zP rfl rfl rfl ?_;exact ⟨by rw [isOp_k hk3 (by have := g61; simp at this; omega)], hb0⟩
   ·intro g61
    try simp only [dd] at g61
    refine zH ?_;refine zQ ?_;refine zb ?_;refine za ?_;refine SQ (zf rfl) ?_;refine SQ (qb rfl rfl (zS (by omega) (by omega))) ?_;refine SQ (ze rfl) ?_;refine zd ?_;refine qh (x + 1) (by repeat (first | exact Sub.nil | refine Sub.cons rfl ?_)) ⟨hb0, by omega, (fun k' hk' => by rcases Nat.lt_succ_iff_lt_or_eq.1 hk' with h | rfl; exact hno k' h; (constructor <;> intro hh <;> (have := g61; simp at this; omega))), hO32⟩ (by omega)
  ·intro g34
   try simp only [dd] at g34
   refine qk (z0 (z9 ?_));refine zX (zb (zg (za (SQ (ze rfl) (zd (zb (zu (zP rfl rfl rfl ?_))))))));exact ⟨by rw [isOp_yes (by omega) (fun k' hk' => hno k' (by omega))], hb0⟩
set_option maxHeartbeats 1000000 in
theorem f15_c {v : Value} {C : Co} {w : World} (hC : CoS w v C) : Pure prog 15 #[v] w (.int .i64 (checkR C)) := by
 obtain ⟨uC, uO, uR, rfl, hu1, hu2, hu3⟩ := hC.ex;have hb0 := Below.refl w.heap.size w;refine zE func15 rfl ntmps15 rfl ?_;refine zg (za (qe rfl rfl rfl ?_));intro w1 b1 e1 hb1 hz1 hB1
 have hle1 : w.heap.size ≤ b1 := by have := hb0.size; omega
 replace hb0 := btr hb0 hb1;refine SQ (ze rfl) (zd (zb (zg (zg (za (SQ (zh ji rfl) (SQ (zi (hB1) isAgg22 rfl rfl) ?_)))))))
 first | refine SQ (zr ((hu1).below hb0) zU22 rfl) ?_ | refine SQ (zr ((hu2).below hb0) zU22 rfl) ?_ | refine SQ (zr ((hu3).below hb0) zU22 rfl) ?_
 refine SQ (qu rfl rfl) ?_;refine SQ (zf rfl) ?_;refine qC (r := ?r11n1) 5 16 11 rfl ?_ ?_ ?_; rotate_left
 ·intro g11 K11
  have g11' := g11; try simp only [dd] at g11'
  have hm11 := Below.refl (w1).heap.size w1;refine zv 11 rfl rfl g11 (SQ (zh z1 rfl) (zv 11 rfl rfl g11 (SQ (zi (hB1) isAgg23 rfl rfl) (zv 11 rfl rfl g11 ?_))))
  first | refine SQ (zr ((hu1).below hb0) zU23 rfl) ?_ | refine SQ (zr ((hu2).below hb0) zU23 rfl) ?_ | refine SQ (zr ((hu3).below hb0) zU23 rfl) ?_
  refine zv 11 rfl rfl g11 (SQ (qu rfl rfl) (SQ (zA rfl (fun h => absurd (g11.symm.trans h) (by decide)) (fun _ => rfl)) ?_));exact K11 _ _ hm11 (by repeat (first | exact Sub.refl | refine Sub.shadow ?_ | refine Sub.same ?_ | refine Sub.push rfl ?_))
 ·intro g11 K11
  have g11' := g11; try simp only [dd] at g11'
  have hm11 := Below.refl (w1).heap.size w1;refine zB 11 rfl rfl g11 rfl (zB 11 rfl rfl g11 rfl (zB 11 rfl rfl g11 rfl (zB 11 rfl rfl g11 rfl (SQ (zA rfl (fun _ => rfl) (fun h => absurd (g11.symm.trans h) (by decide))) ?_))));exact K11 _ _ hm11 (by repeat (first | exact Sub.refl | refine Sub.shadow ?_ | refine Sub.same ?_ | refine Sub.push rfl ?_))
 intro wm11 hbm11;replace hb0 := btr hb0 hbm11;replace hB1 := hB1.below hbm11
 simp only [List.drop_succ_cons, List.drop_zero]
 refine SQ (zf rfl) ?_;refine qC (r := ?r17n2) 5 22 17 rfl ?_ ?_ ?_; rotate_left
 ·intro g17 K17
  have g17' := g17; try simp only [dd] at g17'
  have hm17 := Below.refl (wm11).heap.size wm11;refine zv 17 rfl rfl g17 (SQ (zh qI rfl) (zv 17 rfl rfl g17 (SQ (zi (hB1) isAgg24 rfl rfl) (zv 17 rfl rfl g17 ?_))))
  first | refine SQ (zr ((hu1).below hb0) zU24 rfl) ?_ | refine SQ (zr ((hu2).below hb0) zU24 rfl) ?_ | refine SQ (zr ((hu3).below hb0) zU24 rfl) ?_
  refine zv 17 rfl rfl g17 (SQ (qu rfl rfl) (SQ (zA rfl (fun h => absurd (g17.symm.trans h) (by decide)) (fun _ => rfl)) ?_));exact K17 _ _ hm17 (by repeat (first | exact Sub.refl | refine Sub.shadow ?_ | refine Sub.same ?_ | refine Sub.push rfl ?_))
 ·intro g17 K17
  have g17' := g17; try simp only [dd] at g17'
  have hm17 := Below.refl (wm11).heap.size wm11;refine zB 17 rfl rfl g17 rfl (zB 17 rfl rfl g17 rfl (zB 17 rfl rfl g17 rfl (zB 17 rfl rfl g17 rfl (SQ (zA rfl (fun _ => rfl) (fun h => absurd (g17.symm.trans h) (by decide))) ?_))));exact K17 _ _ hm17 (by repeat (first | exact Sub.refl | refine Sub.shadow ?_ | refine Sub.same ?_ | refine Sub.push rfl ?_))
 intro wm17 hbm17;replace hb0 := btr hb0 hbm17;replace hB1 := hB1.below hbm17
 simp only [List.drop_succ_cons, List.drop_zero]
 refine zd (zb ?_);refine zw rfl ?_ ?_
 ·intro g22
  try simp only [dd] at g22
  refine zg (za (SQ (ze rfl) (zd (zb (zu (zl (zP rfl rfl rfl ?_)))))));exact ⟨by rw [check_far (by omega)], hb0⟩
 ·intro g22
  try simp only [dd] at g22
  have hlim : ¬ (6 < C.ch.length ∨ 3000 < C.ops.length ∨ 3000 < C.roots.length) := by omega
  refine zH (zb (zg (zg (za (SQ (ze rfl) (zd (zb (zL ?_))))))));refine qo (α := Nat) (fun x => [(3, .int .i64 (x : Nat)), (1, .pointer (some ⟨b1, 0, none⟩))]) (fun x w' => Below w.heap.size w w' ∧ x ≤ C.ch.length ∧ (∀ (j : Nat) (y : Ch), j < x → C.ch[j]? = some y → noCh y = false) ∧ Blk w' b1 [uC, uO, uR] 26) (fun x => C.ch.length - x) (0) (by repeat (first | exact Sub.nil | refine Sub.cons rfl ?_)) ⟨hb0, Nat.zero_le _, (fun j y h => by omega), hB1⟩ ?_;clear hb0;clear hB1;rintro x wl0 ⟨hb0, hxi, hno, hB1⟩;refine zg (zg (za (SQ (zf rfl) (SQ (zh ji rfl) (SQ (zi (hB1) isAgg22 rfl rfl) ?_)))))
  first | refine SQ (zr ((hu1).below hb0) zU22 rfl) ?_ | refine SQ (zr ((hu2).below hb0) zU22 rfl) ?_ | refine SQ (zr ((hu3).below hb0) zU22 rfl) ?_
  refine SQ (qi rfl rfl) (zd (zb ?_));refine zw rfl ?_ ?_
  ·intro g27
   try simp only [dd] at g27
   refine zH (zb (zg (zL (zg (za (SQ (zh ji rfl) (SQ (zi (hB1) isAgg22 rfl rfl) (SQ (zf rfl) ?_))))))))
   first | refine zy ((hu1).below hb0) zU22 sizeOf84 rfl rfl ?_ ?_ rfl ?_ | refine zy ((hu2).below hb0) zU22 sizeOf84 rfl rfl ?_ ?_ rfl ?_ | refine zy ((hu3).below hb0) zU22 sizeOf84 rfl rfl ?_ ?_ rfl ?_
   ·omega
   ·omega
   intro x33 hx33 hc33;refine SQ (qg isAgg84 sizeOf84 rfl ((hc33)) rfl) (zM zeroValue84 rfl rfl ?_);intro w4 b4 e4 hb4 hz4 hB4
   have hle4 : w.heap.size ≤ b4 := by have := hb0.size; omega
   have ne_b1_4 : ¬ b1 = b4 := by have := hB1.lt; omega
   replace hb0 := btr hb0 hb4;replace hB1 := hB1.below hb4;refine zm (hB4) rfl rfl rfl rfl sizeOf84 rfl rfl ?_;intro ws6x6 hchs6x6 hBs6x6;replace hb0 := bchg hb0 hchs6x6 hle4;replace hB1 := hB1.chg hchs6x6 ne_b1_4;clear hc33;clear hB4;refine zd ?_;refine zb ?_;refine zg ?_;refine za ?_;refine SQ (zh fa84_1 rfl) ?_;refine SQ (zi (hBs6x6) isAgg3 rfl rfl) ?_;refine SQ (zh fa84_2 rfl) ?_;refine SQ (zi (hBs6x6) isAgg3 rfl rfl) ?_;refine zF rfl call43 rfl (f43_c _ _ _ _) ?_;intro w39 hb39;replace hb0 := btr hb0 hb39;replace hB1 := hB1.below hb39;replace hBs6x6 := hBs6x6.below hb39;refine SQ (qv rfl) ?_;refine SQ (zf rfl) ?_;refine qC (r := ?r41n3) 4 45 41 rfl ?_ ?_ ?_; rotate_left
   ·intro g41 K41
    have g41' := g41; try simp only [dd] at g41'
    have hm41 := Below.refl (w39).heap.size w39;refine zv 41 rfl rfl g41 (SQ (zh fa84_2 rfl) (zv 41 rfl rfl g41 (SQ (zi (hBs6x6) isAgg3 rfl rfl) (zv 41 rfl rfl g41 (SQ (qu rfl rfl) (SQ (zA rfl (fun h => absurd (g41.symm.trans h) (by decide)) (fun _ => rfl)) ?_))))));exact K41 _ _ hm41 (by repeat (first | exact Sub.refl | refine Sub.shadow ?_ | refine Sub.same ?_ | refine Sub.push rfl ?_))
   ·intro g41 K41
    have g41' := g41; try simp only [dd] at g41'
    have hm41 := Below.refl (w39).heap.size w39;refine zB 41 rfl rfl g41 rfl (zB 41 rfl rfl g41 rfl (zB 41 rfl rfl g41 rfl (SQ (zA rfl (fun _ => rfl) (fun h => absurd (g41.symm.trans h) (by decide))) ?_)));exact K41 _ _ hm41 (by repeat (first | exact Sub.refl | refine Sub.shadow ?_ | refine Sub.same ?_ | refine Sub.push rfl ?_))
   intro wm41 hbm41;replace hb0 := btr hb0 hbm41;replace hB1 := hB1.below hbm41;replace hBs6x6 := hBs6x6.below hbm41
   simp only [List.drop_succ_cons, List.drop_zero]
   refine SQ (zf rfl) ?_;refine qC (r := ?r46n4) 7 53 46 rfl ?_ ?_ ?_; rotate_left
   ·intro g46 K46
    have g46' := g46; try simp only [dd] at g46'
    have hm46 := Below.refl (wm41).heap.size wm41;refine zv 46 rfl rfl g46 (SQ (zh fa84_2 rfl) (zv 46 rfl rfl g46 (SQ (zi (hBs6x6) isAgg3 rfl rfl) (zv 46 rfl rfl g46 (SQ (zh fa84_1 rfl) (zv 46 rfl rfl g46 (SQ (zi (hBs6x6) isAgg3 rfl rfl) (zv 46 rfl rfl g46 (SQ (qO rfl rfl (zS (by omega) (by omega))) (zv 46 rfl rfl g46 (SQ (Rq_geq rfl rfl) (SQ (zA rfl (fun h => absurd (g46.symm.trans h) (by decide)) (fun _ => rfl)) ?_))))))))))));exact K46 _ _ hm46 (by repeat (first | exact Sub.refl | refine Sub.shadow ?_ | refine Sub.same ?_ | refine Sub.push rfl ?_))
   ·intro g46 K46
    have g46' := g46; try simp only [dd] at g46'
    have hm46 := Below.refl (wm41).heap.size wm41;refine zB 46 rfl rfl g46 rfl (zB 46 rfl rfl g46 rfl (zB 46 rfl rfl g46 rfl (zB 46 rfl rfl g46 rfl (zB 46 rfl rfl g46 rfl (zB 46 rfl rfl g46 rfl (SQ (zA rfl (fun _ => rfl) (fun h => absurd (g46.symm.trans h) (by decide))) ?_))))));exact K46 _ _ hm46 (by repeat (first | exact Sub.refl | refine Sub.shadow ?_ | refine Sub.same ?_ | refine Sub.push rfl ?_))
   intro wm46 hbm46;replace hb0 := btr hb0 hbm46;replace hB1 := hB1.below hbm46
   simp only [List.drop_succ_cons, List.drop_zero]
   refine zd (zb ?_);refine zw rfl ?_ ?_
   ·intro g53
    try simp only [dd] at g53
    refine zg ?_;refine za ?_;refine SQ (ze rfl) ?_;refine zd ?_;refine zb ?_;refine zu ?_;refine zt ?_;refine zl ?_;refine qn ?_;refine zt ?_;refine zl ?_;refine zP rfl rfl rfl ?_;exact ⟨by rw [check_ch hlim hx33 ((Bool.not_eq_false _).mp (fun e => by have h1 := noCh_iff.1 e; first | omega | (simp at g53; omega)))], hb0⟩
   ·intro g53
    try simp only [dd] at g53
    refine zH ?_;refine zQ ?_;refine zb ?_;refine za ?_;refine SQ (zf rfl) ?_;refine SQ (qb rfl rfl (zS (by omega) (by omega))) ?_;refine SQ (ze rfl) ?_;refine zd ?_;refine qh (x + 1) (by repeat (first | exact Sub.nil | refine Sub.cons rfl ?_)) ⟨hb0, by omega, (fun j y hj hy => by rcases Nat.lt_succ_iff_lt_or_eq.1 hj with h | rfl; exact hno j y h hy; (have e := Option.some.inj (hy.symm.trans hx33); subst e; exact noCh_iff.2 (by first | omega | (simp at g53; omega)))), hB1⟩ (by omega)
  ·intro g27
   try simp only [dd] at g27
   have hall1 : ∀ (j : Nat) (y : Ch), C.ch[j]? = some y → noCh y = false := fun j y h => hno j y (by have := (List.getElem?_eq_some_iff.1 h).1; omega) h
   refine qk (z0 (z9 ?_));refine zX (zb (zg (zg (za (SQ (ze rfl) (zd (zb (zL ?_))))))));refine qo (α := Nat) (fun x => [(5, .int .i64 (x : Nat)), (1, .pointer (some ⟨b1, 0, none⟩))]) (fun x w' => Below w.heap.size w w' ∧ x ≤ C.ops.length ∧ (∀ (j : Nat) (y : Ot), j < x → C.ops[j]? = some y → isOpB C.ch.length j y = true) ∧ Blk w' b1 [uC, uO, uR] 26) (fun x => C.ops.length - x) (0) (by repeat (first | exact Sub.nil | refine Sub.cons rfl ?_)) ⟨hb0, Nat.zero_le _, (fun j y h => by omega), hB1⟩ ?_;clear hb0;clear hB1;rintro x wl1 ⟨hb0, hxi, hno2, hB1⟩;refine zg (zg (za (SQ (zf rfl) (SQ (zh z1 rfl) (SQ (zi (hB1) isAgg23 rfl rfl) ?_)))))
   first | refine SQ (zr ((hu1).below hb0) zU23 rfl) ?_ | refine SQ (zr ((hu2).below hb0) zU23 rfl) ?_ | refine SQ (zr ((hu3).below hb0) zU23 rfl) ?_
   refine SQ (qi rfl rfl) (zd (zb ?_));refine zw rfl ?_ ?_
   ·intro g58
    try simp only [dd] at g58
    refine zH (zb (zg (zL (zg (qQ (mixed) (by kernel_rfl) ?_)))));refine QS_q (zh z1 rfl) rfl (QS_q (zi (hB1) isAgg23 rfl rfl) rfl (QS_q (zf rfl) rfl ?_))
    first | refine z8 ((hu1).below hb0) zU23 sizeOf76 rfl rfl ?_ ?_ rfl ?_ | refine z8 ((hu2).below hb0) zU23 sizeOf76 rfl rfl ?_ ?_ rfl ?_ | refine z8 ((hu3).below hb0) zU23 sizeOf76 rfl rfl ?_ ?_ rfl ?_
    ·omega
    ·omega
    intro x64 hx64 hc64;refine QS_q (qg isAgg76 sizeOf76 rfl ((hc64)) rfl) rfl (QS_q (zf rfl) rfl (QS_q (zh ji rfl) rfl (QS_q (zi (hB1) isAgg22 rfl rfl) rfl ?_)))
    first | refine QS_q (zr ((hu1).below hb0) zU22 rfl) rfl ?_ | refine QS_q (zr ((hu2).below hb0) zU22 rfl) rfl ?_ | refine QS_q (zr ((hu3).below hb0) zU22 rfl) rfl ?_
    refine QS_call rfl call44 rfl (fun w' hb' => f44_c _ x C.ch.length _ (by omega) (by omega)) ?_;refine QS_q (qv rfl) rfl (q9 ?_);intro wr12 hbr12;replace hb0 := btr hb0 hbr12;replace hB1 := hB1.below hbr12;refine zb ?_;refine zw rfl ?_ ?_
    ·intro g71
     try simp only [dd] at g71
     refine zg (za (SQ (ze rfl) (zd (zb (zu (zt (zl (qn ?_))))))));refine zt (zl (zP rfl rfl rfl ?_));exact ⟨by rw [check_op hlim hall1 hx64 (by simpa using g71)], hb0⟩
    ·intro g71
     try simp only [dd] at g71
     refine zH ?_;refine zQ ?_;refine zb ?_;refine za ?_;refine SQ (zf rfl) ?_;refine SQ (qb rfl rfl (zS (by omega) (by omega))) ?_;refine SQ (ze rfl) ?_;refine zd ?_;refine qh (x + 1) (by repeat (first | exact Sub.nil | refine Sub.cons rfl ?_)) ⟨hb0, by omega, (fun j y hj hy => by rcases Nat.lt_succ_iff_lt_or_eq.1 hj with h | rfl; exact hno2 j y h hy; (have e := Option.some.inj (hy.symm.trans hx64); subst e; simpa using g71)), hB1⟩ (by omega)
   ·intro g58
    try simp only [dd] at g58
    have hall2 : ∀ (j : Nat) (y : Ot), C.ops[j]? = some y → isOpB C.ch.length j y = true := fun j y h => hno2 j y (by have := (List.getElem?_eq_some_iff.1 h).1; omega) h
    refine qk (z0 (z9 ?_));refine zX (zb (zg (zg (za (SQ (ze rfl) (zd (zb (zL ?_))))))));refine qo (α := Nat) (fun x => [(6, .int .i64 (x : Nat)), (1, .pointer (some ⟨b1, 0, none⟩))]) (fun x w' => Below w.heap.size w w' ∧ x ≤ C.roots.length ∧ (∀ (j : Nat) (y : Int), j < x → C.roots[j]? = some y → 0 ≤ y ∧ y ≤ (C.ops.length : Int) - 1) ∧ Blk w' b1 [uC, uO, uR] 26) (fun x => C.roots.length - x) (0) (by repeat (first | exact Sub.nil | refine Sub.cons rfl ?_)) ⟨hb0, Nat.zero_le _, (fun j y h => by omega), hB1⟩ ?_;clear hb0;clear hB1;rintro x wl2 ⟨hb0, hxi, hno3, hB1⟩;refine zg (zg (za (SQ (zf rfl) (SQ (zh qI rfl) (SQ (zi (hB1) isAgg24 rfl rfl) ?_)))))
    first | refine SQ (zr ((hu1).below hb0) zU24 rfl) ?_ | refine SQ (zr ((hu2).below hb0) zU24 rfl) ?_ | refine SQ (zr ((hu3).below hb0) zU24 rfl) ?_
    refine SQ (qi rfl rfl) (zd (zb ?_));refine zw rfl ?_ ?_
    ·intro g76
     try simp only [dd] at g76
     refine zH (zb (zg (zL (zg (qQ (mixed) (by kernel_rfl) ?_)))));refine QS_q (zh qI rfl) rfl (QS_q (zi (hB1) isAgg24 rfl rfl) rfl (QS_q (zf rfl) rfl ?_))
     first | refine z8 ((hu1).below hb0) zU24 sizeOf3 rfl rfl ?_ ?_ rfl ?_ | refine z8 ((hu2).below hb0) zU24 sizeOf3 rfl rfl ?_ ?_ rfl ?_ | refine z8 ((hu3).below hb0) zU24 sizeOf3 rfl rfl ?_ ?_ rfl ?_
     ·omega
     ·omega
     intro x82 hx82 hc82;refine QS_q (qd isAgg3 rfl ((hc82).cell 0 rfl)) rfl (QS_q (zh z1 rfl) rfl (QS_q (zi (hB1) isAgg23 rfl rfl) rfl ?_))
     first | refine QS_q (zr ((hu1).below hb0) zU23 rfl) rfl ?_ | refine QS_q (zr ((hu2).below hb0) zU23 rfl) rfl ?_ | refine QS_q (zr ((hu3).below hb0) zU23 rfl) rfl ?_
     refine QS_q (qO rfl rfl (zS (by omega) (by omega))) rfl (QS_call rfl call43 rfl (fun w' hb' => f43_c _ _ _ _) ?_);refine QS_q (qv rfl) rfl (q9 ?_);intro wr17 hbr17;replace hb0 := btr hb0 hbr17;replace hB1 := hB1.below hbr17;refine zb ?_;refine zw rfl ?_ ?_
     ·intro g89
      try simp only [dd] at g89
      refine zg ?_;refine za ?_;refine SQ (ze rfl) ?_;refine zd ?_;refine zb ?_;refine zu ?_;refine zt ?_;refine zl ?_;refine qn ?_;refine zt ?_;refine zl ?_;refine zP rfl rfl rfl ?_;exact ⟨by rw [check_root hlim hall1 hx82 (fun e => by first | omega | (simp at g89; omega))], hb0⟩
     ·intro g89
      try simp only [dd] at g89
      refine zH ?_;refine zQ ?_;refine zb ?_;refine za ?_;refine SQ (zf rfl) ?_;refine SQ (qb rfl rfl (zS (by omega) (by omega))) ?_;refine SQ (ze rfl) ?_;refine zd ?_;refine qh (x + 1) (by repeat (first | exact Sub.nil | refine Sub.cons rfl ?_)) ⟨hb0, by omega, (fun j y hj hy => by rcases Nat.lt_succ_iff_lt_or_eq.1 hj with h | rfl; exact hno3 j y h hy; (have e := Option.some.inj (hy.symm.trans hx82); subst e; (first | omega | (simp at g89; omega)))), hB1⟩ (by omega)
    ·intro g76
     try simp only [dd] at g76
     have hall3 : ∀ (j : Nat) (y : Int), C.roots[j]? = some y → 0 ≤ y ∧ y ≤ (C.ops.length : Int) - 1 := fun j y h => hno3 j y (by have := (List.getElem?_eq_some_iff.1 h).1; omega) h
     refine qk (z0 (z9 ?_));refine zX (zb (zg (za (SQ (ze rfl) (zd (zb (zu (zP rfl rfl rfl ?_))))))));exact ⟨by rw [check_yes hlim hall1 hall2 hall3], hb0⟩
end Go.Proofs.YtphmoebiobjfhaaGreat
