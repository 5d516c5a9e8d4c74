/- Walks of functions, printed by a program of the author. -/
import Derived.Test.YtphmoebiobjfhaaGreatT26
set_option linter.all false
namespace Go.Proofs.YtphmoebiobjfhaaGreat
open Go Go.Mi Go.RowKit Tryz Go.Proofs.Tryz
theorem f65_c (x : Ot) (n : Int) (w : World) : Pure prog 65 #[valO x, .int .i64 n] w (.bool (constB x n)) := by
 have hb0 := Below.refl w.heap.size w;refine zE func65 rfl ntmps65 rfl ?_;refine zg (za (qe rfl rfl rfl ?_));intro w2 b2 e2 hb2 hz2 hB2
 have hle2 : w.heap.size ≤ b2 := by have := hb0.size; omega
 replace hb0 := btr hb0 hb2;refine SQ (ze rfl) ?_;refine zd ?_;refine zb ?_;refine zg ?_;refine za ?_;refine SQ (zh qc rfl) ?_;refine SQ (zi (hB2) isAgg5 rfl rfl) ?_;refine SQ (zO rfl rfl) ?_;refine SQ (zf rfl) ?_;refine qM (r := ?r8n1) 5 13 8 rfl ?_ ?_ ?_; rotate_left
 ·intro g8 K8
  have g8' := g8; try simp only [dd] at g8'
  have hm8 := Below.refl (w2).heap.size w2;refine zv 8 rfl rfl g8 (SQ (zh jx rfl) (zv 8 rfl rfl g8 (SQ (zi (hB2) isAgg3 rfl rfl) (zv 8 rfl rfl g8 (SQ (zf rfl) (zv 8 rfl rfl g8 (SQ (zO rfl rfl) (SQ (zA rfl (fun _ => rfl) (fun h => absurd (g8.symm.trans h) (by decide))) ?_))))))));exact K8 _ _ hm8 (by repeat (first | exact Sub.refl | refine Sub.shadow ?_ | refine Sub.same ?_ | refine Sub.push rfl ?_))
 ·intro g8 K8
  have g8' := g8; try simp only [dd] at g8'
  have hm8 := Below.refl (w2).heap.size w2;refine zB 8 rfl rfl g8 rfl (zB 8 rfl rfl g8 rfl (zB 8 rfl rfl g8 rfl (zB 8 rfl rfl g8 rfl (SQ (zA rfl (fun h => absurd (g8.symm.trans h) (by decide)) (fun _ => rfl)) ?_))));exact K8 _ _ hm8 (by repeat (first | exact Sub.refl | refine Sub.shadow ?_ | refine Sub.same ?_ | refine Sub.push rfl ?_))
 intro wm8 hbm8;replace hb0 := btr hb0 hbm8
 simp only [List.drop_succ_cons, List.drop_zero]
 refine SQ (ze rfl) ?_;refine zd ?_;refine zb ?_;refine zu ?_;refine zP rfl rfl rfl ?_;exact ⟨by unfold constB; try rfl, hb0⟩
theorem f49_c {v : Value} {C : Co} {w : World} {o : Nat} (hC : CoS w v C) (hck : checkR C = 0) (ho : o < C.ops.length) : Pure prog 49 #[v, .int .i64 (o : Int)] w (.bool (usedB C o)) := by
 obtain ⟨uC, uO, uR, rfl, hu1, hu2, hu3⟩ := hC.ex;have hC3 := (qm hck).1;have hops := (qm hck).2.2;have hb0 := Below.refl w.heap.size w;refine zE func49 rfl ntmps49 rfl ?_;refine zg (za (qe rfl rfl rfl ?_));intro w2 b2 e2 hb2 hz2 hB2
 have hle2 : w.heap.size ≤ b2 := by have := hb0.size; omega
 replace hb0 := btr hb0 hb2;refine SQ (ze rfl) (zd (zb (zg (zg (za (SQ (ze rfl) (zd (zb (zL ?_)))))))));refine qo (α := Nat) (fun x => [(5, .int .i64 (x : Nat)), (1, .int .i64 (o : Int)), (2, .pointer (some ⟨b2, 0, none⟩))]) (fun x w' => Below w.heap.size w w' ∧ x ≤ C.roots.length ∧ (∀ (j : Nat) (y : Int), j < x → C.roots[j]? = some y → y ≠ o) ∧ Blk w' b2 [uC, uO, uR] 26) (fun x => C.roots.length - x) (0) (by repeat (first | exact Sub.nil | refine Sub.cons rfl ?_)) ⟨hb0, Nat.zero_le _, (fun j y h => by omega), hB2⟩ ?_;clear hb0;clear hB2;rintro x wl0 ⟨hb0, hxi, hno, hB2⟩;refine zg (zg (za (SQ (zf rfl) (SQ (zh qI rfl) (SQ (zi (hB2) isAgg24 rfl rfl) ?_)))))
 first | refine SQ (zr ((hu1).below hb0) zU24 rfl) ?_ | refine SQ (zr ((hu2).below hb0) zU24 rfl) ?_ | refine SQ (zr ((hu3).below hb0) zU24 rfl) ?_
 refine SQ (qi rfl rfl) (zd (zb ?_));refine zw rfl ?_ ?_
 ·intro g13
  try simp only [dd] at g13
  refine zH (zb (zg (zL (zg (za (SQ (zh qI rfl) (SQ (zi (hB2) isAgg24 rfl rfl) (SQ (zf rfl) ?_))))))))
  first | refine zy ((hu1).below hb0) zU24 sizeOf3 rfl rfl ?_ ?_ rfl ?_ | refine zy ((hu2).below hb0) zU24 sizeOf3 rfl rfl ?_ ?_ rfl ?_ | refine zy ((hu3).below hb0) zU24 sizeOf3 rfl rfl ?_ ?_ rfl ?_
  ·omega
  ·omega
  intro x19 hx19 hc19;refine SQ (qd isAgg3 rfl ((hc19).cell 0 rfl)) (SQ (zf rfl) (SQ (zO rfl rfl) (zd (zb ?_))));refine zw rfl ?_ ?_
  ·intro g22
   try simp only [dd] at g22
   refine zg (za (SQ (ze rfl) (zd (zb (zu (zt (zl (qn ?_))))))));refine zt (zl (zP rfl rfl rfl ?_));exact ⟨by rw [used_root hx19 g22], hb0⟩
  ·intro g22
   try simp only [dd] at g22
   refine zH ?_;refine zQ ?_;refine zb ?_;refine za ?_;refine SQ (zf rfl) ?_;refine SQ (qb rfl rfl (zS (by omega) (by omega))) ?_;refine SQ (ze rfl) ?_;refine zd ?_;refine qh (x + 1) (by repeat (first | exact Sub.nil | refine Sub.cons rfl ?_)) ⟨hb0, by omega, (fun j y hj hy => by rcases Nat.lt_succ_iff_lt_or_eq.1 hj with h | rfl; exact hno j y h hy; (have e := Option.some.inj (hy.symm.trans hx19); subst e; exact g22)), hB2⟩ (by omega)
 ·intro g13
  try simp only [dd] at g13
  refine qk (z0 (z9 ?_));refine zX (zb (zg (zg (za (SQ (zf rfl) (SQ (qb rfl rfl (zS (by omega) (by omega))) (SQ (ze rfl) (zd (zb (zL ?_))))))))));refine qo (α := Nat) (fun x => [(6, .int .i64 (x : Nat)), (1, .int .i64 (o : Int)), (2, .pointer (some ⟨b2, 0, none⟩))]) (fun x w' => Below w.heap.size w w' ∧ (o + 1 ≤ x ∧ x ≤ C.ops.length) ∧ (∀ (j : Nat) (y : Ot), o + 1 ≤ j → j < x → C.ops[j]? = some y → ∀ n ∈ opsOf y, n ≠ o) ∧ Blk w' b2 [uC, uO, uR] 26) (fun x => C.ops.length - x) (o + 1) (by repeat (first | exact Sub.nil | refine Sub.cons rfl ?_)) ⟨hb0, ⟨by omega, by omega⟩, (fun j y h h2 => by omega), hB2⟩ ?_;clear hb0;clear hB2;rintro i wl1 ⟨hb0, hxi, hno2, hB2⟩;refine zg (zg (za (SQ (zf rfl) (SQ (zh z1 rfl) (SQ (zi (hB2) isAgg23 rfl rfl) ?_)))))
  first | refine SQ (zr ((hu1).below hb0) zU23 rfl) ?_ | refine SQ (zr ((hu2).below hb0) zU23 rfl) ?_ | refine SQ (zr ((hu3).below hb0) zU23 rfl) ?_
  refine SQ (qi rfl rfl) (zd (zb ?_));refine zw rfl ?_ ?_
  ·intro g29
   try simp only [dd] at g29
   refine zH (zb (zg (zL (zg (za (SQ (zh z1 rfl) (SQ (zi (hB2) isAgg23 rfl rfl) (SQ (zf rfl) ?_))))))))
   first | refine zy ((hu1).below hb0) zU23 sizeOf76 rfl rfl ?_ ?_ rfl ?_ | refine zy ((hu2).below hb0) zU23 sizeOf76 rfl rfl ?_ ?_ rfl ?_ | refine zy ((hu3).below hb0) zU23 sizeOf76 rfl rfl ?_ ?_ rfl ?_
   ·omega
   ·omega
   intro x35 hx35 hc35;refine SQ (qg isAgg76 sizeOf76 rfl ((hc35)) rfl) (qf rfl call46 rfl (f46_c _ _ (qy (hops _ _ hx35)).1.1 (qy (hops _ _ hx35)).1.2.1) ?_);rintro v37 w37 hb37 ⟨hL, _⟩;replace hb0 := btr hb0 hb37;replace hB2 := hB2.below hb37;refine SQ (ze rfl) (zd (zb (zg (za (SQ (ze rfl) (zd (zb (zL ?_))))))));refine qo (α := Nat) (fun x => [(8, .int .i64 (x : Nat)), (7, v37), (6, .int .i64 (i : Nat)), (1, .int .i64 (o : Int)), (2, .pointer (some ⟨b2, 0, none⟩))]) (fun x w' => Below w.heap.size w w' ∧ x ≤ (opsOf x35).length ∧ (∀ (j : Nat) (y : Int), j < x → (opsOf x35)[j]? = some y → y ≠ o) ∧ SL w' v37 1 encI (opsOf x35) ∧ Blk w' b2 [uC, uO, uR] 26) (fun x => (opsOf x35).length - x) (0) (by repeat (first | exact Sub.nil | refine Sub.cons rfl ?_)) ⟨hb0, Nat.zero_le _, (fun j y h => by omega), hL, hB2⟩ ?_;clear hb0;clear hB2;clear hc35;clear hL;rintro k wl2 ⟨hb0, hki, hno3, hL, hB2⟩
   have hl3 : (opsOf x35).length ≤ 3 := by rw [jN]; exact q7 _
   refine zg (zg (za (SQ (zf rfl) (SQ (zf rfl) ?_))))
   first | refine SQ (zr ((hu1).below hb0) zU24 rfl) ?_ | refine SQ (zr ((hu2).below hb0) zU24 rfl) ?_ | refine SQ (zr ((hu3).below hb0) zU24 rfl) ?_ | refine SQ (zr (hL) zU24 rfl) ?_
   refine SQ (qi rfl rfl) (zd (zb ?_));refine zw rfl ?_ ?_
   ·intro g41
    try simp only [dd] at g41
    refine zH (zb (zg (zL (zg (za (SQ (zf rfl) (SQ (zf rfl) ?_)))))))
    first | refine zy ((hu1).below hb0) zU24 sizeOf3 rfl rfl ?_ ?_ rfl ?_ | refine zy ((hu2).below hb0) zU24 sizeOf3 rfl rfl ?_ ?_ rfl ?_ | refine zy ((hu3).below hb0) zU24 sizeOf3 rfl rfl ?_ ?_ rfl ?_ | refine zy (hL) zU24 sizeOf3 rfl rfl ?_ ?_ rfl ?_
    ·omega
    ·omega
    intro x46 hx46 hc46;refine SQ (qd isAgg3 rfl ((hc46).cell 0 rfl)) (SQ (zf rfl) (SQ (zO rfl rfl) (zd (zb ?_))));refine zw rfl ?_ ?_
    ·intro g49
     try simp only [dd] at g49
     refine zg (za (SQ (ze rfl) (zd (zb (zu (zt (zl (qn ?_))))))));refine zt (zt (zl (qn ?_)));refine zt (zl (zP rfl rfl rfl ?_));exact ⟨by rw [used_op hxi.1 hx35 hx46 g49], hb0⟩
    ·intro g49
     try simp only [dd] at g49
     refine zH ?_;refine zQ ?_;refine zb ?_;refine za ?_;refine SQ (zf rfl) ?_;refine SQ (qb rfl rfl (zS (by omega) (by omega))) ?_;refine SQ (ze rfl) ?_;refine zd ?_;refine qh (k + 1) (by repeat (first | exact Sub.nil | refine Sub.cons rfl ?_)) ⟨hb0, by omega, (fun j y hj hy => by rcases Nat.lt_succ_iff_lt_or_eq.1 hj with h | rfl; exact hno3 j y h hy; (have e := Option.some.inj (hy.symm.trans hx46); subst e; exact g49)), hL, hB2⟩ (by omega)
   ·intro g41
    try simp only [dd] at g41
    refine qk ?_;refine z0 ?_;refine z9 ?_;refine zX ?_;refine zQ ?_;refine zb ?_;refine za ?_;refine SQ (zf rfl) ?_;refine SQ (qb rfl rfl (zS (by omega) (by omega))) ?_;refine SQ (ze rfl) ?_;refine zd ?_;refine qh (i + 1) (by repeat (first | exact Sub.nil | refine Sub.cons rfl ?_)) ⟨hb0, ⟨by omega, by omega⟩, (fun j y h1 hj hy n hn => by rcases Nat.lt_succ_iff_lt_or_eq.1 hj with h | rfl; exact hno2 j y h1 h hy n hn; (have e := Option.some.inj (hy.symm.trans hx35); subst e; (obtain ⟨k, hk⟩ := List.getElem?_of_mem hn; exact hno3 k n (by have := (List.getElem?_eq_some_iff.1 hk).1; omega) hk))), hB2⟩ (by omega)
  ·intro g29
   try simp only [dd] at g29
   refine qk ?_;refine z0 ?_;refine z9 ?_;refine zX ?_;refine zb ?_;refine zg ?_;refine za ?_;refine SQ (ze rfl) ?_;refine zd ?_;refine zb ?_;refine zu ?_;refine zP rfl rfl rfl ?_;exact ⟨by rw [used_no (fun j y h => hno j y (by have := (List.getElem?_eq_some_iff.1 h).1; omega) h) (fun j y h1 h => hno2 j y h1 (by have := (List.getElem?_eq_some_iff.1 h).1; omega) h)], hb0⟩
set_option maxHeartbeats 1000000 in
theorem f27_c {v : Value} {C : Co} {w : World} (hC : CoS w v C) (hck : checkR C = 0) : Mi.Fn prog 27 #[v] w fun u w' => OS w' u 4 1 encB (truthsR C.ops) w.heap.size := by
 obtain ⟨uC, uO, uR, rfl, hu1, hu2, hu3⟩ := hC.ex;have hC3 := (qm hck).1;have hix := truths_ix hck;have hub1 := hu1.lt; have hub2 := hu2.lt; have hub3 := hu3.lt;have hb0 := Below.refl w.heap.size w;refine zE func27 rfl ntmps27 rfl ?_;refine zg (za (qe rfl rfl rfl ?_));intro w1 b1 e1 hb1 hz1 hB1
 have hle1 : w.heap.size ≤ b1 := by have := hb0.size; omega
 replace hb0 := btr hb0 hb1;replace hu1 := hu1.below hb1;replace hu2 := hu2.below hb1;replace hu3 := hu3.below hb1;refine SQ (ze rfl) (zd (zb (zg (za (z2 (enc := encB) (val := (fun b : Bool => Value.bool b)) (os := []) rfl rfl MV.nil (fun _ => rfl) (fun _ => rfl) zU54 sizeOf4 zeroValue4 rfl (by decide) (by decide) rfl ?_)))));intro w7 v7 b7 e7 hb7 hz7 hob7 hO7
 have hle7 : w.heap.size ≤ b7 := by have := hb0.size; omega
 have lt_b1_7 : b1 < b7 := by have := hB1.lt; omega
 replace hb0 := btr hb0 hb7;replace hu1 := hu1.below hb7;replace hu2 := hu2.below hb7;replace hu3 := hu3.below hb7;replace hB1 := hB1.below hb7;refine SQ (ze rfl) ?_;refine zd ?_;refine zb ?_;refine zg ?_;refine zg ?_;refine za ?_;refine SQ (ze rfl) ?_;refine zd ?_;refine zb ?_;refine zL ?_;refine qo (α := Nat × Value) (fun x => [(4, .int .i64 (x.1 : Nat)), (3, x.2), (1, .pointer (some ⟨b1, 0, none⟩))]) (fun x w' => x.1 ≤ C.ops.length ∧ Below w.heap.size w w' ∧ OS w' x.2 4 1 encB (truthsR (C.ops.take x.1)) w.heap.size ∧ Blk w' b1 [uC, uO, uR] 26 ∧ (SL w' uC 3 encC C.ch ∧ SL w' uO 5 encO C.ops ∧ SL w' uR 1 encI C.roots) ∧ (∀ k, x.2.ownBlock = some k → ¬ k = b1)) (fun x => C.ops.length - x.1) ((0, v7)) (by repeat (first | exact Sub.nil | refine Sub.cons rfl ?_)) ⟨Nat.zero_le _, hb0, hO7.le (by omega), hB1, ⟨hu1, hu2, hu3⟩, (fun k e => by have := hO7.lt e; omega)⟩ ?_;clear hb0;clear hu1;clear hu2;clear hu3;clear hB1;clear hO7;rintro x wl0 ⟨hxi, hbw, hW, hB1, ⟨hu1, hu2, hu3⟩, hnb⟩;have hb0 := Below.refl wl0.heap.size wl0;refine zg ?_;refine zg ?_;refine za ?_;refine SQ (zf rfl) ?_;refine SQ (zh z1 rfl) ?_;refine SQ (zi (hB1) isAgg23 rfl rfl) ?_
 first | refine SQ (zr (hu1) zU23 rfl) ?_ | refine SQ (zr (hu2) zU23 rfl) ?_ | refine SQ (zr (hu3) zU23 rfl) ?_ | refine SQ (zr (hW.sl) zU23 rfl) ?_
 refine SQ (qi rfl rfl) (zd (zb ?_));refine zw rfl ?_ ?_
 ·intro g12
  try simp only [dd] at g12
  refine zH (zb (zg (zL (zg (za (SQ (zh z1 rfl) (SQ (zi (hB1) isAgg23 rfl rfl) (SQ (zf rfl) ?_))))))))
  first | refine zy (hu1) zU23 sizeOf76 rfl rfl ?_ ?_ rfl ?_ | refine zy (hu2) zU23 sizeOf76 rfl rfl ?_ ?_ rfl ?_ | refine zy (hu3) zU23 sizeOf76 rfl rfl ?_ ?_ rfl ?_ | refine zy (hW.sl) zU23 sizeOf76 rfl rfl ?_ ?_ rfl ?_
  ·first | omega | (have h9 := hix _ _ hx18; have e9 := z5 (C.ops.take x.1); rw [List.length_take] at e9; omega)
  ·first | omega | (have h9 := hix _ _ hx18; have e9 := z5 (C.ops.take x.1); rw [List.length_take] at e9; omega)
  intro x18 hx18 hc18;refine SQ (qg isAgg76 sizeOf76 rfl ((hc18)) rfl) (zM zeroValue76 rfl rfl ?_);intro w5 b5 e5 hb5 hz5 hB5
  have hle5 : wl0.heap.size ≤ b5 := by have := hb0.size; omega
  have ne_b1_5 : ¬ b1 = b5 := by have := hB1.lt; omega
  have ne_hu1_b5 := hu1.fresh (b := b5) (by omega);have ne_hu2_b5 := hu2.fresh (b := b5) (by omega);have ne_hu3_b5 := hu3.fresh (b := b5) (by omega)
  have ne_hW_b5 : ∀ k, Value.ownBlock x.2 = some k → ¬ k = b5 := fun k e => by have := hW.lt e; omega
  replace hb0 := btr hb0 hb5;replace hB1 := hB1.below hb5;replace hu1 := hu1.below hb5;replace hu2 := hu2.below hb5;replace hu3 := hu3.below hb5;replace hW := hW.below hb5;refine zm (hB5) rfl rfl rfl rfl sizeOf76 rfl rfl ?_;intro ws5x6 hchs5x6 hBs5x6;replace hb0 := bchg hb0 hchs5x6 hle5;replace hB1 := hB1.chg hchs5x6 ne_b1_5;replace hu1 := hu1.chg hchs5x6 ne_hu1_b5;replace hu2 := hu2.chg hchs5x6 ne_hu2_b5;replace hu3 := hu3.chg hchs5x6 ne_hu3_b5;replace hW := hW.chg hchs5x6 (fun k e e2 => by first | exact ne_hW_b5 k e e2 | (have := hW.lt e; have := ne_hW_b5; omega));clear hc18;clear hB5;refine SQ (ze rfl) ?_;refine zd ?_;refine zb ?_;refine zg ?_;refine zg ?_;refine za ?_;refine SQ (zh qc rfl) ?_;refine SQ (zi (hBs5x6) isAgg5 rfl rfl) ?_;refine zd ?_;refine zb ?_;refine zL ?_;refine zg ?_;refine zg ?_;refine za ?_;refine SQ (zO rfl rfl) ?_;refine SQ (ze rfl) ?_;refine zd ?_;refine zb ?_;refine W_or (r := ?rc22n1) rfl ?_ ?_; rotate_left
  ·intro g22 K22
   try simp only [dd] at g22
   refine zg ?_;refine za ?_;refine SQ (zO rfl rfl) ?_;refine SQ (ze rfl) ?_;refine zd ?_;refine zb ?_;refine W_or (r := ?rc22n2) rfl ?_ ?_; rotate_left
   ·intro g22i K22i
    try simp only [dd] at g22i
    refine zg ?_;refine za ?_;refine SQ (zO rfl rfl) ?_;refine SQ (ze rfl) ?_;refine zd ?_;refine zb ?_;refine W_or (r := ?rc22n3) rfl ?_ ?_; rotate_left
    ·intro g22ii K22ii
     try simp only [dd] at g22ii
     refine zg ?_;refine za ?_;refine SQ (zO rfl rfl) ?_;refine SQ (ze rfl) ?_;refine zd ?_;refine zb ?_;refine W_or (r := ?rc22n4) rfl ?_ ?_; rotate_left
     ·intro g22iii K22iii
      try simp only [dd] at g22iii
      refine za (SQ (zO rfl rfl) (SQ (ze rfl) (zd ?_)));exact K22iii _ (by repeat (first | exact Sub.refl | refine Sub.shadow ?_ | refine Sub.same ?_ | refine Sub.push rfl ?_))
     exact K22ii _ (by repeat (first | exact Sub.refl | refine Sub.shadow ?_ | refine Sub.same ?_ | refine Sub.push rfl ?_))
    exact K22i _ (by repeat (first | exact Sub.refl | refine Sub.shadow ?_ | refine Sub.same ?_ | refine Sub.push rfl ?_))
   exact K22 _ (by repeat (first | exact Sub.refl | refine Sub.shadow ?_ | refine Sub.same ?_ | refine Sub.push rfl ?_))
  refine zb ?_;refine zw rfl ?_ ?_
  ·intro g22
   try simp only [dd] at g22
   refine za (SQ (ze rfl) (zd (zQ (zb (za (SQ (zf rfl) (SQ (zf rfl) (z2 (enc := encB) (val := (fun b : Bool => Value.bool b)) (os := [.tmp 61]) rfl rfl (MV.cons MV.nil) (fun _ => rfl) (fun _ => rfl) zU54 sizeOf4 zeroValue4 rfl (by decide) (by decide) rfl ?_))))))));intro w62 v62 b62 e62 hb62 hz62 hob62 hO62
   have hle62 : wl0.heap.size ≤ b62 := by have := hb0.size; omega
   have lt_b1_62 : b1 < b62 := by have := hB1.lt; omega
   have lt_b5_62 : b5 < b62 := by have := hBs5x6.lt; omega
   replace hb0 := btr hb0 hb62;replace hB1 := hB1.below hb62;replace hu1 := hu1.below hb62;replace hu2 := hu2.below hb62;replace hu3 := hu3.below hb62;replace hW := hW.below hb62;refine qr (hW) (hO62.sl) underlying54 info4 rfl rfl rfl (fun _ _ => rfl) (by simp only [List.length_append, List.length_cons, List.length_nil]; rw [z5, List.length_take]; omega) (by simp only [List.length_append, List.length_cons, List.length_nil]; rw [z5, List.length_take]; omega) (by have := hbw.size; have := hb0.size; omega) rfl ?_;intro v63 w63 hO63 hch63 hsn63;have hbw2 := (btr hbw hb0).trans (hch63.below (btr hbw hb0).size (fun k hk e => by have := (hW.lt e).1; omega));have hb1l := hB1.lt;clear hb0;have hb0 := Below.refl w63.heap.size w63;replace hB1 := hB1.chg hch63 (fun e => hnb _ e rfl);replace hu1 := hu1.chg hch63 (fun hp e => by have := hW.lt e; have := hub1 hp; omega);replace hu2 := hu2.chg hch63 (fun hp e => by have := hW.lt e; have := hub2 hp; omega);replace hu3 := hu3.chg hch63 (fun hp e => by have := hW.lt e; have := hub3 hp; omega);clear hBs5x6;clear hO62;clear hW;refine SQ (ze rfl) ?_;refine zd ?_;refine zQ ?_;refine zb ?_;refine za ?_;refine SQ (zf rfl) ?_;refine SQ (qb rfl rfl (zS (by omega) (by omega))) ?_;refine SQ (ze rfl) ?_;refine zd ?_;refine qh ((x.1 + 1, v63)) (by repeat (first | exact Sub.nil | refine Sub.cons rfl ?_)) ⟨by dsimp only; omega, hbw2, by dsimp only; rw [show C.ops.take (x.1 + 1) = C.ops.take x.1 ++ [x18] from z4 hx18, jq]; exact (congrArg (fun b => OS w63 v63 4 1 encB (truthsR (C.ops.take x.1) ++ [b]) w.heap.size) (by unfold truthB; (repeat (first | rw [if_pos (by omega)] | rw [if_neg (by omega)])); first | done | rfl)).mp hO63, hB1, ⟨hu1, hu2, hu3⟩, (fun k e => (hsn63 k e).elim (fun e => hnb k e) (fun h => by omega))⟩ (by dsimp only; omega)
  ·intro g22
   try simp only [dd] at g22
   refine zg (za (SQ (zO rfl rfl) (SQ (ze rfl) (zd (zb ?_)))));refine zw rfl ?_ ?_
   ·intro g28
    try simp only [dd] at g28
    refine za ?_;refine SQ (zh jx rfl) ?_;refine SQ (zi (hBs5x6) isAgg3 rfl rfl) ?_;refine SQ (zO rfl rfl) ?_;refine SQ (zf rfl) ?_;refine qC (r := ?r33n5) 4 37 33 rfl ?_ ?_ ?_; rotate_left
    ·intro g33 K33
     have g33' := g33; try simp only [dd] at g33'
     have hm33 := Below.refl (ws5x6).heap.size ws5x6;refine zv 33 rfl rfl g33 (SQ (zh jx rfl) (zv 33 rfl rfl g33 (SQ (zi (hBs5x6) isAgg3 rfl rfl) (zv 33 rfl rfl g33 (SQ (zO rfl rfl) (SQ (zA rfl (fun h => absurd (g33.symm.trans h) (by decide)) (fun _ => rfl)) ?_))))));exact K33 _ _ hm33 (by repeat (first | exact Sub.refl | refine Sub.shadow ?_ | refine Sub.same ?_ | refine Sub.push rfl ?_))
    ·intro g33 K33
     have g33' := g33; try simp only [dd] at g33'
     have hm33 := Below.refl (ws5x6).heap.size ws5x6;refine zB 33 rfl rfl g33 rfl (zB 33 rfl rfl g33 rfl (zB 33 rfl rfl g33 rfl (SQ (zA rfl (fun _ => rfl) (fun h => absurd (g33.symm.trans h) (by decide))) ?_)));exact K33 _ _ hm33 (by repeat (first | exact Sub.refl | refine Sub.shadow ?_ | refine Sub.same ?_ | refine Sub.push rfl ?_))
    intro wm33 hbm33;replace hb0 := btr hb0 hbm33;replace hB1 := hB1.below hbm33;replace hu1 := hu1.below hbm33;replace hu2 := hu2.below hbm33;replace hu3 := hu3.below hbm33;replace hW := hW.below hbm33;replace hBs5x6 := hBs5x6.below hbm33
    simp only [List.drop_succ_cons, List.drop_zero]
    refine SQ (ze rfl) (zd (zQ (zb (za (SQ (zf rfl) (SQ (zf rfl) (z2 (enc := encB) (val := (fun b : Bool => Value.bool b)) (os := [.tmp 61]) rfl rfl (MV.cons MV.nil) (fun _ => rfl) (fun _ => rfl) zU54 sizeOf4 zeroValue4 rfl (by decide) (by decide) rfl ?_)))))));intro w62 v62 b62 e62 hb62 hz62 hob62 hO62
    have hle62 : wl0.heap.size ≤ b62 := by have := hb0.size; omega
    have lt_b1_62 : b1 < b62 := by have := hB1.lt; omega
    have lt_b5_62 : b5 < b62 := by have := hBs5x6.lt; omega
    replace hb0 := btr hb0 hb62;replace hB1 := hB1.below hb62;replace hu1 := hu1.below hb62;replace hu2 := hu2.below hb62;replace hu3 := hu3.below hb62;replace hW := hW.below hb62;refine qr (hW) (hO62.sl) underlying54 info4 rfl rfl rfl (fun _ _ => rfl) (by simp only [List.length_append, List.length_cons, List.length_nil]; rw [z5, List.length_take]; omega) (by simp only [List.length_append, List.length_cons, List.length_nil]; rw [z5, List.length_take]; omega) (by have := hbw.size; have := hb0.size; omega) rfl ?_;intro v63 w63 hO63 hch63 hsn63;have hbw2 := (btr hbw hb0).trans (hch63.below (btr hbw hb0).size (fun k hk e => by have := (hW.lt e).1; omega));have hb1l := hB1.lt;clear hb0;have hb0 := Below.refl w63.heap.size w63;replace hB1 := hB1.chg hch63 (fun e => hnb _ e rfl);replace hu1 := hu1.chg hch63 (fun hp e => by have := hW.lt e; have := hub1 hp; omega);replace hu2 := hu2.chg hch63 (fun hp e => by have := hW.lt e; have := hub2 hp; omega);replace hu3 := hu3.chg hch63 (fun hp e => by have := hW.lt e; have := hub3 hp; omega);clear hBs5x6;clear hO62;clear hW;refine SQ (ze rfl) ?_;refine zd ?_;refine zQ ?_;refine zb ?_;refine za ?_;refine SQ (zf rfl) ?_;refine SQ (qb rfl rfl (zS (by omega) (by omega))) ?_;refine SQ (ze rfl) ?_;refine zd ?_;refine qh ((x.1 + 1, v63)) (by repeat (first | exact Sub.nil | refine Sub.cons rfl ?_)) ⟨by dsimp only; omega, hbw2, by dsimp only; rw [show C.ops.take (x.1 + 1) = C.ops.take x.1 ++ [x18] from z4 hx18, jq]; exact (congrArg (fun b => OS w63 v63 4 1 encB (truthsR (C.ops.take x.1) ++ [b]) w.heap.size) (by unfold truthB; (repeat (first | rw [if_pos (by omega)] | rw [if_neg (by omega)])); first | done | rfl)).mp hO63, hB1, ⟨hu1, hu2, hu3⟩, (fun k e => (hsn63 k e).elim (fun e => hnb k e) (fun h => by omega))⟩ (by dsimp only; omega)
   ·intro g28
    try simp only [dd] at g28
    refine zg ?_;refine zg ?_;refine za ?_;refine SQ (zO rfl rfl) ?_;refine SQ (ze rfl) ?_;refine zd ?_;refine zb ?_;refine W_or (r := ?rc38n6) rfl ?_ ?_; rotate_left
    ·intro g38 K38
     try simp only [dd] at g38
     refine za (SQ (zO rfl rfl) (SQ (ze rfl) (zd ?_)));exact K38 _ (by repeat (first | exact Sub.refl | refine Sub.shadow ?_ | refine Sub.same ?_ | refine Sub.push rfl ?_))
    refine zb ?_;refine zw rfl ?_ ?_
    ·intro g38
     try simp only [dd] at g38
     refine za (SQ (zf rfl) (SQ (zh qE rfl) (SQ (zi (hBs5x6) isAgg3 rfl rfl) ?_)))
     first | refine zy (hu1) zU54 sizeOf4 rfl rfl ?_ ?_ rfl ?_ | refine zy (hu2) zU54 sizeOf4 rfl rfl ?_ ?_ rfl ?_ | refine zy (hu3) zU54 sizeOf4 rfl rfl ?_ ?_ rfl ?_ | refine zy (hW.sl) zU54 sizeOf4 rfl rfl ?_ ?_ rfl ?_
     ·first | omega | (have h9 := hix _ _ hx18; have e9 := z5 (C.ops.take x.1); rw [List.length_take] at e9; omega)
     ·first | omega | (have h9 := hix _ _ hx18; have e9 := z5 (C.ops.take x.1); rw [List.length_take] at e9; omega)
     intro x44 hx44 hc44;have ex44 := Option.some.inj ((qU (l := truthsR (C.ops.take x.1)) (i := x18.b) (by (have h9 := hix _ _ hx18; have e9 := z5 (C.ops.take x.1); rw [List.length_take] at e9; omega)) (by (have h9 := hix _ _ hx18; have e9 := z5 (C.ops.take x.1); rw [List.length_take] at e9; omega))).symm.trans hx44); subst ex44;refine SQ (qd isAgg4 rfl ((hc44).cell 0 rfl)) ?_;refine SQ (ze rfl) ?_;refine zd ?_;refine zQ ?_;refine zb ?_;refine za ?_;refine SQ (zf rfl) ?_;refine SQ (zf rfl) ?_;refine z2 (enc := encB) (val := (fun b : Bool => Value.bool b)) (os := [.tmp 61]) rfl rfl (MV.cons MV.nil) (fun _ => rfl) (fun _ => rfl) zU54 sizeOf4 zeroValue4 rfl (by decide) (by decide) rfl ?_;intro w62 v62 b62 e62 hb62 hz62 hob62 hO62
     have hle62 : wl0.heap.size ≤ b62 := by have := hb0.size; omega
     have lt_b1_62 : b1 < b62 := by have := hB1.lt; omega
     have lt_b5_62 : b5 < b62 := by have := hBs5x6.lt; omega
     replace hb0 := btr hb0 hb62;replace hB1 := hB1.below hb62;replace hu1 := hu1.below hb62;replace hu2 := hu2.below hb62;replace hu3 := hu3.below hb62;replace hW := hW.below hb62;refine qr (hW) (hO62.sl) underlying54 info4 rfl rfl rfl (fun _ _ => rfl) (by simp only [List.length_append, List.length_cons, List.length_nil]; rw [z5, List.length_take]; omega) (by simp only [List.length_append, List.length_cons, List.length_nil]; rw [z5, List.length_take]; omega) (by have := hbw.size; have := hb0.size; omega) rfl ?_;intro v63 w63 hO63 hch63 hsn63;have hbw2 := (btr hbw hb0).trans (hch63.below (btr hbw hb0).size (fun k hk e => by have := (hW.lt e).1; omega));have hb1l := hB1.lt;clear hb0;have hb0 := Below.refl w63.heap.size w63;replace hB1 := hB1.chg hch63 (fun e => hnb _ e rfl);replace hu1 := hu1.chg hch63 (fun hp e => by have := hW.lt e; have := hub1 hp; omega);replace hu2 := hu2.chg hch63 (fun hp e => by have := hW.lt e; have := hub2 hp; omega);replace hu3 := hu3.chg hch63 (fun hp e => by have := hW.lt e; have := hub3 hp; omega);clear hBs5x6;clear hc44;clear hO62;clear hW;refine SQ (ze rfl) ?_;refine zd ?_;refine zQ ?_;refine zb ?_;refine za ?_;refine SQ (zf rfl) ?_;refine SQ (qb rfl rfl (zS (by omega) (by omega))) ?_;refine SQ (ze rfl) ?_;refine zd ?_;refine qh ((x.1 + 1, v63)) (by repeat (first | exact Sub.nil | refine Sub.cons rfl ?_)) ⟨by dsimp only; omega, hbw2, by dsimp only; rw [show C.ops.take (x.1 + 1) = C.ops.take x.1 ++ [x18] from z4 hx18, jq]; exact (congrArg (fun b => OS w63 v63 4 1 encB (truthsR (C.ops.take x.1) ++ [b]) w.heap.size) (by unfold truthB; (repeat (first | rw [if_pos (by omega)] | rw [if_neg (by omega)])); first | done | rfl)).mp hO63, hB1, ⟨hu1, hu2, hu3⟩, (fun k e => (hsn63 k e).elim (fun e => hnb k e) (fun h => by omega))⟩ (by dsimp only; omega)
    ·intro g38
     try simp only [dd] at g38
     refine zg (za (SQ (zO rfl rfl) (SQ (ze rfl) (zd (zb ?_)))));refine zw rfl ?_ ?_
     ·intro g46
      try simp only [dd] at g46
      refine za (SQ (zf rfl) (SQ (zh qE rfl) (SQ (zi (hBs5x6) isAgg3 rfl rfl) ?_)))
      first | refine zy (hu1) zU54 sizeOf4 rfl rfl ?_ ?_ rfl ?_ | refine zy (hu2) zU54 sizeOf4 rfl rfl ?_ ?_ rfl ?_ | refine zy (hu3) zU54 sizeOf4 rfl rfl ?_ ?_ rfl ?_ | refine zy (hW.sl) zU54 sizeOf4 rfl rfl ?_ ?_ rfl ?_
      ·first | omega | (have h9 := hix _ _ hx18; have e9 := z5 (C.ops.take x.1); rw [List.length_take] at e9; omega)
      ·first | omega | (have h9 := hix _ _ hx18; have e9 := z5 (C.ops.take x.1); rw [List.length_take] at e9; omega)
      intro x51 hx51 hc51;have ex51 := Option.some.inj ((qU (l := truthsR (C.ops.take x.1)) (i := x18.b) (by (have h9 := hix _ _ hx18; have e9 := z5 (C.ops.take x.1); rw [List.length_take] at e9; omega)) (by (have h9 := hix _ _ hx18; have e9 := z5 (C.ops.take x.1); rw [List.length_take] at e9; omega))).symm.trans hx51); subst ex51;refine SQ (qd isAgg4 rfl ((hc51).cell 0 rfl)) ?_;refine SQ (zf rfl) ?_;refine qM (r := ?r53n7) 6 59 53 rfl ?_ ?_ ?_; rotate_left
      ·intro g53 K53
       have g53' := g53; try simp only [dd] at g53'
       have hm53 := Below.refl (ws5x6).heap.size ws5x6;refine zv 53 rfl rfl g53 (SQ (zf rfl) (zv 53 rfl rfl g53 (SQ (zh q5 rfl) (zv 53 rfl rfl g53 (SQ (zi (hBs5x6) isAgg3 rfl rfl) (zv 53 rfl rfl g53 ?_))))))
       first | refine zy (hu1) zU54 sizeOf4 rfl rfl ?_ ?_ rfl ?_ | refine zy (hu2) zU54 sizeOf4 rfl rfl ?_ ?_ rfl ?_ | refine zy (hu3) zU54 sizeOf4 rfl rfl ?_ ?_ rfl ?_ | refine zy (hW.sl) zU54 sizeOf4 rfl rfl ?_ ?_ rfl ?_
       ·first | omega | (have h9 := hix _ _ hx18; have e9 := z5 (C.ops.take x.1); rw [List.length_take] at e9; omega)
       ·first | omega | (have h9 := hix _ _ hx18; have e9 := z5 (C.ops.take x.1); rw [List.length_take] at e9; omega)
       intro x57 hx57 hc57;have ex57 := Option.some.inj ((qU (l := truthsR (C.ops.take x.1)) (i := x18.c) (by (have h9 := hix _ _ hx18; have e9 := z5 (C.ops.take x.1); rw [List.length_take] at e9; omega)) (by (have h9 := hix _ _ hx18; have e9 := z5 (C.ops.take x.1); rw [List.length_take] at e9; omega))).symm.trans hx57); subst ex57;refine zv 53 rfl rfl g53 ?_;refine SQ (qd isAgg4 rfl ((hc57).cell 0 rfl)) ?_;refine SQ (zA rfl (fun _ => rfl) (fun h => absurd (g53.symm.trans h) (by decide))) ?_;exact K53 _ _ hm53 (by repeat (first | exact Sub.refl | refine Sub.shadow ?_ | refine Sub.same ?_ | refine Sub.push rfl ?_))
      ·intro g53 K53
       have g53' := g53; try simp only [dd] at g53'
       have hm53 := Below.refl (ws5x6).heap.size ws5x6;refine zB 53 rfl rfl g53 rfl (zB 53 rfl rfl g53 rfl (zB 53 rfl rfl g53 rfl (zB 53 rfl rfl g53 rfl (zB 53 rfl rfl g53 rfl (SQ (zA rfl (fun h => absurd (g53.symm.trans h) (by decide)) (fun _ => rfl)) ?_)))));exact K53 _ _ hm53 (by repeat (first | exact Sub.refl | refine Sub.shadow ?_ | refine Sub.same ?_ | refine Sub.push rfl ?_))
      intro wm53 hbm53;replace hb0 := btr hb0 hbm53;replace hB1 := hB1.below hbm53;replace hu1 := hu1.below hbm53;replace hu2 := hu2.below hbm53;replace hu3 := hu3.below hbm53;replace hW := hW.below hbm53;replace hBs5x6 := hBs5x6.below hbm53
      simp only [List.drop_succ_cons, List.drop_zero]
      refine SQ (ze rfl) (zd (zQ (zb (za (SQ (zf rfl) (SQ (zf rfl) (z2 (enc := encB) (val := (fun b : Bool => Value.bool b)) (os := [.tmp 61]) rfl rfl (MV.cons MV.nil) (fun _ => rfl) (fun _ => rfl) zU54 sizeOf4 zeroValue4 rfl (by decide) (by decide) rfl ?_)))))));intro w62 v62 b62 e62 hb62 hz62 hob62 hO62
      have hle62 : wl0.heap.size ≤ b62 := by have := hb0.size; omega
      have lt_b1_62 : b1 < b62 := by have := hB1.lt; omega
      have lt_b5_62 : b5 < b62 := by have := hBs5x6.lt; omega
      replace hb0 := btr hb0 hb62;replace hB1 := hB1.below hb62;replace hu1 := hu1.below hb62;replace hu2 := hu2.below hb62;replace hu3 := hu3.below hb62;replace hW := hW.below hb62;refine qr (hW) (hO62.sl) underlying54 info4 rfl rfl rfl (fun _ _ => rfl) (by simp only [List.length_append, List.length_cons, List.length_nil]; rw [z5, List.length_take]; omega) (by simp only [List.length_append, List.length_cons, List.length_nil]; rw [z5, List.length_take]; omega) (by have := hbw.size; have := hb0.size; omega) rfl ?_;intro v63 w63 hO63 hch63 hsn63;have hbw2 := (btr hbw hb0).trans (hch63.below (btr hbw hb0).size (fun k hk e => by have := (hW.lt e).1; omega));have hb1l := hB1.lt;clear hb0;have hb0 := Below.refl w63.heap.size w63;replace hB1 := hB1.chg hch63 (fun e => hnb _ e rfl);replace hu1 := hu1.chg hch63 (fun hp e => by have := hW.lt e; have := hub1 hp; omega);replace hu2 := hu2.chg hch63 (fun hp e => by have := hW.lt e; have := hub2 hp; omega);replace hu3 := hu3.chg hch63 (fun hp e => by have := hW.lt e; have := hub3 hp; omega);clear hBs5x6;clear hc51;clear hO62;clear hW;refine SQ (ze rfl) ?_;refine zd ?_;refine zQ ?_;refine zb ?_;refine za ?_;refine SQ (zf rfl) ?_;refine SQ (qb rfl rfl (zS (by omega) (by omega))) ?_;refine SQ (ze rfl) ?_;refine zd ?_;refine qh ((x.1 + 1, v63)) (by repeat (first | exact Sub.nil | refine Sub.cons rfl ?_)) ⟨by dsimp only; omega, hbw2, by dsimp only; rw [show C.ops.take (x.1 + 1) = C.ops.take x.1 ++ [x18] from z4 hx18, jq]; exact (congrArg (fun b => OS w63 v63 4 1 encB (truthsR (C.ops.take x.1) ++ [b]) w.heap.size) (by unfold truthB; (repeat (first | rw [if_pos (by omega)] | rw [if_neg (by omega)])); first | done | rfl)).mp hO63, hB1, ⟨hu1, hu2, hu3⟩, (fun k e => (hsn63 k e).elim (fun e => hnb k e) (fun h => by omega))⟩ (by dsimp only; omega)
     ·intro g46
      try simp only [dd] at g46
      refine zH (zQ (zb (za (SQ (zf rfl) (SQ (zf rfl) (z2 (enc := encB) (val := (fun b : Bool => Value.bool b)) (os := [.tmp 61]) rfl rfl (MV.cons MV.nil) (fun _ => rfl) (fun _ => rfl) zU54 sizeOf4 zeroValue4 rfl (by decide) (by decide) rfl ?_))))));intro w62 v62 b62 e62 hb62 hz62 hob62 hO62
      have hle62 : wl0.heap.size ≤ b62 := by have := hb0.size; omega
      have lt_b1_62 : b1 < b62 := by have := hB1.lt; omega
      have lt_b5_62 : b5 < b62 := by have := hBs5x6.lt; omega
      replace hb0 := btr hb0 hb62;replace hB1 := hB1.below hb62;replace hu1 := hu1.below hb62;replace hu2 := hu2.below hb62;replace hu3 := hu3.below hb62;replace hW := hW.below hb62;refine qr (hW) (hO62.sl) underlying54 info4 rfl rfl rfl (fun _ _ => rfl) (by simp only [List.length_append, List.length_cons, List.length_nil]; rw [z5, List.length_take]; omega) (by simp only [List.length_append, List.length_cons, List.length_nil]; rw [z5, List.length_take]; omega) (by have := hbw.size; have := hb0.size; omega) rfl ?_;intro v63 w63 hO63 hch63 hsn63;have hbw2 := (btr hbw hb0).trans (hch63.below (btr hbw hb0).size (fun k hk e => by have := (hW.lt e).1; omega));have hb1l := hB1.lt;clear hb0;have hb0 := Below.refl w63.heap.size w63;replace hB1 := hB1.chg hch63 (fun e => hnb _ e rfl);replace hu1 := hu1.chg hch63 (fun hp e => by have := hW.lt e; have := hub1 hp; omega);replace hu2 := hu2.chg hch63 (fun hp e => by have := hW.lt e; have := hub2 hp; omega);replace hu3 := hu3.chg hch63 (fun hp e => by have := hW.lt e; have := hub3 hp; omega);clear hBs5x6;clear hO62;clear hW;refine SQ (ze rfl) ?_;refine zd ?_;refine zQ ?_;refine zb ?_;refine za ?_;refine SQ (zf rfl) ?_;refine SQ (qb rfl rfl (zS (by omega) (by omega))) ?_;refine SQ (ze rfl) ?_;refine zd ?_;refine qh ((x.1 + 1, v63)) (by repeat (first | exact Sub.nil | refine Sub.cons rfl ?_)) ⟨by dsimp only; omega, hbw2, by dsimp only; rw [show C.ops.take (x.1 + 1) = C.ops.take x.1 ++ [x18] from z4 hx18, jq]; exact (congrArg (fun b => OS w63 v63 4 1 encB (truthsR (C.ops.take x.1) ++ [b]) w.heap.size) (by unfold truthB; (repeat (first | rw [if_pos (by omega)] | rw [if_neg (by omega)])); first | done | rfl)).mp hO63, hB1, ⟨hu1, hu2, hu3⟩, (fun k e => (hsn63 k e).elim (fun e => hnb k e) (fun h => by omega))⟩ (by dsimp only; omega)
 ·intro g12
  try simp only [dd] at g12
  refine qk ?_;refine z0 ?_;refine z9 ?_;refine zX ?_;refine zb ?_;refine zg ?_;refine za ?_;refine SQ (zf rfl) ?_;refine SQ (ze rfl) ?_;refine zd ?_;refine zb ?_;refine zu ?_;refine zP rfl rfl rfl ?_;exact ⟨_, rfl, btr hbw hb0, by rw [show x.1 = C.ops.length by omega, List.take_length] at hW; exact hW⟩
end Go.Proofs.YtphmoebiobjfhaaGreat
