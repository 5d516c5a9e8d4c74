/- Walks of functions, printed by a program of the author. -/
import Derived.Test.YtphmoebiobjfhaaGreatT21
set_option linter.all false
namespace Go.Proofs.YtphmoebiobjfhaaGreat
open Go Go.Mi Go.RowKit Tryz Go.Proofs.Tryz
set_option maxHeartbeats 1000000 in
theorem f62_s {C : Co} {f : Nat} (hck : checkR C = 0) (ih : SearchP prog 62 C f) : SearchP prog 62 C (f + 1) := by
 intro i found uC uO uR vF w lo T hT hi0 hif hfn hu hlo hlw hF hpx;subst hT;obtain ⟨hu1, hu2, hu3⟩ := hu;have hb0 := Below.refl w.heap.size w
 obtain ⟨y, hy⟩ : ∃ y, getO C.ops i = y := ⟨_, rfl⟩
 have hin : i < C.ops.length := by omega
 have hyi := zV hi0 hin;rw [hy] at hyi;have hbd := opsOf_bd hck hi0 hin;rw [hy] at hbd;have hyc := (qy (jD hck hi0 hin)).1;rw [hy] at hyc;have hfl := nodup_le (jA hck).1 (jA hck).2
 have hvl := (List.IsPrefix.length_le hpx)
 have hC3 := (qm hck).1
 have hol : (opsOf y).length ≤ 3 := by rw [jN]; exact q7 _
 have hFl : ∀ k, vF.ownBlock = some k → lo ≤ k ∧ k < w.heap.size := fun k e => hF.lt e
 have hfle := List.IsPrefix.length_le (j6 C.ops (f + 1) found i);refine zE func62 rfl ntmps62 rfl ?_;refine zg (za (qe rfl rfl rfl ?_));intro w3 b3 e3 hb3 hz3 hB3
 have hle3 : w.heap.size ≤ b3 := by have := hb0.size; omega
 replace hb0 := btr hb0 hb3;replace hu1 := hu1.below hb3;replace hu2 := hu2.below hb3;replace hu3 := hu3.below hb3;replace hF := hF.below hb3;refine SQ (ze rfl) (zd (zb (zg (zg (za (SQ (ze rfl) (zd (zb (zL ?_)))))))));refine qo (α := Nat) (fun x => [(7, .int .i64 (x : Nat)), (1, .int .i64 i), (2, vF), (3, .pointer (some ⟨b3, 0, none⟩))]) (fun x w' => x ≤ found.length ∧ (∀ j : Nat, j < x → found[j]? ≠ some i) ∧ Below w.heap.size w w' ∧ OS w' vF 3 1 encI found lo ∧ Blk w' b3 [uC, uO, uR] 26 ∧ (SL w' uC 3 encC C.ch ∧ SL w' uO 5 encO C.ops ∧ SL w' uR 1 encI C.roots)) (fun x => found.length - x) (0) (by repeat (first | exact Sub.nil | refine Sub.cons rfl ?_)) ⟨Nat.zero_le _, (fun j h => by omega), hb0, hF, hB3, hu1, hu2, hu3⟩ ?_;clear hb0;clear hu1;clear hu2;clear hu3;clear hF;clear hB3;rintro x wl0 ⟨hxi, hno, hbw, hF, hB3, hu1, hu2, hu3⟩;have hb0 := Below.refl wl0.heap.size wl0;refine zg (zg (za (SQ (zf rfl) (SQ (zf rfl) ?_))))
 first | refine SQ (zr (hu1) zU24 rfl) ?_ | refine SQ (zr (hu2) zU24 rfl) ?_ | refine SQ (zr (hu3) zU24 rfl) ?_ | refine SQ (zr (hF.sl) zU24 rfl) ?_
 refine SQ (qi rfl rfl) (zd (zb ?_));refine zw rfl ?_ ?_
 ·intro g13
  try simp only [dd] at g13
  refine zH (zb (zg (zL (zg (za (SQ (zf rfl) (SQ (zf rfl) ?_)))))))
  first | refine zy (hu1) zU24 sizeOf3 rfl rfl ?_ ?_ rfl ?_ | refine zy (hu2) zU24 sizeOf3 rfl rfl ?_ ?_ rfl ?_ | refine zy (hu3) zU24 sizeOf3 rfl rfl ?_ ?_ rfl ?_ | refine zy (hF.sl) zU24 sizeOf3 rfl rfl ?_ ?_ rfl ?_
  ·omega
  ·omega
  intro x18 hx18 hc18;refine SQ (qd isAgg3 rfl ((hc18).cell 0 rfl)) (SQ (zf rfl) (SQ (zO rfl rfl) (zd (zb ?_))));refine zw rfl ?_ ?_
  ·intro g21
   try simp only [dd] at g21
   refine zg (za (SQ (zf rfl) (SQ (ze rfl) (zd (zb (zu (zt (zl (qn ?_)))))))));refine zt (zl (zP rfl rfl rfl ?_))
   have hm : i ∈ found := by rw [← g21]; exact List.mem_of_getElem? hx18
   exact ⟨vF, rfl, by rw [visitF_old hm]; exact hF, Chg.of_below _ (btr hbw hb0), fun k e => .inl e⟩
  ·intro g21
   try simp only [dd] at g21
   refine zH ?_;refine zQ ?_;refine zb ?_;refine za ?_;refine SQ (zf rfl) ?_;refine SQ (qb rfl rfl (zS (by omega) (by omega))) ?_;refine SQ (ze rfl) ?_;refine zd ?_;refine qh (x + 1) (by repeat (first | exact Sub.nil | refine Sub.cons rfl ?_)) ⟨by omega, (fun j hj => by rcases Nat.lt_succ_iff_lt_or_eq.1 hj with h | rfl; exact hno j h; (intro e; have e2 := Option.some.inj (e.symm.trans hx18); exact g21 e2.symm)), btr hbw hb0, hF, hB3, hu1, hu2, hu3⟩ (by omega)
 ·intro g13
  try simp only [dd] at g13
  have hnf : ¬ i ∈ found := fun h => by obtain ⟨j, hj⟩ := List.getElem?_of_mem h; exact hno j (by have := (List.getElem?_eq_some_iff.1 hj).1; omega) hj
  refine qk (z0 (z9 ?_));refine zX (zb (zg (za (SQ (zh z1 rfl) (SQ (zi (hB3) isAgg23 rfl rfl) (SQ (zf rfl) ?_))))))
  first | refine zy (hu1) zU23 sizeOf76 rfl rfl ?_ ?_ rfl ?_ | refine zy (hu2) zU23 sizeOf76 rfl rfl ?_ ?_ rfl ?_ | refine zy (hu3) zU23 sizeOf76 rfl rfl ?_ ?_ rfl ?_ | refine zy (hF.sl) zU23 sizeOf76 rfl rfl ?_ ?_ rfl ?_
  ·omega
  ·omega
  intro x26 hx26 hc26;have ex26 := Option.some.inj ((hyi).symm.trans hx26); subst ex26;refine SQ (qg isAgg76 sizeOf76 rfl ((hc26)) rfl) ?_;refine qf rfl call46 rfl (f46_c y _ hyc.1 hyc.2.1) ?_;rintro v28 w28 hb28 ⟨hL, hLb⟩;replace hb0 := btr hb0 hb28;replace hF := hF.below hb28;replace hB3 := hB3.below hb28;replace hu1 := hu1.below hb28;replace hu2 := hu2.below hb28;replace hu3 := hu3.below hb28;have hLl := hL.lt;have hw28z := (btr hbw hb0).size;refine SQ (ze rfl) ?_;refine zd ?_;refine zb ?_;refine zg ?_;refine zg ?_;refine za ?_;refine SQ (ze rfl) ?_;refine zd ?_;refine zb ?_;refine zL ?_;refine qo (α := Nat × Value) (fun x => [(9, .int .i64 (x.1 : Nat)), (8, v28), (2, x.2), (1, .int .i64 i), (3, .pointer (some ⟨b3, 0, none⟩))]) (fun x w' => x.1 ≤ (opsOf y).length ∧ OS w' x.2 3 1 encI (((opsOf y).take x.1).foldl (visitF C.ops f) found) lo ∧ SL w' v28 1 encI (opsOf y) ∧ Blk w' b3 [uC, uO, uR] 26 ∧ (SL w' uC 3 encC C.ch ∧ SL w' uO 5 encO C.ops ∧ SL w' uR 1 encI C.roots) ∧ Chg (fun b => vF.ownBlock = some b) w w' ∧ SameOrNew w vF x.2 ∧ (∀ k, x.2.ownBlock = some k → (0 < (opsOf y).length → k ≠ sb v28) ∧ k ≠ b3) ∧ w28.heap.size ≤ w'.heap.size) (fun x => (opsOf y).length - x.1) ((0, vF)) (by repeat (first | exact Sub.nil | refine Sub.cons rfl ?_)) ⟨Nat.zero_le _, hF, hL, hB3, ⟨hu1, hu2, hu3⟩, Chg.of_below _ (btr hbw hb0), fun k e => .inl e, (fun k e => ⟨fun hp e2 => by have := hLb hp; have := hFl k e; have := hbw.size; omega, fun e2 => by have := hFl k e; omega⟩), Nat.le_refl _⟩ ?_;clear hb0;clear hF;clear hB3;clear hu1;clear hu2;clear hu3;clear hc26;clear hL;rintro x wl1 ⟨hxi, hW, hL, hB3, ⟨hu1, hu2, hu3⟩, hcf, hsf, hnl, hzz⟩;have hb0 := Below.refl wl1.heap.size wl1;have hLl := hL.lt;refine zg ?_;refine zg ?_;refine za ?_;refine SQ (zf rfl) ?_;refine SQ (zf rfl) ?_
  first | refine SQ (zr (hL) zU24 rfl) ?_ | refine SQ (zr (hu1) zU24 rfl) ?_ | refine SQ (zr (hu2) zU24 rfl) ?_ | refine SQ (zr (hu3) zU24 rfl) ?_ | refine SQ (zr (hW.sl) zU24 rfl) ?_
  refine SQ (qi rfl rfl) (zd (zb ?_));refine zw rfl ?_ ?_
  ·intro g32
   try simp only [dd] at g32
   have hxl : x.1 < (opsOf y).length := by omega
   obtain ⟨m, hm⟩ : ∃ m, (opsOf y)[x.1]? = some m := ⟨_, List.getElem?_eq_getElem hxl⟩
   refine zH ?_;refine zb ?_;refine zg ?_;refine zL ?_;refine jh 6 [[], [], [], [1, 2], [3], []] [det [] ?a10_0n1, det [] ?a10_1n1, det [] ?a10_2n1, det [1, 2] ?a10_3n1, det [3] ?a10_4n1, det [] ?a10_5n1] mixed (by kernel_rfl) rfl ⟨zn _ _, zn _ _, zn _ _, zn _ _, zn _ _, zn _ _, trivial⟩ ?_ ?_; rotate_left 6
   ·refine zj ?_ ?_
    ·intro wq hbq
     refine zo ?_
     first | (refine zz (zC ((hB3).below hbq) isAgg26 sizeOf26 rfl rfl) ?_; first | exact rfl | rfl) | (refine zz (zD ((hB3).below hbq) isAgg26 sizeOf26 rfl rfl rfl) ?_; first | exact rfl | rfl)
    refine zj ?_ ?_
    ·intro wq hbq
     refine zo ?_
     refine zz (zf rfl) ?_; first | exact rfl | rfl
    refine zj ?_ ?_
    ·intro wq hbq
     refine zo ?_
     refine zz (zf rfl) ?_; first | exact rfl | rfl
    refine zj ?_ ?_
    ·intro wq hbq
     refine zx rfl rfl (zx rfl rfl (zo ?_))
     refine zz (qt (hL.below hbq) zU24 sizeOf3 rfl rfl (by omega) (by omega)) ?_; first | exact rfl | rfl
    refine zj ?_ ?_
    ·intro wq hbq
     refine zx rfl rfl (zo ?_)
     refine zz (qd isAgg3 rfl (((hL.cells (((x.1 : Nat) : Int)).toNat m hm).below hbq).cell 0 rfl)) ?_; first | exact rfl | rfl
    refine zj ?_ ?_
    ·intro wq hbq
     refine zo ?_
     refine zz (zf rfl) ?_; first | exact rfl | rfl
    exact qD
   ·intro wa10 hba10
    replace hb0 := btr hb0 hba10;replace hW := hW.below hba10;replace hL := hL.below hba10;replace hB3 := hB3.below hba10;replace hu1 := hu1.below hba10;replace hu2 := hu2.below hba10;replace hu3 := hu3.below hba10;refine zq rfl (zq rfl (zq rfl (zq rfl (zq rfl (zq rfl (qH ?_))))))
    simp only [List.drop_succ_cons, List.drop_zero]
    have hvb := hbd _ (List.mem_of_getElem? hm)
    have hfo : ((opsOf y).take (x.1 + 1)).foldl (visitF C.ops f) found = visitF C.ops f (((opsOf y).take x.1).foldl (visitF C.ops f) found) m := by rw [z4 hm, List.foldl_append]; rfl
    have hnx : ∀ k, x.2.ownBlock = some k → lo ≤ k := fun k e => (hW.lt e).1
    refine jU rfl call62 rfl (K := fun v w' => OS w' v 3 1 encI (((opsOf y).take (x.1 + 1)).foldl (visitF C.ops f) found) lo ∧ Chg (fun b => x.2.ownBlock = some b) wa10 w' ∧ SameOrNew wa10 x.2 v) ?_ ?_
    ·refine Calls.mono (ih m (((opsOf y).take x.1).foldl (visitF C.ops f) found) uC uO uR x.2 wa10 lo 3 rfl hvb.1 (by omega) (by omega) ⟨hu1, hu2, hu3⟩ hlo (by have := hb0.size; omega) hW (by rw [← hfo]; exact Za (by have h := Zb (j6 C.ops f) ((opsOf y).drop (x.1 + 1)) (((opsOf y).take (x.1 + 1)).foldl (visitF C.ops f) found); rwa [← List.foldl_append, List.take_append_drop] at h) (Za (List.prefix_append _ [i]) (by rw [jz hnf, hy] at hpx; exact hpx)))) ?_
     rintro e w' ⟨v', rfl, h1, h2, h3⟩; exact ⟨_, rfl, by rw [hfo]; exact h1, h2, h3⟩
    rintro v41 w41 ⟨hO41, hc41, hsn41⟩;replace hcf := (hcf.trans (Chg.of_below _ hb0)).then hc41 (fun k hk e => (hsf k e).elim id (fun h => absurd hk (by omega)));have hz41 := hc41.size; have hz410 := hb0.size
    replace hsf : SameOrNew w vF v41 := fun k e => (hsn41 k e).elim (fun e => hsf k e) (fun h => .inr (by omega))
    have hbz := hB3.lt;replace hL := hL.chg hc41 (fun hp e => (hnl _ e).1 hp rfl);replace hB3 := hB3.chg hc41 (fun e => (hnl _ e).2 rfl)
    have hnl' : ∀ k, v41.ownBlock = some k → (0 < (opsOf y).length → k ≠ sb v28) ∧ k ≠ b3 := fun k e => (hsn41 k e).elim (fun e => hnl k e) (fun h => ⟨fun hp e2 => by have := hLl hp; omega, fun e2 => by omega⟩)
    replace hu1 := hu1.chg hc41 (fun hp e => by have := hnx _ e; have := hlo.1 hp; omega);replace hu2 := hu2.chg hc41 (fun hp e => by have := hnx _ e; have := hlo.2.1 hp; omega);replace hu3 := hu3.chg hc41 (fun hp e => by have := hnx _ e; have := hlo.2.2 hp; omega);clear hW;clear hb0;have hb0 := Below.refl w41.heap.size w41;refine SQ (ze rfl) ?_;refine zd ?_;refine zQ ?_;refine zb ?_;refine za ?_;refine SQ (zf rfl) ?_;refine SQ (qb rfl rfl (zS (by omega) (by omega))) ?_;refine SQ (ze rfl) ?_;refine zd ?_;refine qh ((x.1 + 1, v41)) (by repeat (first | exact Sub.nil | refine Sub.cons rfl ?_)) ⟨by dsimp only; omega, hO41, hL, hB3, ⟨hu1, hu2, hu3⟩, hcf, hsf, hnl', by omega⟩ (by dsimp only; omega)
  ·intro g32
   try simp only [dd] at g32
   have hxe : (opsOf y).length ≤ x.1 := by omega
   rw [List.take_of_length_le hxe] at hW
   have hfl2 : ((opsOf y).foldl (visitF C.ops f) found).length + 1 ≤ 3000 := by have h := hvl; rw [jz hnf, hy, List.length_append] at h; simp at h; omega
   refine qk (z0 (z9 ?_));refine zX (zb (zg (za (SQ (zf rfl) (SQ (zf rfl) (z2 (enc := encI) (val := valI) (os := [.tmp 43]) rfl rfl (MV.cons (x := i) MV.nil) (fun _ => rfl) (fun _ => rfl) zU24 sizeOf3 zeroValue3 rfl (by decide) (by decide) rfl ?_))))));intro w44 v44 b44 e44 hb44 hz44 hob44 hO44
   have hle44 : wl1.heap.size ≤ b44 := by have := hb0.size; omega
   have lt_b3_44 : b3 < b44 := by have := hB3.lt; omega
   replace hb0 := btr hb0 hb44;replace hW := hW.below hb44;refine qr (hW) (hO44.sl) underlying24 info3 rfl rfl rfl (fun _ _ => rfl) (by simp only [List.length_append, List.length_cons, List.length_nil]; omega) (by simp only [List.length_append, List.length_cons, List.length_nil]; omega) (by have := hb0.size; omega) rfl ?_;intro v45 w45 hO45 hch45 hsn45;have q1 := hb0.size;have q2 := hch45.size;have hcf2 := (hcf.trans (Chg.of_below _ hb0)).then hch45 (fun k hk e => (hsf k e).elim id (fun h => absurd hk (by omega)))
   have hsf2 : SameOrNew w vF v45 := fun k e => (hsn45 k e).elim (fun e => hsf k e) (fun h => .inr (by omega))
   clear hb0;have hb0 := Below.refl w45.heap.size w45;clear hL;clear hB3;clear hu1;clear hu2;clear hu3;clear hO44;clear hW;refine SQ (ze rfl) ?_;refine zd ?_;refine zb ?_;refine zu ?_;refine zP rfl rfl rfl ?_;exact ⟨v45, rfl, by rw [jz hnf, hy]; exact hO45, hcf2, hsf2⟩
end Go.Proofs.YtphmoebiobjfhaaGreat
