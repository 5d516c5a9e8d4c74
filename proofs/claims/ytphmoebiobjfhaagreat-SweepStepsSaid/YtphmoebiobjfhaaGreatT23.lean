/- Walks of functions, printed by a program of the author. -/
import Derived.Test.YtphmoebiobjfhaaGreatT22
set_option linter.all false
namespace Go.Proofs.YtphmoebiobjfhaaGreat
open Go Go.Mi Go.RowKit Tryz Go.Proofs.Tryz
theorem f62_v {C : Co} (hck : checkR C = 0) : ∀ f, SearchP prog 62 C f
 | 0 => fun i found uC uO uR vF w lo T hT h0 h1 => by omega
 | f + 1 => f62_s hck (f62_v hck f)
set_option maxHeartbeats 1000000 in
theorem f45_c {v : Value} {C : Co} {w : World} (hC : CoS w v C) (hck : checkR C = 0) : Mi.Fn prog 45 #[v] w fun u w' => OS w' u 3 1 encI (foundR C) w.heap.size := by
 obtain ⟨uC, uO, uR, rfl, hu1, hu2, hu3⟩ := hC.ex
 have hlo : (0 < C.ch.length → sb uC < w.heap.size) ∧ (0 < C.ops.length → sb uO < w.heap.size) ∧ (0 < C.roots.length → sb uR < w.heap.size) := ⟨hu1.lt, hu2.lt, hu3.lt⟩
 obtain ⟨⟨hl1, hl2, hl3⟩, hroots, hops⟩ := qm hck;have hb0 := Below.refl w.heap.size w;refine zE func45 rfl ntmps45 rfl ?_;refine zg (za (qe rfl rfl rfl ?_));intro w1 b1 e1 hb1 hz1 hB1
 have hle1 : w.heap.size ≤ b1 := by have := hb0.size; omega
 replace hb0 := btr hb0 hb1;replace hu1 := hu1.below hb1;replace hu2 := hu2.below hb1;replace hu3 := hu3.below hb1;refine SQ (ze rfl) (zd (zb (zg (za (z2 (enc := encI) (val := valI) (os := []) rfl rfl MV.nil (fun _ => rfl) (fun _ => rfl) zU24 sizeOf3 zeroValue3 rfl (by decide) (by decide) rfl ?_)))));intro w5 v5 b5 e5 hb5 hz5 hob5 hO5
 have hle5 : w.heap.size ≤ b5 := by have := hb0.size; omega
 have lt_b1_5 : b1 < b5 := by have := hB1.lt; omega
 replace hb0 := btr hb0 hb5;replace hu1 := hu1.below hb5;replace hu2 := hu2.below hb5;replace hu3 := hu3.below hb5;replace hB1 := hB1.below hb5;refine SQ (ze rfl) ?_;refine zd ?_;refine zb ?_;refine zg ?_;refine zg ?_;refine za ?_;refine SQ (ze rfl) ?_;refine zd ?_;refine zb ?_;refine zL ?_;refine qo (α := Nat × Value) (fun x => [(4, .int .i64 (x.1 : Nat)), (3, x.2), (1, .pointer (some ⟨b1, 0, none⟩))]) (fun x w' => x.1 ≤ C.roots.length ∧ OS w' x.2 3 1 encI ((C.roots.take x.1).foldl (visitF C.ops C.ops.length) []) w.heap.size ∧ Blk w' b1 [uC, uO, uR] 26 ∧ (SL w' uC 3 encC C.ch ∧ SL w' uO 5 encO C.ops ∧ SL w' uR 1 encI C.roots) ∧ Below w.heap.size w w' ∧ (∀ k, x.2.ownBlock = some k → k ≠ b1)) (fun x => C.roots.length - x.1) ((0, v5)) (by repeat (first | exact Sub.nil | refine Sub.cons rfl ?_)) ⟨Nat.zero_le _, hO5.le (by omega), hB1, ⟨hu1, hu2, hu3⟩, hb0, fun k e e2 => by have := (hO5.lt e).1; omega⟩ ?_;clear hb0;clear hu1;clear hu2;clear hu3;clear hB1;clear hO5;rintro x wl0 ⟨hxi, hW, hB1, ⟨hu1, hu2, hu3⟩, hbw, hnl⟩;have hb0 := Below.refl wl0.heap.size wl0;refine zg ?_;refine zg ?_;refine za ?_;refine SQ (zf rfl) ?_;refine SQ (zh qI rfl) ?_;refine SQ (zi (hB1) isAgg24 rfl rfl) ?_
 first | refine SQ (zr (hu1) zU24 rfl) ?_ | refine SQ (zr (hu2) zU24 rfl) ?_ | refine SQ (zr (hu3) zU24 rfl) ?_ | refine SQ (zr (hW.sl) zU24 rfl) ?_
 refine SQ (qi rfl rfl) (zd (zb ?_));refine zw rfl ?_ ?_
 ·intro g10
  try simp only [dd] at g10
  have hxl : x.1 < C.roots.length := by omega
  obtain ⟨m, hm⟩ : ∃ m, C.roots[x.1]? = some m := ⟨_, List.getElem?_eq_getElem hxl⟩
  refine zH ?_;refine zb ?_;refine zg ?_;refine zL ?_;refine jh 7 [[], [], [1], [], [2, 3], [4], []] [det [] ?a5_0n1, det [] ?a5_1n1, det [1] ?a5_2n1, det [] ?a5_3n1, det [2, 3] ?a5_4n1, det [4] ?a5_5n1, det [] ?a5_6n1] mixed (by kernel_rfl) rfl ⟨zn _ _, zn _ _, zn _ _, zn _ _, zn _ _, zn _ _, zn _ _, trivial⟩ ?_ ?_; rotate_left 7
  ·refine zj ?_ ?_
   ·intro wq hbq
    refine zo ?_
    first | (refine zz (zC ((hB1).below hbq) isAgg26 sizeOf26 rfl rfl) ?_; first | exact rfl | rfl) | (refine zz (zD ((hB1).below hbq) isAgg26 sizeOf26 rfl rfl rfl) ?_; first | exact rfl | rfl)
   refine zj ?_ ?_
   ·intro wq hbq
    refine zo ?_
    refine zz (zh qI rfl) ?_; first | exact rfl | rfl
   refine zj ?_ ?_
   ·intro wq hbq
    refine zx rfl rfl (zo ?_)
    refine zz (zi ((hB1).below hbq) isAgg24 rfl rfl) ?_; first | exact rfl | rfl
   refine zj ?_ ?_
   ·intro wq hbq
    refine zo ?_
    refine zz (zf rfl) ?_; first | exact rfl | rfl
   refine zj ?_ ?_
   ·intro wq hbq
    refine zx rfl rfl (zx rfl rfl (zo ?_))
    refine zz (qt (hu3.below hbq) zU24 sizeOf3 rfl rfl (by omega) (by omega)) ?_; first | exact rfl | rfl
   refine zj ?_ ?_
   ·intro wq hbq
    refine zx rfl rfl (zo ?_)
    refine zz (qd isAgg3 rfl (((hu3.cells (((x.1 : Nat) : Int)).toNat m hm).below hbq).cell 0 rfl)) ?_; first | exact rfl | rfl
   refine zj ?_ ?_
   ·intro wq hbq
    refine zo ?_
    refine zz (zf rfl) ?_; first | exact rfl | rfl
   exact qD
  ·intro wa5 hba5
   replace hb0 := btr hb0 hba5;replace hW := hW.below hba5;replace hB1 := hB1.below hba5;replace hu1 := hu1.below hba5;replace hu2 := hu2.below hba5;replace hu3 := hu3.below hba5;refine zq rfl (zq rfl (zq rfl (zq rfl (zq rfl (zq rfl (zq rfl (qH ?_)))))))
   simp only [List.drop_succ_cons, List.drop_zero]
   have hrm := hroots m (List.mem_of_getElem? hm)
   have hfo : (C.roots.take (x.1 + 1)).foldl (visitF C.ops C.ops.length) [] = visitF C.ops C.ops.length ((C.roots.take x.1).foldl (visitF C.ops C.ops.length) []) m := by rw [z4 hm, List.foldl_append]; rfl
   have hnx : ∀ k, x.2.ownBlock = some k → w.heap.size ≤ k := fun k e => (hW.lt e).1
   have hbz := hB1.lt;refine jU rfl call62 rfl (K := fun v w' => OS w' v 3 1 encI ((C.roots.take (x.1 + 1)).foldl (visitF C.ops C.ops.length) []) w.heap.size ∧ Chg (fun b => x.2.ownBlock = some b) wa5 w' ∧ SameOrNew wa5 x.2 v) ?_ ?_
   ·refine Calls.mono (f62_v hck C.ops.length m ((C.roots.take x.1).foldl (visitF C.ops C.ops.length) []) uC uO uR x.2 wa5 w.heap.size 3 rfl hrm.1 hrm.2 (Nat.le_refl _) ⟨hu1, hu2, hu3⟩ hlo (by have := (btr hbw hb0).size; omega) hW (by rw [← hfo, foundR]; have h := Zb (j6 C.ops C.ops.length) (C.roots.drop (x.1 + 1)) ((C.roots.take (x.1 + 1)).foldl (visitF C.ops C.ops.length) []); rwa [← List.foldl_append, List.take_append_drop] at h)) ?_
    rintro e w' ⟨v', rfl, h1, h2, h3⟩; exact ⟨_, rfl, by rw [hfo]; exact h1, h2, h3⟩
   rintro v20 w20 ⟨hO20, hc20, hsn20⟩;replace hbw := (btr hbw hb0).trans (hc20.below (btr hbw hb0).size (fun k hk e => by have := hnx k e; omega))
   have hnl' : ∀ k, v20.ownBlock = some k → k ≠ b1 := fun k e => (hsn20 k e).elim (fun e => hnl k e) (fun h e2 => by omega)
   replace hB1 := hB1.chg hc20 (fun e => hnl _ e rfl);replace hu1 := hu1.chg hc20 (fun hp e => by have := hnx _ e; have := hlo.1 hp; omega);replace hu2 := hu2.chg hc20 (fun hp e => by have := hnx _ e; have := hlo.2.1 hp; omega);replace hu3 := hu3.chg hc20 (fun hp e => by have := hnx _ e; have := hlo.2.2 hp; omega);clear hW;clear hb0;have hb0 := Below.refl w20.heap.size w20;refine SQ (ze rfl) ?_;refine zd ?_;refine zQ ?_;refine zb ?_;refine za ?_;refine SQ (zf rfl) ?_;refine SQ (qb rfl rfl (zS (by omega) (by omega))) ?_;refine SQ (ze rfl) ?_;refine zd ?_;refine qh ((x.1 + 1, v20)) (by repeat (first | exact Sub.nil | refine Sub.cons rfl ?_)) ⟨by dsimp only; omega, hO20, hB1, ⟨hu1, hu2, hu3⟩, hbw, hnl'⟩ (by dsimp only; omega)
 ·intro g10
  try simp only [dd] at g10
  have hxe : C.roots.length ≤ x.1 := by omega
  rw [List.take_of_length_le hxe] at hW;refine qk (z0 (z9 ?_));refine zX (zb (zg (za (SQ (zf rfl) (SQ (ze rfl) (zd (zb (zu (zP rfl rfl rfl ?_)))))))));exact ⟨_, rfl, btr hbw hb0, hW⟩
end Go.Proofs.YtphmoebiobjfhaaGreat
