/- Walks of functions, printed by a program of the author. -/
import Derived.Test.YtphmoebiobjfhaaGreatT32
set_option linter.all false
namespace Go.Proofs.YtphmoebiobjfhaaGreat
open Go Go.Mi Go.RowKit Tryz Go.Proofs.Tryz
theorem f23_c {v : Value} {C : Co} {w : World} (hC : CoS w v C) (hck : checkR C = 0) {fi : Int} {f : Nat} (hf : fi = (f : Int)) (hf2 : f ≤ 100000) : Mi.Pure prog 23 #[v, .int .i64 fi] w (.tuple #[valR ((nextF C f).getD rw0), .bool (nextF C f).isSome]) := by
 obtain ⟨uC, uO, uR, rfl, hu1, hu2, hu3⟩ := hC.ex;have hlo1 := hu1.lt; have hlo2 := hu2.lt; have hlo3 := hu3.lt;have hlen := (qm hck).1;subst hf;have hb0 := Below.refl w.heap.size w;refine zE func23 rfl ntmps23 rfl ?_;refine zg (za (qe rfl rfl rfl ?_));intro w2 b2 e2 hb2 hz2 hB2
 have hle2 : w.heap.size ≤ b2 := by have := hb0.size; omega
 replace hb0 := btr hb0 hb2;replace hu1 := hu1.below hb2;replace hu2 := hu2.below hb2;replace hu3 := hu3.below hb2;refine zM zeroValue45 rfl rfl ?_;intro w4 b4 e4 hb4 hz4 hB4
 have hle4 : w.heap.size ≤ b4 := by have := hb0.size; omega
 have ne_b2_4 : ¬ b2 = b4 := by have := hB2.lt; omega
 replace hb0 := btr hb0 hb4;replace hu1 := hu1.below hb4;replace hu2 := hu2.below hb4;replace hu3 := hu3.below hb4;replace hB2 := hB2.below hb4;refine SQ (ze rfl) (zd (zb (zg (zg (za (SQ (zf rfl) (SQ (ze rfl) (zd (zb (zL ?_))))))))));refine qo (α := Nat) (fun x => [(6, .int .i64 (x : Nat)), (2, .pointer (some ⟨b2, 0, none⟩)), (4, .pointer (some ⟨b4, 0, none⟩))]) (fun x w' => Below w.heap.size w w' ∧ f ≤ x ∧ x ≤ 100000 ∧ (∀ j : Nat, f ≤ j → j < x → rulesC C j = []) ∧ Blk w' b2 [uC, uO, uR] 26 ∧ Blk w' b4 [.int .u8 0, .int .i64 0] 45 ∧ SL w' uC 3 encC C.ch ∧ SL w' uO 5 encO C.ops ∧ SL w' uR 1 encI C.roots) (fun x => C.ops.length - x) (f) (by repeat (first | exact Sub.nil | refine Sub.cons rfl ?_)) ⟨hb0, Nat.le_refl _, hf2, (fun j h h2 => by omega), hB2, hB4, hu1, hu2, hu3⟩ ?_;clear hb0;clear hu1;clear hu2;clear hu3;clear hB2;clear hB4;rintro x wl0 ⟨hb0, hfx, hx9, hno, hB2, hB4, hu1, hu2, hu3⟩;refine zg (zg (za (SQ (zf rfl) (SQ (zh z1 rfl) (SQ (zi (hB2) isAgg23 rfl rfl) ?_)))))
 first | refine SQ (zr (hu1) zU23 rfl) ?_ | refine SQ (zr (hu2) zU23 rfl) ?_ | refine SQ (zr (hu3) zU23 rfl) ?_
 refine SQ (qi rfl rfl) (zd (zb ?_));refine zw rfl ?_ ?_
 ·intro g13
  try simp only [dd] at g13
  have hz4 := hB4.lt
  have hxl : x < C.ops.length := by omega
  refine zH (zb (zg (zL (zg (za ?_)))))
  first | refine SQ (zC (hB2) isAgg26 sizeOf26 rfl rfl) ?_ | refine SQ (zD (hB2) isAgg26 sizeOf26 rfl rfl rfl) ?_
  refine SQ (zf rfl) (qf rfl call28 rfl (f28_c (⟨⟨_, _, _, rfl, (hu1), (hu2), (hu3)⟩⟩ : CoS _ _ C) hck hxl) ?_);rintro v18 w18 hb18 ⟨hW, _⟩;replace hb0 := btr hb0 hb18;replace hB2 := hB2.below hb18;replace hB4 := hB4.below hb18;replace hu1 := hu1.below hb18;replace hu2 := hu2.below hb18;replace hu3 := hu3.below hb18
  have ne_hW_b4 : 0 < (rulesC C (x : Int)).length → ¬ sb v18 = b4 := fun hp e => by have := (hW.lt (qL hW.sl hp)).1; omega
  replace hW := hW.sl;refine SQ (ze rfl) (zd (zb (zg (za (SQ (zf rfl) ?_)))))
  first | refine SQ (zr (hu1) zU57 rfl) ?_ | refine SQ (zr (hu2) zU57 rfl) ?_ | refine SQ (zr (hu3) zU57 rfl) ?_ | refine SQ (zr (hW) zU57 rfl) ?_
  refine SQ (qu rfl rfl) (zd (zb ?_));refine zw rfl ?_ ?_
  ·intro g21
   try simp only [dd] at g21
   obtain ⟨r, post, hr⟩ : ∃ r post, rulesC C (x : Int) = r :: post := by cases h9 : rulesC C (x : Int) with | nil => (rw [h9] at g21; simp at g21) | cons r post => exact ⟨r, post, rfl⟩
   have hhd : (rulesC C (x : Int))[0]? = some r := by rw [hr]; rfl
   refine zg (za (SQ (zf rfl) ?_))
   first | refine zy (hu1) zU57 sizeOf5 rfl rfl ?_ ?_ rfl ?_ | refine zy (hu2) zU57 sizeOf5 rfl rfl ?_ ?_ rfl ?_ | refine zy (hu3) zU57 sizeOf5 rfl rfl ?_ ?_ rfl ?_ | refine zy (hW) zU57 sizeOf5 rfl rfl ?_ ?_ rfl ?_
   ·omega
   ·omega
   intro x23 hx23 hc23;have ex23 := Option.some.inj ((hhd).symm.trans hx23); subst ex23;refine SQ (qd isAgg5 rfl ((hc23).cell 0 rfl)) ?_;refine SQ (zf rfl) ?_;refine SQ (qA jV rfl rfl rfl rfl ) ?_;refine zm (hB4) rfl rfl rfl rfl sizeOf45 rfl rfl ?_;intro ws6x5 hchs6x5 hBs6x5;replace hb0 := bchg hb0 hchs6x5 hle4;clear hc23;clear hB4;refine SQ (ze rfl) ?_;refine zd ?_;refine zb ?_;refine zu ?_;refine zt ?_;refine zl ?_;refine qn ?_;refine zt ?_;refine zl ?_;refine qa rfl rfl (.cellW rfl (hBs6x5) isAgg45 sizeOf45 rfl) (.tmp rfl) ?_;exact ⟨by rw [nextF_at hfx hxl hno hr]; rfl, hb0⟩
  ·intro g21
   try simp only [dd] at g21
   have hnil : rulesC C (x : Int) = [] := List.length_eq_zero_iff.1 (by omega);refine zH ?_;refine zQ ?_;refine zb ?_;refine za ?_;refine SQ (zf rfl) ?_;refine SQ (qb rfl rfl (zS (by omega) (by omega))) ?_;refine SQ (ze rfl) ?_;refine zd ?_;refine qh (x + 1) (by repeat (first | exact Sub.nil | refine Sub.cons rfl ?_)) ⟨hb0, by omega, by omega, (fun j h hj => by rcases Nat.lt_succ_iff_lt_or_eq.1 hj with h2 | rfl; exact hno j h h2; exact hnil), hB2, hB4, hu1, hu2, hu3⟩ (by omega)
 ·intro g13
  try simp only [dd] at g13
  refine qk ?_;refine z0 ?_;refine z9 ?_;refine zX ?_;refine zb ?_;refine zg ?_;refine za ?_;refine SQ (qj build45_) ?_;refine zm (hB4) rfl rfl rfl rfl sizeOf45 rfl rfl ?_;intro ws7x1 hchs7x1 hBs7x1;replace hb0 := bchg hb0 hchs7x1 hle4;clear hB4;refine SQ (ze rfl) ?_;refine zd ?_;refine zb ?_;refine zu ?_;refine qa rfl rfl (.cellW rfl (hBs7x1) isAgg45 sizeOf45 rfl) (.tmp rfl) ?_;exact ⟨by rw [nextF_no (fun j h1 h2 => hno j h1 (by omega))]; rfl, hb0⟩
end Go.Proofs.YtphmoebiobjfhaaGreat
