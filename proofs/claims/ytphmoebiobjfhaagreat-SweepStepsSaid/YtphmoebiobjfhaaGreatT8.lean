/- Walks of functions, printed by a program of the author. -/
import Derived.Test.YtphmoebiobjfhaaGreatT7
set_option linter.all false
namespace Go.Proofs.YtphmoebiobjfhaaGreat
open Go Go.Mi Go.RowKit Tryz Go.Proofs.Tryz
theorem f40_k {vC vO vR : Value} {C : Co} {w : World} (hC : SL w vC 3 encC C.ch) (hO : SL w vO 5 encO C.ops) (hR : SL w vR 1 encI C.roots) (h1 : C.ch.length ≤ 100000) (h2 : C.ops.length ≤ 100000) (h3 : C.roots.length ≤ 100000) : Mi.Fn prog 40 #[.agg [vC, vO, vR].toArray] w fun v w' => ∃ p, v = .tuple #[p, .int .i64 (checkR C)] ∧ (checkR C = 0 → ∃ bs rM uC uO uR uU uT, p = .pointer (some ⟨bs, 0, none⟩) ∧ StF (⟨84, 76, 3, 4, 92⟩ : StTy) w.heap.size w' bs rM uC uO uR uU uT C) := by
 refine Calls.mono (f40_c hC hO hR h1 h2 h3) ?_;rintro e w' ⟨hb, (⟨hn, rfl⟩ | ⟨hn, bs, rM, uC, uO, uR, uU, uT, rfl, hS⟩)⟩
 ·exact ⟨_, rfl, hb, _, rfl, fun h => absurd h hn⟩
 ·exact ⟨_, rfl, hb, _, by rw [hn], fun _ => ⟨bs, rM, uC, uO, uR, uU, uT, rfl, hS⟩⟩
theorem f52_c (p : Addr) (i : Int) (w : World) : Mi.Fn prog 52 #[.pointer (some p), .int .i64 i] w fun v w' => ∃ c1 c2, v = .func (.func 66) #[] #[.pointer (some ⟨c1, 0, none⟩), .pointer (some ⟨c2, 0, none⟩)] ∧ Blk w' c1 [.pointer (some p)] 79 ∧ Blk w' c2 [.int .i64 i] 3 ∧ w.heap.size ≤ c1 ∧ w.heap.size ≤ c2 := by
 have hb0 := Below.refl w.heap.size w;refine zE func52 rfl ntmps52 rfl ?_;refine zg (za (qe rfl rfl rfl ?_));intro w2 b2 e2 hb2 hz2 hB2
 have hle2 : w.heap.size ≤ b2 := by have := hb0.size; omega
 replace hb0 := btr hb0 hb2;refine qe rfl rfl rfl ?_;intro w3 b3 e3 hb3 hz3 hB3
 have hle3 : w.heap.size ≤ b3 := by have := hb0.size; omega
 have ne_b2_3 : ¬ b2 = b3 := by have := hB2.lt; omega
 replace hb0 := btr hb0 hb3;replace hB2 := hB2.below hb3;refine SQ (ze rfl) (zd (zb (zg (za (SQ (jL rfl) (SQ (ze rfl) (zd (zb (zu (zP rfl rfl rfl ?_))))))))));exact ⟨_, rfl, hb0, _, _, rfl, hB2, hB3, hle2, hle3⟩
end Go.Proofs.YtphmoebiobjfhaaGreat
