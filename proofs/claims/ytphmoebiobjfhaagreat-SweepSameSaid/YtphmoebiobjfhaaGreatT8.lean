/- Walks of functions, printed by a program of the author. -/
import Derived.Test.YtphmoebiobjfhaaGreatT7
set_option linter.all false
namespace Go.Proofs.YtphmoebiobjfhaaGreat
open Go Go.Mi Go.RowKit
theorem f40_k {vC vO vR : Value} {C : Co} {w : World} (hC : SL w vC 3 encC C.ch) (hO : SL w vO 5 encO C.ops) (hR : SL w vR 1 encI C.roots) (h1 : C.ch.length ≤ 100000) (h2 : C.ops.length ≤ 100000) (h3 : C.roots.length ≤ 100000) : Mi.Fn Tryz.prog 40 #[.agg [vC, vO, vR].toArray] w fun v w' => ∃ p, v = .tuple #[p, .int .i64 (checkR C)] ∧ (checkR C = 0 → ∃ bs rM uC uO uR uU uT, p = .pointer (some ⟨bs, 0, none⟩) ∧ StF (⟨84, 76, 3, 4, 92⟩ : StTy) w.heap.size w' bs rM uC uO uR uU uT C) := by
 refine Calls.mono (f40_c hC hO hR h1 h2 h3) ?_;rintro e w' ⟨hb, (⟨hn, rfl⟩ | ⟨hn, bs, rM, uC, uO, uR, uU, uT, rfl, hS⟩)⟩
 ·exact ⟨_, rfl, hb, _, rfl, fun h => absurd h hn⟩
 ·exact ⟨_, rfl, hb, _, by rw [hn], fun _ => ⟨bs, rM, uC, uO, uR, uU, uT, rfl, hS⟩⟩
theorem f25_c {vC vO vR : Value} {C : Co} {w : World} (hC : SL w vC 3 encC C.ch) (hO : SL w vO 5 encO C.ops) (hR : SL w vR 1 encI C.roots) (h1 : C.ch.length ≤ 100000) (h2 : C.ops.length ≤ 100000) (h3 : C.roots.length ≤ 100000) : Mi.Fn Tryz.prog 25 #[.agg [vC, vO, vR].toArray] w fun v w' => ∃ u, v = .tuple #[u, .int .i64 (checkR C)] ∧ (checkR C ≠ 0 → u = .slice none 0 0) ∧ (checkR C = 0 → OS w' u 4 1 encB (truthsR C.ops) w.heap.size) := by
 have hb0 := Below.refl w.heap.size w;refine calls_of_W Tryz.func25 rfl Tryz.ntmps25 rfl ?_;refine W_seq (W_region (SG_box rfl rfl rfl ?_));intro w1 b1 e1 hb1 hz1 hB1
 have hle1 : w.heap.size ≤ b1 := by have := hb0.size; omega
 replace hb0 := btr hb0 hb1;refine SG_q (Rq_assign rfl) rfl (SG_q (Rq_assign rfl) rfl (SG_nil (D_then (W_seq (W_region ?_)))))
 first | refine SG_q (Rq_loadBW (hB1) Tryz.isAgg26 Tryz.sizeOf26 rfl rfl) rfl ?_ | refine SG_q (Rq_loadBA (hB1) Tryz.isAgg26 Tryz.sizeOf26 rfl rfl rfl) rfl ?_
 refine SG_call rfl Tryz.call40 rfl (f40_k ((hC).below hb0) ((hO).below hb0) ((hR).below hb0) h1 h2 h3) ?_;rintro v8 w8 hb8 ⟨p, rfl, hP⟩;replace hb0 := btr hb0 hb8;refine SG_q (Rq_move rfl) rfl (SG_q (Rq_extract rfl rfl) rfl (SG_q (Rq_extract rfl rfl) rfl (SG_q (Rq_assign rfl) rfl (SG_q (Rq_assign rfl) rfl (SG_nil (D_then (W_seq (W_seq (W_region (SG_q (Rq_move rfl) rfl (SG_q (Rq_neq rfl rfl) rfl (SG_nil (D_then ?_)))))))))))));refine W_cond rfl ?_ ?_
 ·intro g12
  try simp only [dd] at g12
  refine W_seq (W_region (SG_q (Rq_move rfl) rfl (SG_q (Rq_assign rfl) rfl (SG_q (Rq_assign rfl) rfl (SG_nil (D_then (W_ret (D_then_ret (D_body2 rfl rfl rfl rfl ?_)))))))));exact ⟨_, rfl, hb0, _, rfl, fun _ => rfl, fun h => absurd h (by simpa using g12)⟩
 ·intro g12
  try simp only [dd] at g12
  have hck0 : checkR C = 0 := by simpa using g12
  obtain ⟨bs, rM, uC, uO, uR, uU, uT, rfl, hS⟩ := hP hck0;refine W_skip (D_then (W_seq (W_region (SG_q (Rq_move rfl) rfl (SG_q (Rq_nilCheck rfl) rfl (SG_q (Rq_fieldAddr fa92_2 rfl) rfl (SG_q (Rq_loadB (hS.blk) Tryz.isAgg54 rfl rfl) rfl (SG_q (Rq_assign rfl) rfl (SG_q (Rq_assign rfl) rfl (SG_nil (D_then (W_ret (D_body2 rfl rfl rfl rfl ?_)))))))))))));exact ⟨_, rfl, hb0, _, by rw [hck0], fun h => absurd hck0 h, fun _ => hS.oT.le hb1.size⟩
theorem f52_c (p : Addr) (i : Int) (w : World) : Mi.Fn Tryz.prog 52 #[.pointer (some p), .int .i64 i] w fun v w' => ∃ c1 c2, v = .func (.func 66) #[] #[.pointer (some ⟨c1, 0, none⟩), .pointer (some ⟨c2, 0, none⟩)] ∧ Blk w' c1 [.pointer (some p)] 79 ∧ Blk w' c2 [.int .i64 i] 3 ∧ w.heap.size ≤ c1 ∧ w.heap.size ≤ c2 := by
 have hb0 := Below.refl w.heap.size w;refine calls_of_W Tryz.func52 rfl Tryz.ntmps52 rfl ?_;refine W_seq (W_region (SG_box rfl rfl rfl ?_));intro w2 b2 e2 hb2 hz2 hB2
 have hle2 : w.heap.size ≤ b2 := by have := hb0.size; omega
 replace hb0 := btr hb0 hb2;refine SG_box rfl rfl rfl ?_;intro w3 b3 e3 hb3 hz3 hB3
 have hle3 : w.heap.size ≤ b3 := by have := hb0.size; omega
 have ne_b2_3 : ¬ b2 = b3 := by have := hB2.lt; omega
 replace hb0 := btr hb0 hb3;replace hB2 := hB2.below hb3;refine SG_q (Rq_assign rfl) rfl (SG_nil (D_then (W_seq (W_region (SG_q (Rq_makeFunc rfl) rfl (SG_q (Rq_assign rfl) rfl (SG_nil (D_then (W_ret (D_body1 rfl rfl rfl ?_))))))))));exact ⟨_, rfl, hb0, _, _, rfl, hB2, hB3, hle2, hle3⟩
end Go.Proofs.YtphmoebiobjfhaaGreat
