/- Walks of functions, printed by a program of the author. -/
import Derived.Test.YtphmoebiobjfhaaGreatCe
import Derived.Test.YtphmoebiobjfhaaGreatT41
set_option linter.all false
namespace Go.Proofs.YtphmoebiobjfhaaGreat
open Go Go.Mi Go.RowKit
theorem info106 : (Tryz.prog.info? 106).map (fun i => (i.zero, i.size, i.bytes)) = some (some (Value.agg #[(Value.int IntKind.u8 0), (Value.int IntKind.i64 0)]), 2, 16) := by kernel_rfl
theorem f82_c (x : Ot) (w : World) : Pure Tryz.prog 82 #[valO x] w (.bool (decide (x.code = 4))) := by
 have hb0 := Below.refl w.heap.size w;refine calls_of_W Tryz.func82 rfl Tryz.ntmps82 rfl ?_;refine W_seq (W_region (SG_box rfl rfl rfl ?_));intro w1 b1 e1 hb1 hz1 hB1
 have hle1 : w.heap.size ≤ b1 := by have := hb0.size; omega
 replace hb0 := btr hb0 hb1;refine SG_q (Rq_assign rfl) rfl (SG_nil (D_then (W_seq (W_region (SG_q (Rq_fieldAddr fa76_0 rfl) rfl (SG_q (Rq_loadB (hB1) Tryz.isAgg5 rfl rfl) rfl (SG_q (Rq_eql rfl rfl) rfl (SG_q (Rq_assign rfl) rfl (SG_nil (D_then (W_ret (D_body1 rfl rfl rfl ?_))))))))))));exact ⟨rfl, hb0⟩
theorem f105_c {g : FuncId} {caps : List Value} {p : Ot → Bool} {v : Value} {xs : List Ot} {w : World} (hlen : xs.length ≤ 4611686018427387904) (hs : SL w v 5 encO xs) (hg : ∀ args w, (callFunc g args).run Tryz.prog w = .ok (.enter g args) w)
  (hp : ∀ x ∈ xs, ∀ w', Below w.heap.size w w' → Pure Tryz.prog g (valO x :: caps).toArray w' (.bool (p x))) : Pure Tryz.prog 105 #[v, .func (.func g) #[] caps.toArray] w (.int .i64 (idx p xs)) := by
 have hb0 := Below.refl w.heap.size w;refine calls_of_W Tryz.func105 rfl Tryz.ntmps105 rfl ?_;refine W_seq (W_region (SG_q (Rq_assign rfl) rfl (SG_nil (D_then (W_seq (W_seq (W_region (SG_q (Rq_move rfl) rfl (SG_q (Rq_len ((hs).below hb0) Tryz.runUnderlying23 rfl) rfl (SG_q (Rq_move rfl) rfl (SG_nil (D_then (W_block ?_)))))))))))));refine W_loop (α := Nat) (fun x => [(0, v), (1, .func (.func g) #[] caps.toArray), (7, .int .i64 xs.length), (8, .int .i64 x)]) (fun x w' => Below w.heap.size w w' ∧ x ≤ xs.length ∧ ∀ (j : Nat) (z : Ot), j < x → xs[j]? = some z → p z = false) (fun x => xs.length - x) (0) (by repeat (first | exact Sub.nil | refine Sub.cons rfl ?_)) ⟨hb0, Nat.zero_le _, fun j z hj => absurd hj (Nat.not_lt_zero j)⟩ ?_;clear hb0;rintro x wl0 ⟨hb0, hx, hno⟩;refine W_seq (W_region (SG_q (Rq_lss rfl rfl) rfl (SG_nil (D_then (W_seq ?_)))));refine W_cond rfl ?_ ?_
 ·intro g9
  try simp only [dd] at g9
  refine W_skip (D_then (W_seq (W_block (W_seq (W_region (SG_q (Rq_move rfl) rfl (SG_q (Rq_assign rfl) rfl (SG_nil (D_then (W_seq (W_region (SG_q (Rq_move rfl) rfl (SG_q (Rq_move rfl) rfl (SG_q (Rq_move rfl) rfl ?_))))))))))))));refine SG_index ((hs).below hb0) Tryz.runUnderlying23 Tryz.sizeOf76 rfl rfl ?_ ?_ rfl ?_
  ·omega
  ·omega
  intro x14 hx14 hc14;refine SG_q (Rq_loadA Tryz.isAgg76 Tryz.sizeOf76 rfl ((hc14)) rfl) rfl (SG_purev rfl rfl rfl hg rfl (hp x14 (List.mem_of_getElem? hx14) _ hb0) ?_);intro w16 hb16;replace hb0 := btr hb0 hb16;refine SG_nil (D_then ?_);refine W_cond rfl ?_ ?_
  ·intro g16
   try simp only [dd] at g16
   refine W_seq (W_region (SG_q (Rq_move rfl) rfl (SG_q (Rq_assign rfl) rfl (SG_nil (D_then (W_ret (D_block_ret (D_then_ret (D_loop_ret ?_)))))))));refine D_block_ret (D_then_ret (D_body1 rfl rfl rfl ?_));exact ⟨by rw [idx_found hno hx14 g16], hb0⟩
  ·intro g16
   try simp only [dd] at g16
   refine W_skip (D_block (D_then (W_region (SG_q (Rq_add rfl rfl (wrap_i64 (by omega) (by omega))) rfl (SG_q (Rq_move rfl) rfl (SG_nil ?_))))));refine D_loop (x + 1) (by repeat (first | exact Sub.nil | refine Sub.cons rfl ?_)) ⟨hb0, by omega, no_succ hno hx14 g16⟩ (by omega)
 ·intro g9
  try simp only [dd] at g9
  refine W_exit (D_then_exit (D_loop_exit ?_));refine D_block_exit (D_then (W_seq (W_region (SG_q (Rq_assign rfl) rfl (SG_nil (D_then (W_ret (D_body1 rfl rfl rfl ?_))))))));exact ⟨by rw [idx_none (no_all hno (by omega))], hb0⟩
theorem f81_c {g : FuncId} {caps : List Value} {p : Ot → Bool} {v : Value} {xs : List Ot} {w : World} (hlen : xs.length ≤ 4611686018427387904) (hs : SL w v 5 encO xs) (hg : ∀ args w, (callFunc g args).run Tryz.prog w = .ok (.enter g args) w)
  (hp : ∀ x ∈ xs, ∀ w', Below w.heap.size w w' → Pure Tryz.prog g (valO x :: caps).toArray w' (.bool (p x))) : Pure Tryz.prog 81 #[v, .func (.func g) #[] caps.toArray] w (.bool (xs.any p)) := by
 have hb0 := Below.refl w.heap.size w;refine calls_of_W Tryz.func81 rfl Tryz.ntmps81 rfl ?_;refine W_seq (W_region (SG_q (Rq_assign rfl) rfl (SG_nil (D_then (W_seq (W_region (SG_q (Rq_move rfl) rfl (SG_q (Rq_move rfl) rfl (SG_pure rfl Tryz.call105 rfl (f105_c hlen ((hs).below hb0) hg (fun x hx w' hb => hp x hx w' (btr hb0 hb))) ?_)))))))));intro w7 hb7;replace hb0 := btr hb0 hb7;refine SG_q (Rq_geq rfl rfl) rfl (SG_q (Rq_assign rfl) rfl (SG_nil (D_then (W_ret (D_body1 rfl rfl rfl ?_)))));exact ⟨by rw [idx_any], hb0⟩
theorem f107_c (x : Ch) (n : Int) (w : World) : Pure Tryz.prog 107 #[valC x, .int .i64 n] w (.bool (withinB x.lo x.hi [n])) := by
 have hb0 := Below.refl w.heap.size w;refine calls_of_W Tryz.func107 rfl Tryz.ntmps107 rfl ?_;refine W_seq (W_region (SG_box rfl rfl rfl ?_));intro w2 b2 e2 hb2 hz2 hB2
 have hle2 : w.heap.size ≤ b2 := by have := hb0.size; omega
 replace hb0 := btr hb0 hb2;refine SG_q (Rq_assign rfl) rfl (SG_nil (D_then (W_seq (W_region (SG_q (Rq_fieldAddr fa84_1 rfl) rfl (SG_q (Rq_loadB (hB2) Tryz.isAgg3 rfl rfl) rfl (SG_q (Rq_fieldAddr fa84_2 rfl) rfl (SG_q (Rq_loadB (hB2) Tryz.isAgg3 rfl rfl) rfl (SG_q (Rq_move rfl) rfl (SG_bslice (enc := encI) (val := valI) (os := [.tmp 9]) rfl rfl (MV.cons (MV.nil)) (fun _ => rfl) (fun _ => rfl) Tryz.runUnderlying24 Tryz.sizeOf3 Tryz.zeroValue3 rfl (by decide) (by decide) rfl ?_))))))))));intro w10 v10 b10 e10 hb10 hz10 hob10 hO10
 have hle10 : w.heap.size ≤ b10 := by have := hb0.size; omega
 have lt_b2_10 : b2 < b10 := by have := hB2.lt; omega
 replace hb0 := btr hb0 hb10;refine SG_pure rfl Tryz.call71 rfl (f71_c (by simp) (hO10.sl)) ?_;intro w11 hb11;replace hb0 := btr hb0 hb11;refine SG_q (Rq_assign rfl) rfl (SG_nil (D_then (W_ret (D_body1 rfl rfl rfl ?_))));exact ⟨rfl, hb0⟩
theorem f106_c {g : FuncId} {caps : List Value} {v u : Value} {xs : List Ch} {ns : List Int} {w : World} (h1 : xs.length ≤ 4611686018427387904) (h2 : xs.length = ns.length) (hs : SL w v 3 encC xs) (hn : SL w u 1 encI ns) (hg : ∀ args w, (callFunc g args).run Tryz.prog w = .ok (.enter g args) w)
  (hp : ∀ (j : Nat) (x : Ch) (n : Int), xs[j]? = some x → ns[j]? = some n → ∀ w', Below w.heap.size w w' → Pure Tryz.prog g (valC x :: .int .i64 n :: caps).toArray w' (.bool true)) : Pure Tryz.prog 106 #[v, u, .func (.func g) #[] caps.toArray] w (.bool true) := by
 have hb0 := Below.refl w.heap.size w;refine calls_of_W Tryz.func106 rfl Tryz.ntmps106 rfl ?_;refine W_seq (W_region (SG_q (Rq_assign rfl) rfl (SG_nil (D_then (W_seq (W_seq (W_region (SG_q (Rq_move rfl) rfl ?_))))))))
 first | refine SG_q (Rq_len ((hs).below hb0) Tryz.runUnderlying22 rfl) rfl ?_ | refine SG_q (Rq_len ((hn).below hb0) Tryz.runUnderlying22 rfl) rfl ?_
 refine SG_q (Rq_move rfl) rfl ?_
 first | refine SG_q (Rq_len ((hs).below hb0) Tryz.runUnderlying24 rfl) rfl ?_ | refine SG_q (Rq_len ((hn).below hb0) Tryz.runUnderlying24 rfl) rfl ?_
 refine SG_q (Rq_neq rfl rfl) rfl (SG_nil (D_then ?_));refine W_cond rfl ?_ ?_
 ·intro g14; exfalso; (try simp only [dd] at g14); omega
 ·intro g14
  try simp only [dd] at g14
  refine W_skip (D_then (W_seq (W_seq (W_region (SG_q (Rq_move rfl) rfl ?_)))))
  first | refine SG_q (Rq_len ((hs).below hb0) Tryz.runUnderlying22 rfl) rfl ?_ | refine SG_q (Rq_len ((hn).below hb0) Tryz.runUnderlying22 rfl) rfl ?_
  refine SG_q (Rq_move rfl) rfl (SG_nil (D_then (W_block ?_)));refine W_loop (α := Nat) (fun x => [(2, .func (.func g) #[] caps.toArray), (1, u), (15, v), (16, .int .i64 xs.length), (17, .int .i64 x)]) (fun x w' => Below w.heap.size w w' ∧ x ≤ xs.length) (fun x => xs.length - x) (0) (by repeat (first | exact Sub.nil | refine Sub.cons rfl ?_)) ⟨hb0, Nat.zero_le _⟩ ?_;clear hb0;rintro x wl0 ⟨hb0, hxi⟩;refine W_seq (W_region (SG_q (Rq_lss rfl rfl) rfl (SG_nil (D_then (W_seq ?_)))));refine W_cond rfl ?_ ?_
  ·intro g18
   try simp only [dd] at g18
   refine W_skip (D_then (W_seq (W_block (W_seq (W_region (SG_q (Rq_move rfl) rfl ?_))))))
   first | refine SG_index ((hs).below hb0) Tryz.runUnderlying22 Tryz.sizeOf84 rfl rfl ?_ ?_ rfl ?_ | refine SG_index ((hn).below hb0) Tryz.runUnderlying22 Tryz.sizeOf84 rfl rfl ?_ ?_ rfl ?_
   ·omega
   ·omega
   intro x20 hx20 hc20;refine SG_q (Rq_loadA Tryz.isAgg84 Tryz.sizeOf84 rfl ((hc20)) rfl) rfl (SG_alloc Tryz.zeroValue84 rfl rfl ?_);intro w8 b8 e8 hb8 hz8 hB8
   have hle8 : w.heap.size ≤ b8 := by have := hb0.size; omega
   replace hb0 := btr hb0 hb8;refine SG_q (Rq_assign rfl) rfl (SG_storeW (hB8) rfl rfl rfl rfl Tryz.sizeOf84 rfl rfl ?_);intro ws5x5 hchs5x5 hBs5x5;replace hb0 := bchg hb0 hchs5x5 hle8;clear hc20;clear hB8;refine SG_nil (D_then (W_seq (W_region (SG_q (Rq_move rfl) rfl (SG_q (Rq_move rfl) rfl ?_)))))
   first | refine SG_index ((hs).below hb0) Tryz.runUnderlying24 Tryz.sizeOf3 rfl rfl ?_ ?_ rfl ?_ | refine SG_index ((hn).below hb0) Tryz.runUnderlying24 Tryz.sizeOf3 rfl rfl ?_ ?_ rfl ?_
   ·omega
   ·omega
   intro x24 hx24 hc24;refine SG_q (Rq_load Tryz.isAgg3 rfl ((hc24).cell 0 rfl)) rfl (SG_q (Rq_assign rfl) rfl (SG_nil (D_then (W_seq (W_region (SG_q (Rq_move rfl) rfl ?_))))))
   first | refine SG_q (Rq_loadBW (hBs5x5) Tryz.isAgg84 Tryz.sizeOf84 rfl rfl) rfl ?_ | refine SG_q (Rq_loadBA (hBs5x5) Tryz.isAgg84 Tryz.sizeOf84 rfl rfl rfl) rfl ?_
   refine SG_q (Rq_move rfl) rfl (SG_purev rfl rfl rfl hg rfl (hp _ _ _ hx20 hx24 _ hb0) ?_);intro w29 hb29;replace hb0 := btr hb0 hb29;refine SG_q (Rq_not rfl) rfl (SG_nil (D_then ?_));refine W_cond rfl ?_ ?_
   ·intro g30; exfalso; (try simp only [dd] at g30); simp at g30
   ·intro g30
    try simp only [dd] at g30
    refine W_skip (D_block (D_then (W_region (SG_q (Rq_add rfl rfl (wrap_i64 (by omega) (by omega))) rfl (SG_q (Rq_move rfl) rfl (SG_nil ?_))))));refine D_loop (x + 1) (by repeat (first | exact Sub.nil | refine Sub.cons rfl ?_)) ⟨hb0, by omega⟩ (by omega)
  ·intro g18
   try simp only [dd] at g18
   refine W_exit (D_then_exit (D_loop_exit ?_));refine D_block_exit (D_then (W_seq (W_region (SG_q (Rq_assign rfl) rfl (SG_nil (D_then (W_ret (D_body1 rfl rfl rfl ?_))))))));exact ⟨rfl, hb0⟩
theorem f83_c {vC vO vR : Value} {C : Co} {wd : List Int} {u : Value} {w : World} (hC : SL w vC 3 encC C.ch) (hO : SL w vO 5 encO C.ops) (hR : SL w vR 1 encI C.roots) (hu : SL w u 1 encI wd) (h1 : C.ch.length ≤ 4611686018427387904) (hw : OkW C.ch wd) : Pure Tryz.prog 83 #[.agg [vC, vO, vR].toArray, u] w (.bool true) := by
 have hb0 := Below.refl w.heap.size w;refine calls_of_W Tryz.func83 rfl Tryz.ntmps83 rfl ?_;refine W_seq (W_region (SG_box rfl rfl rfl ?_));intro w2 b2 e2 hb2 hz2 hB2
 have hle2 : w.heap.size ≤ b2 := by have := hb0.size; omega
 replace hb0 := btr hb0 hb2;refine SG_q (Rq_assign rfl) rfl (SG_nil (D_then (W_seq (W_region (SG_q (Rq_fieldAddr fa26_0 rfl) rfl (SG_q (Rq_loadB (hB2) Tryz.isAgg22 rfl rfl) rfl (SG_q (Rq_move rfl) rfl (SG_pure rfl Tryz.call106 rfl (f106_c (caps := []) h1 hw.1 ((hC).below hb0) ((hu).below hb0) Tryz.call107 (fun j x n hx hn w' hb => (hw.2 j x n hx hn) ▸ f107_c x n w')) ?_))))))));intro w8 hb8;replace hb0 := btr hb0 hb8;refine SG_q (Rq_assign rfl) rfl (SG_nil (D_then (W_ret (D_body1 rfl rfl rfl ?_))));exact ⟨rfl, hb0⟩
set_option maxHeartbeats 2000000 in
theorem f84_c (x : Ot) {wd : List Int} {l : List Vl} {vw vl : Value} {w : World} (hw : SL w vw 1 encI wd) (hl : SL w vl 2 encV l) (hx : OkC wd l x) : Pure Tryz.prog 84 #[valO x, vw, vl] w (valV (cellE wd (gV l) x)) := by
 obtain ⟨⟨hc1, hc17, hc4⟩, hfn, hcn, hxa, hxb, hxc⟩ := hx
 have gA := fun h => gV_some (hxa h)
 have gB := fun h => gV_some (hxb h)
 have gC := fun h => gV_some (hxc h)
 replace hxa := fun (_ : Unit) => hxa
 replace hxb := fun (_ : Unit) => hxb
 replace hxc := fun (_ : Unit) => hxc
 have hcn1 := fun (_ : Unit) => hcn
 have hfn1 := fun (_ : Unit) => hfn
 clear hcn hfn;have hb0 := Below.refl w.heap.size w;refine calls_of_W Tryz.func84 rfl Tryz.ntmps84 rfl ?_;refine W_seq (W_region (SG_box rfl rfl rfl ?_));intro w3 b3 e3 hb3 hz3 hB3
 have hle3 : w.heap.size ≤ b3 := by have := hb0.size; omega
 replace hb0 := btr hb0 hb3;replace hw := hw.below hb3;replace hl := hl.below hb3;refine SG_alloc Tryz.zeroValue106 rfl rfl ?_;intro w6 b6 e6 hb6 hz6 hB6
 have hle6 : w.heap.size ≤ b6 := by have := hb0.size; omega
 have ne_hl_b6 := hl.fresh (b := b6) (by omega)
 have ne_b3_6 : ¬ b3 = b6 := by have := hB3.lt; omega
 replace hb0 := btr hb0 hb6;replace hw := hw.below hb6;replace hl := hl.below hb6;replace hB3 := hB3.below hb6;refine SG_nil (D_then (W_seq (W_seq (W_region (SG_q (Rq_fieldAddr fa76_0 rfl) rfl (SG_q (Rq_loadB (hB3) Tryz.isAgg5 rfl rfl) rfl (SG_nil (D_then (W_block (W_seq (W_region (SG_q (Rq_eql rfl rfl) rfl (SG_q (Rq_assign rfl) rfl (SG_nil (D_then ?_)))))))))))))));refine W_cond rfl ?_ ?_
 ·intro g25
  try simp only [dd] at g25
  refine W_seq ?_;refine W_region ?_;refine SG_q (Rq_fieldAddr fa76_4 rfl) rfl ?_;refine SG_q (Rq_loadB (hB3) Tryz.isAgg3 rfl rfl) rfl ?_;refine SG_pure rfl Tryz.call108 rfl (f108_c _ _) ?_;intro w29 hb29;replace hb0 := btr hb0 hb29;replace hB6 := hB6.below hb29;refine SG_storeW (hB6) rfl rfl rfl rfl Tryz.sizeOf106 rfl rfl ?_;intro ws4x3 hchs4x3 hBs4x3;replace hb0 := bchg hb0 hchs4x3 hle6;clear hB6;refine SG_nil ?_;refine D_then ?_;refine W_ret ?_;refine D_block_ret ?_;refine D_then_ret ?_;refine D_bodyR1 rfl rfl (.cellW rfl (hBs4x3) Tryz.isAgg106 Tryz.sizeOf106 rfl) ?_;exact ⟨by rw [cellE, if_pos g25]; rfl, hb0⟩
 ·intro g25
  try simp only [dd] at g25
  refine W_seq (W_region (SG_q (Rq_eql rfl rfl) rfl (SG_q (Rq_assign rfl) rfl (SG_nil (D_then ?_)))));refine W_cond rfl ?_ ?_
  ·intro g30
   try simp only [dd] at g30
   refine W_seq ?_;refine W_region ?_;refine SG_q (Rq_fieldAddr fa76_4 rfl) rfl ?_;refine SG_q (Rq_loadB (hB3) Tryz.isAgg3 rfl rfl) rfl ?_;have hfn2 := hfn1 () g30;refine SG_q (Rq_convert Tryz.runUnderlying3 Tryz.runUnderlying5 rfl (wrap_u8 (by omega) (by omega))) rfl ?_;refine SG_q (Rq_build1 build106_0 rfl rfl ) rfl ?_;refine SG_storeW (hB6) rfl rfl rfl rfl Tryz.sizeOf106 rfl rfl ?_;intro ws6x4 hchs6x4 hBs6x4;replace hb0 := bchg hb0 hchs6x4 hle6;clear hB6;refine SG_nil ?_;refine D_then ?_;refine W_ret ?_;refine D_block_ret ?_;refine D_then_ret ?_;refine D_bodyR1 rfl rfl (.cellW rfl (hBs6x4) Tryz.isAgg106 Tryz.sizeOf106 rfl) ?_;exact ⟨by rw [cellE, if_neg g25, if_pos g30]; rfl, hb0⟩
  ·intro g30
   try simp only [dd] at g30
   refine W_seq (W_region (SG_q (Rq_eql rfl rfl) rfl (SG_q (Rq_assign rfl) rfl (SG_nil (D_then ?_)))));refine W_cond rfl ?_ ?_
   ·intro g36
    try simp only [dd] at g36
    refine W_seq (W_region (SG_q (Rq_move rfl) rfl (SG_q (Rq_fieldAddr fa76_4 rfl) rfl (SG_q (Rq_loadB (hB3) Tryz.isAgg3 rfl rfl) rfl ?_))));have hcn2 := hcn1 () g36
    first | refine SG_index (hw) Tryz.runUnderlying24 Tryz.sizeOf3 rfl rfl ?_ ?_ rfl ?_ | refine SG_index (hl) Tryz.runUnderlying24 Tryz.sizeOf3 rfl rfl ?_ ?_ rfl ?_
    ·omega
    ·omega
    intro x41 hx41 hc41;have ex41 := Option.some.inj ((wd_some (hcn1 () g36)).symm.trans hx41); subst ex41;refine SG_q (Rq_load Tryz.isAgg3 rfl ((hc41).cell 0 rfl)) rfl ?_;refine SG_pure rfl Tryz.call108 rfl (f108_c _ _) ?_;intro w43 hb43;replace hb0 := btr hb0 hb43;replace hB6 := hB6.below hb43;refine SG_storeW (hB6) rfl rfl rfl rfl Tryz.sizeOf106 rfl rfl ?_;intro ws8x6 hchs8x6 hBs8x6;replace hb0 := bchg hb0 hchs8x6 hle6;clear hc41;clear hB6;refine SG_nil ?_;refine D_then ?_;refine W_ret ?_;refine D_block_ret ?_;refine D_then_ret ?_;refine D_bodyR1 rfl rfl (.cellW rfl (hBs8x6) Tryz.isAgg106 Tryz.sizeOf106 rfl) ?_;exact ⟨by rw [cellE, if_neg g25, if_neg g30, if_pos g36]; rfl, hb0⟩
   ·intro g36
    try simp only [dd] at g36
    refine W_seq ?_;refine W_seq ?_;refine W_region ?_;refine SG_q (Rq_eql rfl rfl) rfl ?_;refine SG_q (Rq_assign rfl) rfl ?_;refine SG_nil ?_;refine D_then ?_;refine W_or (r := ?rc44n1) rfl ?_ ?_; rotate_left
    ·intro g44 K44
     try simp only [dd] at g44
     refine W_region (SG_q (Rq_eql rfl rfl) rfl (SG_q (Rq_assign rfl) rfl (SG_nil ?_)));exact K44 _ (by repeat (first | exact Sub.refl | refine Sub.shadow ?_ | refine Sub.same ?_ | refine Sub.push rfl ?_))
    refine D_then ?_;refine W_cond rfl ?_ ?_
    ·intro g44
     try simp only [dd] at g44
     refine W_anyG 12 [[], [0], [], [], [3], [2, 4], [5], [1, 6], [7], [8], [8], [9]] [StBE b6 106 2] (BsB b6 106 2 w6) [gdet [] ?a11_0n2, gdet [0] ?a11_1n2, gdet [] ?a11_2n2, gdet [] ?a11_3n2, gdet [3] ?a11_4n2, gdet [2, 4] ?a11_5n2, gdet [5] ?a11_6n2, gdet [1, 6] ?a11_7n2, gdet [7] ?a11_8n2, gdet [8] ?a11_9n2, gdet [8] ?a11_10n2, gst 0 [9] (fun _ w => Blk w b6 (encV (op1R x.code (gV l x.a)).1) 106)] Tryz.mixed (by kernel_rfl) (by kernel_rfl) rfl rfl (stB_ok) (GStab.of rfl ?_) (BsB.of hB6 rfl) (fun h => h.drew) ?_ ?_; rotate_left 11
     ·skip
      refine AllSt_det ?_;refine AllSt_det ?_;refine AllSt_det ?_;refine AllSt_det ?_;refine AllSt_det ?_;refine AllSt_det ?_;refine AllSt_det ?_;refine AllSt_det ?_;refine AllSt_det ?_;refine AllSt_det ?_;refine AllSt_det ?_;refine AllSt_st stB_stab ?_;exact AllSt_nil
     ·refine GObls_cons ?_ ?_
      ·intro wq hq hzq
       refine GObl_nil ?_
       refine GEx_q2 (Rq_fieldAddr fa76_0 rfl) ?_; first | exact rfl | rfl
      refine GObls_cons ?_ ?_
      ·intro wq hq hzq
       refine GObl_det rfl rfl rfl (GObl_nil ?_)
       refine GEx_q2 (Rq_loadB ((hB3.chg hq.1 ne_b3_6)) Tryz.isAgg5 rfl rfl) ?_; first | exact rfl | rfl
      refine GObls_cons ?_ ?_
      ·intro wq hq hzq
       refine GObl_nil ?_
       refine GEx_q2 (Rq_move rfl) ?_; first | exact rfl | rfl
      refine GObls_cons ?_ ?_
      ·intro wq hq hzq
       refine GObl_nil ?_
       refine GEx_q2 (Rq_fieldAddr fa76_1 rfl) ?_; first | exact rfl | rfl
      refine GObls_cons ?_ ?_
      ·intro wq hq hzq
       refine GObl_det rfl rfl rfl (GObl_nil ?_)
       refine GEx_q2 (Rq_loadB ((hB3.chg hq.1 ne_b3_6)) Tryz.isAgg3 rfl rfl) ?_; first | exact rfl | rfl
      refine GObls_cons ?_ ?_
      ·intro wq hq hzq
       refine GObl_det rfl rfl rfl (GObl_det rfl rfl rfl (GObl_nil ?_))
       refine GEx_q2 (Rq_index (hl.chg hq.1 ne_hl_b6) Tryz.runUnderlying69 Tryz.sizeOf106 rfl rfl (hxa () (by omega)).1 (hxa () (by omega)).2) ?_; first | exact rfl | rfl
      refine GObls_cons ?_ ?_
      ·intro wq hq hzq
       refine GObl_det rfl rfl rfl (GObl_nil ?_)
       refine GEx_q2 (Rq_loadA Tryz.isAgg106 Tryz.sizeOf106 rfl ((hl.chg hq.1 ne_hl_b6).cells _ _ (gA (by omega))) rfl) ?_; first | exact rfl | rfl
      refine GObls_cons ?_ ?_
      ·intro wq hq hzq
       refine GObl_det rfl rfl rfl (GObl_det rfl rfl rfl (GObl_nil ?_))
       refine GEx_call rfl Tryz.call109 (f109_c _ _ _) ?_; first | exact rfl | rfl
      refine GObls_cons ?_ ?_
      ·intro wq hq hzq
       refine GObl_det rfl rfl rfl (GObl_nil ?_)
       refine GEx_q2 (Rq_move rfl) ?_; first | exact rfl | rfl
      refine GObls_cons ?_ ?_
      ·intro wq hq hzq
       refine GObl_det rfl rfl rfl (GObl_nil ?_)
       refine GEx_q2 (Rq_extract rfl rfl) ?_; first | exact rfl | rfl
      refine GObls_cons ?_ ?_
      ·intro wq hq hzq
       refine GObl_det rfl rfl rfl (GObl_nil ?_)
       refine GEx_q2 (Rq_extract rfl rfl) ?_; first | exact rfl | rfl
      refine GObls_cons ?_ ?_
      ·intro wq hq hzq
       refine GObl_det rfl rfl rfl (GObl_nil ?_);exact GEx_stB hq.2 rfl rfl rfl rfl Tryz.sizeOf106 rfl rfl
      exact GObls_nil
     ·intro wa11 hba11 hzz11
      refine GFin_det rfl (GFin_det rfl (GFin_det rfl (GFin_det rfl (GFin_det rfl (GFin_det rfl (GFin_det rfl (GFin_det rfl (GFin_det rfl (GFin_det rfl (GFin_det rfl (GFin_st rfl ?_))))))))))); intro hs11x11 _; replace hs11x11 := id hs11x11;refine GFin_nil ?_
      simp only [List.drop_succ_cons, List.drop_zero]
      replace hb0 := bchg hb0 hba11.1 hle6;refine SG_nil (D_block (D_then (W_seq (W_region ?_))))
      first | refine SG_q (Rq_loadBW (hs11x11) Tryz.isAgg106 Tryz.sizeOf106 rfl rfl) rfl ?_ | refine SG_q (Rq_loadBA (hs11x11) Tryz.isAgg106 Tryz.sizeOf106 rfl rfl rfl) rfl ?_
      refine SG_storeW (hs11x11) rfl rfl rfl rfl Tryz.sizeOf106 rfl rfl ?_;intro ws14x1 hchs14x1 hBs14x1;replace hb0 := bchg hb0 hchs14x1 hle6;clear hs11x11;refine SG_nil ?_;refine D_then ?_;refine W_ret ?_;refine D_bodyR1 rfl rfl (.cellW rfl (hBs14x1) Tryz.isAgg106 Tryz.sizeOf106 rfl) ?_;exact ⟨by rw [cellE, if_neg g25, if_neg g30, if_neg g36, if_neg hc4, if_pos g44]; rfl, hb0⟩
    ·intro g44
     try simp only [dd] at g44
     refine W_seq (W_region (SG_q (Rq_eql rfl rfl) rfl (SG_q (Rq_assign rfl) rfl (SG_nil (D_then ?_)))));refine W_cond rfl ?_ ?_
     ·intro g58
      try simp only [dd] at g58
      refine W_anyG 20 [[], [], [1], [0, 2], [3], [], [], [6], [5, 7], [8], [], [], [11], [10, 12], [13], [4, 9, 14], [15], [16], [16], [17]] [StBE b6 106 2] (BsB b6 106 2 w6) [gdet [] ?a13_0n3, gdet [] ?a13_1n3, gdet [1] ?a13_2n3, gdet [0, 2] ?a13_3n3, gdet [3] ?a13_4n3, gdet [] ?a13_5n3, gdet [] ?a13_6n3, gdet [6] ?a13_7n3, gdet [5, 7] ?a13_8n3, gdet [8] ?a13_9n3, gdet [] ?a13_10n3, gdet [] ?a13_11n3, gdet [11] ?a13_12n3, gdet [10, 12] ?a13_13n3, gdet [13] ?a13_14n3, gdet [4, 9, 14] ?a13_15n3, gdet [15] ?a13_16n3, gdet [16] ?a13_17n3, gdet [16] ?a13_18n3, gst 0 [17] (fun _ w => Blk w b6 (encV (chooseR (gV l x.a) (gV l x.b) (gV l x.c)).1) 106)] Tryz.mixed (by kernel_rfl) (by kernel_rfl) rfl rfl (stB_ok) (GStab.of rfl ?_) (BsB.of hB6 rfl) (fun h => h.drew) ?_ ?_; rotate_left 19
      ·skip
       refine AllSt_det ?_;refine AllSt_det ?_;refine AllSt_det ?_;refine AllSt_det ?_;refine AllSt_det ?_;refine AllSt_det ?_;refine AllSt_det ?_;refine AllSt_det ?_;refine AllSt_det ?_;refine AllSt_det ?_;refine AllSt_det ?_;refine AllSt_det ?_;refine AllSt_det ?_;refine AllSt_det ?_;refine AllSt_det ?_;refine AllSt_det ?_;refine AllSt_det ?_;refine AllSt_det ?_;refine AllSt_det ?_;refine AllSt_st stB_stab ?_;exact AllSt_nil
      ·refine GObls_cons ?_ ?_
       ·intro wq hq hzq
        refine GObl_nil ?_
        refine GEx_q2 (Rq_move rfl) ?_; first | exact rfl | rfl
       refine GObls_cons ?_ ?_
       ·intro wq hq hzq
        refine GObl_nil ?_
        refine GEx_q2 (Rq_fieldAddr fa76_1 rfl) ?_; first | exact rfl | rfl
       refine GObls_cons ?_ ?_
       ·intro wq hq hzq
        refine GObl_det rfl rfl rfl (GObl_nil ?_)
        refine GEx_q2 (Rq_loadB ((hB3.chg hq.1 ne_b3_6)) Tryz.isAgg3 rfl rfl) ?_; first | exact rfl | rfl
       refine GObls_cons ?_ ?_
       ·intro wq hq hzq
        refine GObl_det rfl rfl rfl (GObl_det rfl rfl rfl (GObl_nil ?_))
        refine GEx_q2 (Rq_index (hl.chg hq.1 ne_hl_b6) Tryz.runUnderlying69 Tryz.sizeOf106 rfl rfl (hxa () (by omega)).1 (hxa () (by omega)).2) ?_; first | exact rfl | rfl
       refine GObls_cons ?_ ?_
       ·intro wq hq hzq
        refine GObl_det rfl rfl rfl (GObl_nil ?_)
        refine GEx_q2 (Rq_loadA Tryz.isAgg106 Tryz.sizeOf106 rfl ((hl.chg hq.1 ne_hl_b6).cells _ _ (gA (by omega))) rfl) ?_; first | exact rfl | rfl
       refine GObls_cons ?_ ?_
       ·intro wq hq hzq
        refine GObl_nil ?_
        refine GEx_q2 (Rq_move rfl) ?_; first | exact rfl | rfl
       refine GObls_cons ?_ ?_
       ·intro wq hq hzq
        refine GObl_nil ?_
        refine GEx_q2 (Rq_fieldAddr fa76_2 rfl) ?_; first | exact rfl | rfl
       refine GObls_cons ?_ ?_
       ·intro wq hq hzq
        refine GObl_det rfl rfl rfl (GObl_nil ?_)
        refine GEx_q2 (Rq_loadB ((hB3.chg hq.1 ne_b3_6)) Tryz.isAgg3 rfl rfl) ?_; first | exact rfl | rfl
       refine GObls_cons ?_ ?_
       ·intro wq hq hzq
        refine GObl_det rfl rfl rfl (GObl_det rfl rfl rfl (GObl_nil ?_))
        refine GEx_q2 (Rq_index (hl.chg hq.1 ne_hl_b6) Tryz.runUnderlying69 Tryz.sizeOf106 rfl rfl (hxb () (by omega)).1 (hxb () (by omega)).2) ?_; first | exact rfl | rfl
       refine GObls_cons ?_ ?_
       ·intro wq hq hzq
        refine GObl_det rfl rfl rfl (GObl_nil ?_)
        refine GEx_q2 (Rq_loadA Tryz.isAgg106 Tryz.sizeOf106 rfl ((hl.chg hq.1 ne_hl_b6).cells _ _ (gB (by omega))) rfl) ?_; first | exact rfl | rfl
       refine GObls_cons ?_ ?_
       ·intro wq hq hzq
        refine GObl_nil ?_
        refine GEx_q2 (Rq_move rfl) ?_; first | exact rfl | rfl
       refine GObls_cons ?_ ?_
       ·intro wq hq hzq
        refine GObl_nil ?_
        refine GEx_q2 (Rq_fieldAddr fa76_3 rfl) ?_; first | exact rfl | rfl
       refine GObls_cons ?_ ?_
       ·intro wq hq hzq
        refine GObl_det rfl rfl rfl (GObl_nil ?_)
        refine GEx_q2 (Rq_loadB ((hB3.chg hq.1 ne_b3_6)) Tryz.isAgg3 rfl rfl) ?_; first | exact rfl | rfl
       refine GObls_cons ?_ ?_
       ·intro wq hq hzq
        refine GObl_det rfl rfl rfl (GObl_det rfl rfl rfl (GObl_nil ?_))
        refine GEx_q2 (Rq_index (hl.chg hq.1 ne_hl_b6) Tryz.runUnderlying69 Tryz.sizeOf106 rfl rfl (hxc () (by omega)).1 (hxc () (by omega)).2) ?_; first | exact rfl | rfl
       refine GObls_cons ?_ ?_
       ·intro wq hq hzq
        refine GObl_det rfl rfl rfl (GObl_nil ?_)
        refine GEx_q2 (Rq_loadA Tryz.isAgg106 Tryz.sizeOf106 rfl ((hl.chg hq.1 ne_hl_b6).cells _ _ (gC (by omega))) rfl) ?_; first | exact rfl | rfl
       refine GObls_cons ?_ ?_
       ·intro wq hq hzq
        refine GObl_det rfl rfl rfl (GObl_det rfl rfl rfl (GObl_det rfl rfl rfl (GObl_nil ?_)))
        refine GEx_call rfl Tryz.call110 (f110_c _ _ _ _) ?_; first | exact rfl | rfl
       refine GObls_cons ?_ ?_
       ·intro wq hq hzq
        refine GObl_det rfl rfl rfl (GObl_nil ?_)
        refine GEx_q2 (Rq_move rfl) ?_; first | exact rfl | rfl
       refine GObls_cons ?_ ?_
       ·intro wq hq hzq
        refine GObl_det rfl rfl rfl (GObl_nil ?_)
        refine GEx_q2 (Rq_extract rfl rfl) ?_; first | exact rfl | rfl
       refine GObls_cons ?_ ?_
       ·intro wq hq hzq
        refine GObl_det rfl rfl rfl (GObl_nil ?_)
        refine GEx_q2 (Rq_extract rfl rfl) ?_; first | exact rfl | rfl
       refine GObls_cons ?_ ?_
       ·intro wq hq hzq
        refine GObl_det rfl rfl rfl (GObl_nil ?_);exact GEx_stB hq.2 rfl rfl rfl rfl Tryz.sizeOf106 rfl rfl
       exact GObls_nil
      ·intro wa13 hba13 hzz13
       refine GFin_det rfl (GFin_det rfl (GFin_det rfl (GFin_det rfl (GFin_det rfl (GFin_det rfl (GFin_det rfl (GFin_det rfl (GFin_det rfl (GFin_det rfl (GFin_det rfl (GFin_det rfl (GFin_det rfl (GFin_det rfl (GFin_det rfl (GFin_det rfl (GFin_det rfl (GFin_det rfl (GFin_det rfl (GFin_st rfl ?_))))))))))))))))))); intro hs13x19 _; replace hs13x19 := id hs13x19;refine GFin_nil ?_
       simp only [List.drop_succ_cons, List.drop_zero]
       replace hb0 := bchg hb0 hba13.1 hle6;refine SG_nil (D_block (D_then (W_seq (W_region ?_))))
       first | refine SG_q (Rq_loadBW (hs13x19) Tryz.isAgg106 Tryz.sizeOf106 rfl rfl) rfl ?_ | refine SG_q (Rq_loadBA (hs13x19) Tryz.isAgg106 Tryz.sizeOf106 rfl rfl rfl) rfl ?_
       refine SG_storeW (hs13x19) rfl rfl rfl rfl Tryz.sizeOf106 rfl rfl ?_;intro ws14x1 hchs14x1 hBs14x1;replace hb0 := bchg hb0 hchs14x1 hle6;clear hs13x19;refine SG_nil ?_;refine D_then ?_;refine W_ret ?_;refine D_bodyR1 rfl rfl (.cellW rfl (hBs14x1) Tryz.isAgg106 Tryz.sizeOf106 rfl) ?_;exact ⟨by rw [cellE, if_neg g25, if_neg g30, if_neg g36, if_neg hc4, if_neg (show ¬ (x.code = 5 ∨ x.code = 6) by omega), if_pos g58]; rfl, hb0⟩
     ·intro g58
      try simp only [dd] at g58
      refine W_anyG 17 [[], [0], [], [], [3], [2, 4], [5], [], [], [8], [7, 9], [10], [1, 6, 11], [12], [13], [13], [14]] [StBE b6 106 2] (BsB b6 106 2 w6) [gdet [] ?a2_0n4, gdet [0] ?a2_1n4, gdet [] ?a2_2n4, gdet [] ?a2_3n4, gdet [3] ?a2_4n4, gdet [2, 4] ?a2_5n4, gdet [5] ?a2_6n4, gdet [] ?a2_7n4, gdet [] ?a2_8n4, gdet [8] ?a2_9n4, gdet [7, 9] ?a2_10n4, gdet [10] ?a2_11n4, gdet [1, 6, 11] ?a2_12n4, gdet [12] ?a2_13n4, gdet [13] ?a2_14n4, gdet [13] ?a2_15n4, gst 0 [14] (fun _ w => Blk w b6 (encV (op2R x.code (gV l x.a) (gV l x.b)).1) 106)] Tryz.mixed (by kernel_rfl) (by kernel_rfl) rfl rfl (stB_ok) (GStab.of rfl ?_) (BsB.of hB6 rfl) (fun h => h.drew) ?_ ?_; rotate_left 16
      ·skip
       refine AllSt_det ?_;refine AllSt_det ?_;refine AllSt_det ?_;refine AllSt_det ?_;refine AllSt_det ?_;refine AllSt_det ?_;refine AllSt_det ?_;refine AllSt_det ?_;refine AllSt_det ?_;refine AllSt_det ?_;refine AllSt_det ?_;refine AllSt_det ?_;refine AllSt_det ?_;refine AllSt_det ?_;refine AllSt_det ?_;refine AllSt_det ?_;refine AllSt_st stB_stab ?_;exact AllSt_nil
      ·refine GObls_cons ?_ ?_
       ·intro wq hq hzq
        refine GObl_nil ?_
        refine GEx_q2 (Rq_fieldAddr fa76_0 rfl) ?_; first | exact rfl | rfl
       refine GObls_cons ?_ ?_
       ·intro wq hq hzq
        refine GObl_det rfl rfl rfl (GObl_nil ?_)
        refine GEx_q2 (Rq_loadB ((hB3.chg hq.1 ne_b3_6)) Tryz.isAgg5 rfl rfl) ?_; first | exact rfl | rfl
       refine GObls_cons ?_ ?_
       ·intro wq hq hzq
        refine GObl_nil ?_
        refine GEx_q2 (Rq_move rfl) ?_; first | exact rfl | rfl
       refine GObls_cons ?_ ?_
       ·intro wq hq hzq
        refine GObl_nil ?_
        refine GEx_q2 (Rq_fieldAddr fa76_1 rfl) ?_; first | exact rfl | rfl
       refine GObls_cons ?_ ?_
       ·intro wq hq hzq
        refine GObl_det rfl rfl rfl (GObl_nil ?_)
        refine GEx_q2 (Rq_loadB ((hB3.chg hq.1 ne_b3_6)) Tryz.isAgg3 rfl rfl) ?_; first | exact rfl | rfl
       refine GObls_cons ?_ ?_
       ·intro wq hq hzq
        refine GObl_det rfl rfl rfl (GObl_det rfl rfl rfl (GObl_nil ?_))
        refine GEx_q2 (Rq_index (hl.chg hq.1 ne_hl_b6) Tryz.runUnderlying69 Tryz.sizeOf106 rfl rfl (hxa () (by omega)).1 (hxa () (by omega)).2) ?_; first | exact rfl | rfl
       refine GObls_cons ?_ ?_
       ·intro wq hq hzq
        refine GObl_det rfl rfl rfl (GObl_nil ?_)
        refine GEx_q2 (Rq_loadA Tryz.isAgg106 Tryz.sizeOf106 rfl ((hl.chg hq.1 ne_hl_b6).cells _ _ (gA (by omega))) rfl) ?_; first | exact rfl | rfl
       refine GObls_cons ?_ ?_
       ·intro wq hq hzq
        refine GObl_nil ?_
        refine GEx_q2 (Rq_move rfl) ?_; first | exact rfl | rfl
       refine GObls_cons ?_ ?_
       ·intro wq hq hzq
        refine GObl_nil ?_
        refine GEx_q2 (Rq_fieldAddr fa76_2 rfl) ?_; first | exact rfl | rfl
       refine GObls_cons ?_ ?_
       ·intro wq hq hzq
        refine GObl_det rfl rfl rfl (GObl_nil ?_)
        refine GEx_q2 (Rq_loadB ((hB3.chg hq.1 ne_b3_6)) Tryz.isAgg3 rfl rfl) ?_; first | exact rfl | rfl
       refine GObls_cons ?_ ?_
       ·intro wq hq hzq
        refine GObl_det rfl rfl rfl (GObl_det rfl rfl rfl (GObl_nil ?_))
        refine GEx_q2 (Rq_index (hl.chg hq.1 ne_hl_b6) Tryz.runUnderlying69 Tryz.sizeOf106 rfl rfl (hxb () (by omega)).1 (hxb () (by omega)).2) ?_; first | exact rfl | rfl
       refine GObls_cons ?_ ?_
       ·intro wq hq hzq
        refine GObl_det rfl rfl rfl (GObl_nil ?_)
        refine GEx_q2 (Rq_loadA Tryz.isAgg106 Tryz.sizeOf106 rfl ((hl.chg hq.1 ne_hl_b6).cells _ _ (gB (by omega))) rfl) ?_; first | exact rfl | rfl
       refine GObls_cons ?_ ?_
       ·intro wq hq hzq
        refine GObl_det rfl rfl rfl (GObl_det rfl rfl rfl (GObl_det rfl rfl rfl (GObl_nil ?_)))
        refine GEx_call rfl Tryz.call111 (f111_c _ _ _ _) ?_; first | exact rfl | rfl
       refine GObls_cons ?_ ?_
       ·intro wq hq hzq
        refine GObl_det rfl rfl rfl (GObl_nil ?_)
        refine GEx_q2 (Rq_move rfl) ?_; first | exact rfl | rfl
       refine GObls_cons ?_ ?_
       ·intro wq hq hzq
        refine GObl_det rfl rfl rfl (GObl_nil ?_)
        refine GEx_q2 (Rq_extract rfl rfl) ?_; first | exact rfl | rfl
       refine GObls_cons ?_ ?_
       ·intro wq hq hzq
        refine GObl_det rfl rfl rfl (GObl_nil ?_)
        refine GEx_q2 (Rq_extract rfl rfl) ?_; first | exact rfl | rfl
       refine GObls_cons ?_ ?_
       ·intro wq hq hzq
        refine GObl_det rfl rfl rfl (GObl_nil ?_);exact GEx_stB hq.2 rfl rfl rfl rfl Tryz.sizeOf106 rfl rfl
       exact GObls_nil
      ·intro wa2 hba2 hzz2
       refine GFin_det rfl (GFin_det rfl (GFin_det rfl (GFin_det rfl (GFin_det rfl (GFin_det rfl (GFin_det rfl (GFin_det rfl (GFin_det rfl (GFin_det rfl (GFin_det rfl (GFin_det rfl (GFin_det rfl (GFin_det rfl (GFin_det rfl (GFin_det rfl (GFin_st rfl ?_)))))))))))))))); intro hs2x16 _; replace hs2x16 := id hs2x16;refine GFin_nil ?_
       simp only [List.drop_succ_cons, List.drop_zero]
       replace hb0 := bchg hb0 hba2.1 hle6;refine SG_nil (D_block (D_then (W_seq (W_region ?_))))
       first | refine SG_q (Rq_loadBW (hs2x16) Tryz.isAgg106 Tryz.sizeOf106 rfl rfl) rfl ?_ | refine SG_q (Rq_loadBA (hs2x16) Tryz.isAgg106 Tryz.sizeOf106 rfl rfl rfl) rfl ?_
       refine SG_storeW (hs2x16) rfl rfl rfl rfl Tryz.sizeOf106 rfl rfl ?_;intro ws14x1 hchs14x1 hBs14x1;replace hb0 := bchg hb0 hchs14x1 hle6;clear hs2x16;refine SG_nil ?_;refine D_then ?_;refine W_ret ?_;refine D_bodyR1 rfl rfl (.cellW rfl (hBs14x1) Tryz.isAgg106 Tryz.sizeOf106 rfl) ?_;exact ⟨by rw [cellE, if_neg g25, if_neg g30, if_neg g36, if_neg hc4, if_neg (show ¬ (x.code = 5 ∨ x.code = 6) by omega), if_neg g58]; rfl, hb0⟩
end Go.Proofs.YtphmoebiobjfhaaGreat
