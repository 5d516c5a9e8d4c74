/- Walks of functions, printed by a program of the author. -/
import Derived.Test.YtphmoebiobjfhaaGreatMr
import Derived.Test.YtphmoebiobjfhaaGreatT2
set_option linter.all false
namespace Go.Proofs.YtphmoebiobjfhaaGreat
open Go Go.Mi Go.RowKit
theorem fa92_0 (w : World) (a : Addr) : (Instr.fieldAt 92 (.pointer (some a)) 0).run Tryz.prog w = .ok (.pointer (some (a.add 0))) w := by kernel_rfl
theorem fa92_2 (w : World) (a : Addr) : (Instr.fieldAt 92 (.pointer (some a)) 2).run Tryz.prog w = .ok (.pointer (some (a.add 4))) w := by kernel_rfl
theorem build76_0_4 (v u : Value) (w : World) (hv : one1 v = true) (hu : one1 u = true) : (Instr.build 76 #[(0, v), (4, u)]).run Tryz.prog w = .ok (.agg [v, (.int .i64 0), (.int .i64 0), (.int .i64 0), u].toArray) w := by
 unfold Instr.build
 simp [Sem.run_bind, Tryz.zeroValue76, Tryz.runUnderlying76, Tryz.sizeOf3, Tryz.sizeOf5, Instr.fill, cells_one hv, cells_one hu, Result.andThen, cells_agg]
theorem build119_0_1 (v u : Value) (w : World) (hv : one1 v = true) (hu : one1 u = true) : (Instr.build 119 #[(0, v), (1, u)]).run Tryz.prog w = .ok (.agg [v, u, (.int .u8 0), (.int .i64 0), (.int .i64 0), (.int .i64 0), (.int .i64 0)].toArray) w := by
 unfold Instr.build
 simp [Sem.run_bind, Tryz.zeroValue119, Tryz.runUnderlying119, Tryz.sizeOf3, Tryz.sizeOf4, Tryz.sizeOf76, Instr.fill, cells_one hv, cells_one hu, Result.andThen, cells_agg]
theorem range_split {n x : Nat} (h : x < n) : List.range n = List.range x ++ x :: List.range' (x + 1) (n - (x + 1)) := by
 rw [List.range_eq_range', List.range_eq_range', show n = x + ((n - (x + 1)) + 1) by omega, ← List.range'_append_1, List.range'_succ]; simp; omega
theorem take_range3 {n : Nat} (h : n ≤ 3) : [0, 1, 2].take n = List.range n := by
 rw [show [0, 1, 2] = List.range 3 from rfl, List.take_range, Nat.min_eq_left h]
theorem f74_it {b o bx T : Nat} {y : Ot} {w : World} (hB : Blk w bx [.pointer (some ⟨b, o, none⟩)] T) (hc : Cells w b o (encO y)) : Iter Tryz.prog 74 [.pointer (some ⟨bx, 0, none⟩)] (fun i : Nat => Value.pointer (some ⟨b, o + (1 + i), none⟩)) (List.range (arN y.code)) (fun _ => False) w := by
 intro lp σ J Jx M hJ hJx hM yield s0 h0;have har := arN_le y.code;have hmv : MV (fun i : Nat => Value.pointer (some ⟨b, o + (1 + i), none⟩)) [(fun i : Nat => Value.pointer (some ⟨b, o + (1 + i), none⟩)) 0, (fun i : Nat => Value.pointer (some ⟨b, o + (1 + i), none⟩)) 1, (fun i : Nat => Value.pointer (some ⟨b, o + (1 + i), none⟩)) 2] [0, 1, 2] := .cons (.cons (.cons .nil));have hb0 := Below.refl w.heap.size w;refine calls_of_W Tryz.func74 rfl Tryz.ntmps74 rfl ?_;refine W_seq ?_;refine W_any 18 [[], [0], [1], [], [3], [4], [], [6], [7], [2, 5, 8], [], [10], [11], [12], [13], [9, 14], [15], []] [det [] ?a0_0n1, det [0] ?a0_1n1, det [1] ?a0_2n1, det [] ?a0_3n1, det [3] ?a0_4n1, det [4] ?a0_5n1, det [] ?a0_6n1, det [6] ?a0_7n1, det [7] ?a0_8n1, frs [2, 5, 8] (SlR w.heap.size 1 (fun i => [(fun i : Nat => Value.pointer (some ⟨b, o + (1 + i), none⟩)) i]) [0, 1, 2]), det [] ?a0_10n1, det [10] ?a0_11n1, det [11] ?a0_12n1, det [12] ?a0_13n1, det [13] ?a0_14n1, frs [9, 14] (SlR w.heap.size 1 (fun i => [(fun i : Nat => Value.pointer (some ⟨b, o + (1 + i), none⟩)) i]) (List.range (arN y.code))), det [15] ?a0_16n1, det [] ?a0_17n1] Tryz.mixed (by kernel_rfl) rfl ⟨det_stab _ _, det_stab _ _, det_stab _ _, det_stab _ _, det_stab _ _, det_stab _ _, det_stab _ _, det_stab _ _, det_stab _ _, SlR.stab, det_stab _ _, det_stab _ _, det_stab _ _, det_stab _ _, det_stab _ _, SlR.stab, det_stab _ _, det_stab _ _, trivial⟩ ?_ ?_; rotate_left 16
 ·refine Obls_cons ?_ ?_
  ·intro wq hbq
   refine Obl_nil ?_
   refine Ex_q2 (Rq_loadB ((hB).below (btr hb0 hbq)) Tryz.isAgg113 rfl rfl) ?_; first | exact rfl | rfl
  refine Obls_cons ?_ ?_
  ·intro wq hbq
   refine Obl_det rfl rfl (Obl_nil ?_)
   refine Ex_q2 (Rq_nilCheck rfl) ?_; first | exact rfl | rfl
  refine Obls_cons ?_ ?_
  ·intro wq hbq
   refine Obl_det rfl rfl (Obl_nil ?_)
   refine Ex_q2 (Rq_fieldAddr fa76_1 rfl) ?_; first | exact rfl | rfl
  refine Obls_cons ?_ ?_
  ·intro wq hbq
   refine Obl_nil ?_
   refine Ex_q2 (Rq_loadB ((hB).below (btr hb0 hbq)) Tryz.isAgg113 rfl rfl) ?_; first | exact rfl | rfl
  refine Obls_cons ?_ ?_
  ·intro wq hbq
   refine Obl_det rfl rfl (Obl_nil ?_)
   refine Ex_q2 (Rq_nilCheck rfl) ?_; first | exact rfl | rfl
  refine Obls_cons ?_ ?_
  ·intro wq hbq
   refine Obl_det rfl rfl (Obl_nil ?_)
   refine Ex_q2 (Rq_fieldAddr fa76_2 rfl) ?_; first | exact rfl | rfl
  refine Obls_cons ?_ ?_
  ·intro wq hbq
   refine Obl_nil ?_
   refine Ex_q2 (Rq_loadB ((hB).below (btr hb0 hbq)) Tryz.isAgg113 rfl rfl) ?_; first | exact rfl | rfl
  refine Obls_cons ?_ ?_
  ·intro wq hbq
   refine Obl_det rfl rfl (Obl_nil ?_)
   refine Ex_q2 (Rq_nilCheck rfl) ?_; first | exact rfl | rfl
  refine Obls_cons ?_ ?_
  ·intro wq hbq
   refine Obl_det rfl rfl (Obl_nil ?_)
   refine Ex_q2 (Rq_fieldAddr fa76_3 rfl) ?_; first | exact rfl | rfl
  refine Obls_cons ?_ ?_
  ·intro wq hbq
   refine Obl_det rfl rfl (Obl_det rfl rfl (Obl_det rfl rfl (Obl_nil ?_)));exact Ex_bslice (os := [.tmp 7, .tmp 10, .tmp 13]) (enc := fun i => [(fun i : Nat => Value.pointer (some ⟨b, o + (1 + i), none⟩)) i]) (val := (fun i : Nat => Value.pointer (some ⟨b, o + (1 + i), none⟩))) hbq.size rfl rfl hmv (fun _ => rfl) (fun _ => rfl) Tryz.runUnderlying131 Tryz.sizeOf114 Tryz.zeroValue114 rfl (by decide) (by decide)
  refine Obls_cons ?_ ?_
  ·intro wq hbq
   refine Obl_nil ?_
   refine Ex_q2 (Rq_loadB ((hB).below (btr hb0 hbq)) Tryz.isAgg113 rfl rfl) ?_; first | exact rfl | rfl
  refine Obls_cons ?_ ?_
  ·intro wq hbq
   refine Obl_det rfl rfl (Obl_nil ?_)
   refine Ex_q2 (Rq_nilCheck rfl) ?_; first | exact rfl | rfl
  refine Obls_cons ?_ ?_
  ·intro wq hbq
   refine Obl_det rfl rfl (Obl_nil ?_)
   refine Ex_q2 (Rq_fieldAddr fa76_0 rfl) ?_; first | exact rfl | rfl
  refine Obls_cons ?_ ?_
  ·intro wq hbq
   refine Obl_det rfl rfl (Obl_nil ?_)
   refine Ex_q2 (Rq_load Tryz.isAgg5 rfl (((hc).below (btr hb0 hbq)).cell 0 rfl)) ?_; first | exact rfl | rfl
  refine Obls_cons ?_ ?_
  ·intro wq hbq
   refine Obl_det rfl rfl (Obl_nil ?_)
   refine Ex_call rfl Tryz.call75 (fn_det2 (f75_c _ _) ?_); first | exact rfl | rfl
  refine Obls_cons ?_ ?_
  ·intro wq hbq
   refine Obl_frs rfl rfl ?_; intro v14 lo14 hi14 hle14 hR14;refine Obl_det rfl rfl ?_;refine Obl_nil ?_;exact Ex_sliceH hR14 Tryz.runUnderlying131 Tryz.sizeOf114 rfl rfl (by omega) (by simp; omega) (take_range3 har)
  refine Obls_cons ?_ ?_
  ·intro wq hbq
   refine Obl_frs rfl rfl ?_; intro v20 lo20 hi20 hle20 hR20;refine Obl_nil (Ex_q2 (Rq_len hR20.1 Tryz.runUnderlying131 rfl) ?_)
   show Value.int .i64 ((arN y.code : Nat) : Int) = _
   rw [List.length_range]
  refine Obls_cons ?_ ?_
  ·intro wq hbq
   refine Obl_nil ?_
   refine Ex_q2 (Rq_move rfl) ?_; first | exact rfl | rfl
  exact Obls_nil
 ·intro wa0 hba0
  replace hb0 := btr hb0 hba0;refine Fin_det rfl (Fin_det rfl (Fin_det rfl (Fin_det rfl (Fin_det rfl (Fin_det rfl (Fin_det rfl (Fin_det rfl (Fin_det rfl (Fin_frs rfl ?_))))))))); intro v14 lo14 hi14 hR14 hlB14 hlh14 hhw14 hdj14;refine Fin_det rfl (Fin_det rfl (Fin_det rfl (Fin_det rfl (Fin_det rfl (Fin_frs rfl ?_))))); intro v20 lo20 hi20 hR20 hlB20 hlh20 hhw20 hdj20;refine Fin_det rfl (Fin_det rfl (Fin_nil ?_))
  simp only [List.drop_succ_cons, List.drop_zero]
  refine SG_nil ?_;refine D_then ?_;refine W_block ?_;refine W_loop (α := Nat × σ) (fun x => [(20, v20), (21, .int .i64 (arN y.code : Nat)), (22, .int .i64 x.1), (0, .func (.yield lp) #[] #[])]) (fun x w' => x.1 ≤ arN y.code ∧ J (List.range x.1) x.2 w' ∧ SL w' v20 1 (fun i => [(fun i : Nat => Value.pointer (some ⟨b, o + (1 + i), none⟩)) i]) (List.range (arN y.code)) ∧ w.heap.size ≤ w'.heap.size ∧ ¬ M x.2 (sb v20)) (fun x => arN y.code - x.1) ((0, s0)) (by repeat (first | exact Sub.nil | refine Sub.cons rfl ?_)) ⟨Nat.zero_le _, hJ _ _ _ _ h0 (Chg.of_below _ hb0), hR20.1, hb0.size, fun h => by have := (hM _ _ _ _ h0 h).1; have := hR20.2.1; omega⟩ ?_;clear hb0;rintro x wl0 ⟨hx, h0, hS20, hsz, hnm⟩;have hb0 := Below.refl wl0.heap.size wl0;refine W_seq ?_;refine W_region ?_;refine SG_q (Rq_lss rfl rfl) rfl ?_;refine SG_nil ?_;refine D_then ?_;refine W_seq ?_;refine W_cond rfl ?_ ?_
  ·intro g23
   try simp only [dd] at g23
   have hxi : (List.range (arN y.code))[x.1]? = some x.1 := by rw [List.getElem?_range (by omega)]
   have hlt20 := hS20.lt (by rw [List.length_range]; omega);refine W_skip ?_;refine D_then ?_;refine W_seq ?_;refine W_block ?_;refine W_seq ?_;refine W_region ?_;refine SG_index (hS20) Tryz.runUnderlying131 Tryz.sizeOf114 rfl rfl ?_ ?_ rfl ?_
   ·(try rw [List.length_range]); omega
   ·(try rw [List.length_range]); omega
   intro x24 hx24 hc24;have ex24 := Option.some.inj ((hxi).symm.trans hx24); subst ex24;refine SG_q (Rq_load Tryz.isAgg114 rfl ((hc24).cell 0 rfl)) rfl ?_;refine SG_q (Rq_assign rfl) rfl ?_;refine SG_nil ?_;refine D_then ?_;refine W_seq ?_;refine W_region ?_;refine SG_q (Rq_move rfl) rfl ?_;refine SG_q (Rq_move rfl) rfl ?_;refine SG_yield rfl rfl rfl (yield (List.range x.1) x.1 _ x.2 _ (range_split (by omega)) hsz (hJ _ _ _ _ h0 (Chg.of_below _ hb0))) (fun e w' h => by obtain ⟨b, _, rfl, _⟩ := h; exact ⟨_, rfl⟩) ?_;rintro u28 w28 ⟨b28, s28, e28, hc28, hm28, hjt28, hjf28⟩;obtain rfl := Ending.returned.inj e28;replace hS20 := hS20.chg hc28 (fun _ => hnm);clear hb0;have hb0 := Below.refl w28.heap.size w28;refine SG_q (Rq_not rfl) rfl ?_;refine SG_nil ?_;refine D_then ?_;refine W_cond rfl ?_ ?_
   ·intro g29
    try simp only [dd] at g29
    refine W_ret (D_block_ret (D_then_ret (D_loop_ret ?_)));refine D_block_ret (D_body0 rfl rfl ?_);exact ⟨⟨_, rfl⟩, .inr ⟨_, s28, hjf28 g29⟩⟩
   ·intro g29
    try simp only [dd] at g29
    refine W_skip ?_;refine D_block ?_;refine D_then ?_;refine W_region ?_;refine SG_q (Rq_add rfl rfl (wrap_i64 (by omega) (by omega))) rfl ?_;refine SG_q (Rq_move rfl) rfl ?_;refine SG_nil ?_;refine D_loop ((x.1 + 1, s28)) (by repeat (first | exact Sub.nil | refine Sub.cons rfl ?_)) ⟨by dsimp only; omega, by rw [List.range_succ]; exact hjt28 g29, hS20, by have := hc28.size; omega, fun h => hnm (hm28 _ hlt20 h)⟩ (by omega)
  ·intro g23
   try simp only [dd] at g23
   refine W_exit ?_;refine D_then_exit ?_;refine D_loop_exit ?_;refine D_block_exit ?_;refine D_body0 rfl rfl ?_;exact ⟨⟨_, rfl⟩, .inl ⟨x.2, by rw [show arN y.code = x.1 by omega]; exact h0⟩⟩
theorem eqI3 (a b : Int) (d : Nat) (w : World) : (Op.equalIn (d + 1) 3 (.int .i64 a) (.int .i64 b)).run Tryz.prog w = .ok (decide (a = b)) w := by
 simp [Op.equalIn, Tryz.runUnderlying3, Sem.run_bind, Result.andThen]
 rfl
theorem eqI5 (a b : Int) (d : Nat) (w : World) : (Op.equalIn (d + 1) 5 (.int .u8 a) (.int .u8 b)).run Tryz.prog w = .ok (decide (a = b)) w := by
 simp [Op.equalIn, Tryz.runUnderlying5, Sem.run_bind, Result.andThen]
 rfl
theorem st76 : Tryz.prog.stoodInHeld 76 = false := by kernel_rfl
theorem eg76 : Tryz.prog.eqGuardType Tryz.prog.depth 76 = false := by kernel_rfl
theorem eq76 (x y : Ot) (w : World) : (Op.equal 76 (valO x) (valO y)).run Tryz.prog w = .ok (decide (x = y)) w := by
 unfold Op.equal
 rw [show Op.maxDepth = 9998 + 1 + 1 from rfl]
 unfold Op.equalIn
 obtain ⟨c, a, b, d, n⟩ := x;obtain ⟨c', a', b', d', n'⟩ := y
 by_cases h1 : c = c'
 ·by_cases h2 : a = a'
  ·by_cases h3 : b = b'
   ·by_cases h4 : d = d'
    ·by_cases h5 : n = n'
     ·simp [Tryz.runUnderlying76, valO, encO, Sem.run_bind, st76, Result.andThen, part, Tryz.isAgg3, Tryz.isAgg5, eqI3, eqI5, Ot.mk.injEq, h1, h2, h3, h4, h5]
     ·simp [Tryz.runUnderlying76, valO, encO, Sem.run_bind, st76, Result.andThen, part, Tryz.isAgg3, Tryz.isAgg5, eqI3, eqI5, Ot.mk.injEq, h1, h2, h3, h4, h5]
    ·simp [Tryz.runUnderlying76, valO, encO, Sem.run_bind, st76, Result.andThen, part, Tryz.isAgg3, Tryz.isAgg5, eqI3, eqI5, Ot.mk.injEq, h1, h2, h3, h4]
   ·simp [Tryz.runUnderlying76, valO, encO, Sem.run_bind, st76, Result.andThen, part, Tryz.isAgg3, Tryz.isAgg5, eqI3, eqI5, Ot.mk.injEq, h1, h2, h3]
  ·simp [Tryz.runUnderlying76, valO, encO, Sem.run_bind, st76, Result.andThen, part, Tryz.isAgg3, Tryz.isAgg5, eqI3, eqI5, Ot.mk.injEq, h1, h2]
 ·simp [Tryz.runUnderlying76, valO, encO, Sem.run_bind, st76, Result.andThen, part, Tryz.isAgg3, Tryz.isAgg5, eqI3, eqI5, Ot.mk.injEq, h1]
theorem ck76 (b : Bool) (x : Ot) (w : World) : (Instr.checkKey b 10000 76 (valO x)).run Tryz.prog w = .ok () w := by
 generalize hn : 9998 = n
 rw [show 10000 = n + 1 + 1 by omega];clear hn
 simp [Tryz.runUnderlying76, valO, encO, Sem.run_bind, Result.andThen, part, Tryz.isAgg3, Tryz.isAgg5, Instr.checkKey, Tryz.runUnderlying3, Tryz.runUnderlying5]
theorem key76 : KeyEq Tryz.prog 76 valO := ⟨_, Tryz.runUnderlying76, fun b k w => ck76 b k w, .inr ⟨fun a b => rfl, fun a b w => eq76 a b w⟩⟩
theorem f73_c {vC vO vR vU vT vM : Value} {tr : List Bool} {bs TS : Nat} {w : World} (hSt : Blk w bs [vC, vO, vR, vU, vT, vM] TS) (hT : SL w vT 1 encB tr) {x : Ot} (hb0' : 0 ≤ x.b) (hb1 : x.b < tr.length) (hc0 : 0 ≤ x.c) (hc1 : x.c < tr.length) : Pure Tryz.prog 73 #[.pointer (some ⟨bs, 0, none⟩), valO x] w (.bool (truthB tr x)) := by
 have hxb := getB_some hb0' hb1;have hxc := getB_some hc0 hc1;have hb0 := Below.refl w.heap.size w;refine calls_of_W Tryz.func73 rfl Tryz.ntmps73 rfl ?_;refine W_seq (W_region (SG_box rfl rfl rfl ?_));intro w3 b3 e3 hb3 hz3 hB3
 have hle3 : w.heap.size ≤ b3 := by have := hb0.size; omega
 replace hb0 := btr hb0 hb3;refine SG_q (Rq_assign rfl) rfl ?_;refine SG_nil ?_;refine D_then ?_;refine W_seq ?_;refine W_seq ?_;refine W_region ?_;refine SG_q (Rq_fieldAddr fa76_0 rfl) rfl ?_;refine SG_q (Rq_loadB (hB3) Tryz.isAgg5 rfl rfl) rfl ?_;refine SG_nil ?_;refine D_then ?_;refine W_block ?_;refine W_seq ?_;refine W_seq ?_;refine W_region ?_;refine SG_q (Rq_eql rfl rfl) rfl ?_;refine SG_q (Rq_assign rfl) rfl ?_;refine SG_nil ?_;refine D_then ?_;refine W_or (r := ?rc7n1) rfl ?_ ?_; rotate_left
 ·intro g7 K7
  try simp only [dd] at g7
  refine W_seq ?_;refine W_region ?_;refine SG_q (Rq_eql rfl rfl) rfl ?_;refine SG_q (Rq_assign rfl) rfl ?_;refine SG_nil ?_;refine D_then ?_;refine W_or (r := ?rc7n2) rfl ?_ ?_; rotate_left
  ·intro g7i K7i
   try simp only [dd] at g7i
   refine W_seq ?_;refine W_region ?_;refine SG_q (Rq_eql rfl rfl) rfl ?_;refine SG_q (Rq_assign rfl) rfl ?_;refine SG_nil ?_;refine D_then ?_;refine W_or (r := ?rc7n3) rfl ?_ ?_; rotate_left
   ·intro g7ii K7ii
    try simp only [dd] at g7ii
    refine W_seq ?_;refine W_region ?_;refine SG_q (Rq_eql rfl rfl) rfl ?_;refine SG_q (Rq_assign rfl) rfl ?_;refine SG_nil ?_;refine D_then ?_;refine W_or (r := ?rc7n4) rfl ?_ ?_; rotate_left
    ·intro g7iii K7iii
     try simp only [dd] at g7iii
     refine W_region (SG_q (Rq_eql rfl rfl) rfl (SG_q (Rq_assign rfl) rfl (SG_nil ?_)));exact K7iii _ (by repeat (first | exact Sub.refl | refine Sub.shadow ?_ | refine Sub.same ?_ | refine Sub.push rfl ?_))
    exact K7ii _ (by repeat (first | exact Sub.refl | refine Sub.shadow ?_ | refine Sub.same ?_ | refine Sub.push rfl ?_))
   exact K7i _ (by repeat (first | exact Sub.refl | refine Sub.shadow ?_ | refine Sub.same ?_ | refine Sub.push rfl ?_))
  exact K7 _ (by repeat (first | exact Sub.refl | refine Sub.shadow ?_ | refine Sub.same ?_ | refine Sub.push rfl ?_))
 refine D_then ?_;refine W_cond rfl ?_ ?_
 ·intro g7
  try simp only [dd] at g7
  refine W_seq (W_region (SG_q (Rq_assign rfl) rfl (SG_nil (D_then (W_ret (D_block_ret (D_then_ret (D_body1 rfl rfl rfl ?_))))))));exact ⟨by rw [truthB, if_pos (by omega)], hb0⟩
 ·intro g7
  try simp only [dd] at g7
  refine W_seq (W_region (SG_q (Rq_eql rfl rfl) rfl (SG_q (Rq_assign rfl) rfl (SG_nil (D_then ?_)))));refine W_cond rfl ?_ ?_
  ·intro g13
   try simp only [dd] at g13
   refine W_seq ?_;refine W_region ?_;refine SG_q (Rq_fieldAddr fa76_4 rfl) rfl ?_;refine SG_q (Rq_loadB (hB3) Tryz.isAgg3 rfl rfl) rfl ?_;refine SG_q (Rq_eql rfl rfl) rfl ?_;refine SG_q (Rq_move rfl) rfl ?_;refine SG_or (r := ?r18n5) 4 22 18 rfl ?_ ?_ ?_; rotate_left
   ·intro g18 K18
    have g18' := g18; try simp only [dd] at g18'
    have hm18 := Below.refl (w3).heap.size w3;refine SG_yes 18 rfl rfl g18 (SG_q (Rq_fieldAddr fa76_4 rfl) rfl (SG_yes 18 rfl rfl g18 (SG_q (Rq_loadB (hB3) Tryz.isAgg3 rfl rfl) rfl (SG_yes 18 rfl rfl g18 (SG_q (Rq_eql rfl rfl) rfl (SG_q (Rq_pick rfl (fun h => absurd (g18.symm.trans h) (by decide)) (fun _ => rfl)) rfl ?_))))));exact K18 _ _ hm18 (by repeat (first | exact Sub.refl | refine Sub.shadow ?_ | refine Sub.same ?_ | refine Sub.push rfl ?_))
   ·intro g18 K18
    have g18' := g18; try simp only [dd] at g18'
    have hm18 := Below.refl (w3).heap.size w3;refine SG_no 18 rfl rfl g18 rfl (SG_no 18 rfl rfl g18 rfl (SG_no 18 rfl rfl g18 rfl (SG_q (Rq_pick rfl (fun _ => rfl) (fun h => absurd (g18.symm.trans h) (by decide))) rfl ?_)));exact K18 _ _ hm18 (by repeat (first | exact Sub.refl | refine Sub.shadow ?_ | refine Sub.same ?_ | refine Sub.push rfl ?_))
   intro wm18 hbm18;replace hb0 := btr hb0 hbm18
   simp only [List.drop_succ_cons, List.drop_zero]
   refine SG_q (Rq_assign rfl) rfl (SG_nil (D_then (W_ret (D_block_ret (D_then_ret (D_body1 rfl rfl rfl ?_))))));exact ⟨by rw [truthB, if_neg (by omega), if_pos g13], hb0⟩
  ·intro g13
   try simp only [dd] at g13
   refine W_seq ?_;refine W_seq ?_;refine W_region ?_;refine SG_q (Rq_eql rfl rfl) rfl ?_;refine SG_q (Rq_assign rfl) rfl ?_;refine SG_nil ?_;refine D_then ?_;refine W_or (r := ?rc23n6) rfl ?_ ?_; rotate_left
   ·intro g23 K23
    try simp only [dd] at g23
    refine W_region (SG_q (Rq_eql rfl rfl) rfl (SG_q (Rq_assign rfl) rfl (SG_nil ?_)));exact K23 _ (by repeat (first | exact Sub.refl | refine Sub.shadow ?_ | refine Sub.same ?_ | refine Sub.push rfl ?_))
   refine D_then ?_;refine W_cond rfl ?_ ?_
   ·intro g23
    try simp only [dd] at g23
    refine W_seq (W_quiet (Tryz.mixed) (by kernel_rfl) ?_);refine QS_q (Rq_move rfl) rfl (QS_q (Rq_nilCheck rfl) rfl (QS_q (Rq_fieldAddr fa92_2 rfl) rfl (QS_q (Rq_loadB ((hSt).below hb0) Tryz.isAgg54 rfl rfl) rfl (QS_q (Rq_fieldAddr fa76_2 rfl) rfl (QS_q (Rq_loadB (hB3) Tryz.isAgg3 rfl rfl) rfl ?_)))));refine QS_index ((hT).below hb0) Tryz.runUnderlying54 Tryz.sizeOf4 rfl rfl ?_ ?_ rfl ?_
    ·omega
    ·omega
    intro x32 hx32 hc32;have ex32 := Option.some.inj ((hxb).symm.trans hx32); subst ex32;refine QS_q (Rq_load Tryz.isAgg4 rfl ((hc32).cell 0 rfl)) rfl (QS_q (Rq_assign rfl) rfl (QS_nil ?_));intro wr12 hbr12;replace hb0 := btr hb0 hbr12;refine D_then (W_ret (D_block_ret (D_then_ret (D_body1 rfl rfl rfl ?_))));exact ⟨by rw [truthB, if_neg (by omega), if_neg g13, if_pos (by omega)], hb0⟩
   ·intro g23
    try simp only [dd] at g23
    refine W_seq (W_region (SG_q (Rq_eql rfl rfl) rfl (SG_q (Rq_assign rfl) rfl (SG_nil (D_then ?_)))));refine W_cond rfl ?_ ?_
    ·intro g34
     try simp only [dd] at g34
     refine W_seq (W_quiet (Tryz.mixed) (by kernel_rfl) ?_);refine QS_q (Rq_move rfl) rfl (QS_q (Rq_nilCheck rfl) rfl (QS_q (Rq_fieldAddr fa92_2 rfl) rfl (QS_q (Rq_loadB ((hSt).below hb0) Tryz.isAgg54 rfl rfl) rfl (QS_q (Rq_fieldAddr fa76_2 rfl) rfl (QS_q (Rq_loadB (hB3) Tryz.isAgg3 rfl rfl) rfl ?_)))));refine QS_index ((hT).below hb0) Tryz.runUnderlying54 Tryz.sizeOf4 rfl rfl ?_ ?_ rfl ?_
     ·omega
     ·omega
     intro x42 hx42 hc42;have ex42 := Option.some.inj ((hxb).symm.trans hx42); subst ex42;refine QS_q (Rq_load Tryz.isAgg4 rfl ((hc42).cell 0 rfl)) rfl ?_;refine QS_q (Rq_move rfl) rfl ?_;refine QS_and (r := ?r44n7) 9 53 44 rfl ?_ ?_ ?_; rotate_left
     ·intro g44 K44
      have g44' := g44; try simp only [dd] at g44'
      refine QS_yes 44 rfl rfl g44 (QS_q (Rq_move rfl) rfl (QS_yes 44 rfl rfl g44 (QS_q (Rq_nilCheck rfl) rfl (QS_yes 44 rfl rfl g44 (QS_q (Rq_fieldAddr fa92_2 rfl) rfl (QS_yes 44 rfl rfl g44 (QS_q (Rq_loadB ((hSt).below hb0) Tryz.isAgg54 rfl rfl) rfl (QS_yes 44 rfl rfl g44 (QS_q (Rq_fieldAddr fa76_3 rfl) rfl (QS_yes 44 rfl rfl g44 (QS_q (Rq_loadB (hB3) Tryz.isAgg3 rfl rfl) rfl (QS_yes 44 rfl rfl g44 ?_))))))))))));refine QS_index ((hT).below hb0) Tryz.runUnderlying54 Tryz.sizeOf4 rfl rfl ?_ ?_ rfl ?_
      ·omega
      ·omega
      intro x51 hx51 hc51;have ex51 := Option.some.inj ((hxc).symm.trans hx51); subst ex51;refine QS_yes 44 rfl rfl g44 (QS_q (Rq_load Tryz.isAgg4 rfl ((hc51).cell 0 rfl)) rfl (QS_q (Rq_pick rfl (fun _ => rfl) (fun h => absurd (g44.symm.trans h) (by decide))) rfl ?_));exact K44 _ (by repeat (first | exact Sub.refl | refine Sub.shadow ?_ | refine Sub.same ?_ | refine Sub.push rfl ?_))
     ·intro g44 K44
      have g44' := g44; try simp only [dd] at g44'
      refine QS_no 44 rfl rfl g44 rfl (QS_no 44 rfl rfl g44 rfl (QS_no 44 rfl rfl g44 rfl (QS_no 44 rfl rfl g44 rfl (QS_no 44 rfl rfl g44 rfl (QS_no 44 rfl rfl g44 rfl (QS_no 44 rfl rfl g44 rfl (QS_no 44 rfl rfl g44 rfl (QS_q (Rq_pick rfl (fun h => absurd (g44.symm.trans h) (by decide)) (fun _ => rfl)) rfl ?_))))))));exact K44 _ (by repeat (first | exact Sub.refl | refine Sub.shadow ?_ | refine Sub.same ?_ | refine Sub.push rfl ?_))
     simp only [List.drop_succ_cons, List.drop_zero]
     refine QS_q (Rq_assign rfl) rfl (QS_nil ?_);intro wr14 hbr14;replace hb0 := btr hb0 hbr14;refine D_then (W_ret (D_block_ret (D_then_ret (D_body1 rfl rfl rfl ?_))));exact ⟨by rw [truthB, if_neg (by omega), if_neg g13, if_neg (by omega), if_pos g34], hb0⟩
    ·intro g34
     try simp only [dd] at g34
     refine W_skip (D_block (D_then (W_seq (W_region (SG_q (Rq_assign rfl) rfl (SG_nil (D_then (W_ret (D_body1 rfl rfl rfl ?_)))))))));exact ⟨by rw [truthB, if_neg (by omega), if_neg g13, if_neg (by omega), if_neg g34], hb0⟩
theorem f115_c (n : Int) (w : World) : Pure Tryz.prog 115 #[.int .i64 n] w (valOc (stand n)) := by
 have hb0 := Below.refl w.heap.size w;refine calls_of_W Tryz.func115 rfl Tryz.ntmps115 rfl ?_;refine W_seq (W_region (SG_alloc Tryz.zeroValue119 rfl rfl ?_));intro w2 b2 e2 hb2 hz2 hB2
 have hle2 : w.heap.size ≤ b2 := by have := hb0.size; omega
 replace hb0 := btr hb0 hb2;refine SG_nil (D_then (W_seq (W_region (SG_q (Rq_move rfl) rfl (SG_q (Rq_build2 build119_0_1 rfl rfl rfl rfl ) rfl (SG_storeW (hB2) rfl rfl rfl rfl Tryz.sizeOf119 rfl rfl ?_))))));intro ws1x2 hchs1x2 hBs1x2;replace hb0 := bchg hb0 hchs1x2 hle2;clear hB2;refine SG_nil (D_then (W_ret (D_bodyR1 rfl rfl (.cellW rfl (hBs1x2) Tryz.isAgg119 Tryz.sizeOf119 rfl) ?_)));exact ⟨rfl, hb0⟩
theorem build119_A (x : Ot) (w : World) : (Instr.build 119 #[(0, .bool true), (1, .int .i64 (-1)), (2, valO x)]).run Tryz.prog w = .ok (valOc (becomeO x)) w := by
 unfold Instr.build
 simp [Sem.run_bind, Tryz.zeroValue119, Tryz.runUnderlying119, Tryz.sizeOf3, Tryz.sizeOf4, Tryz.sizeOf76, Instr.fill, Value.cells, valO, encO, valOc, encOc, becomeO, Result.andThen]
theorem f114_c (x : Ot) (w : World) : Pure Tryz.prog 114 #[valO x] w (valOc (becomeO x)) := by
 have hb0 := Below.refl w.heap.size w;refine calls_of_W Tryz.func114 rfl Tryz.ntmps114 rfl ?_;refine W_seq (W_region (SG_box rfl rfl rfl ?_));intro w1 b1 e1 hb1 hz1 hB1
 have hle1 : w.heap.size ≤ b1 := by have := hb0.size; omega
 replace hb0 := btr hb0 hb1;refine SG_alloc Tryz.zeroValue119 rfl rfl ?_;intro w2 b2 e2 hb2 hz2 hB2
 have hle2 : w.heap.size ≤ b2 := by have := hb0.size; omega
 have ne_b1_2 : ¬ b1 = b2 := by have := hB1.lt; omega
 replace hb0 := btr hb0 hb2;replace hB1 := hB1.below hb2;refine SG_nil (D_then (W_seq (W_region ?_)))
 first | refine SG_q (Rq_loadBW (hB1) Tryz.isAgg76 Tryz.sizeOf76 rfl rfl) rfl ?_ | refine SG_q (Rq_loadBA (hB1) Tryz.isAgg76 Tryz.sizeOf76 rfl rfl rfl) rfl ?_
 refine SG_q (Rq_build3G (build119_A x) rfl rfl rfl) rfl (SG_storeW (hB2) rfl rfl rfl rfl Tryz.sizeOf119 rfl rfl ?_);intro ws1x2 hchs1x2 hBs1x2;replace hb0 := bchg hb0 hchs1x2 hle2;clear hB2;refine SG_nil (D_then (W_ret (D_bodyR1 rfl rfl (.cellW rfl (hBs1x2) Tryz.isAgg119 Tryz.sizeOf119 rfl) ?_)));exact ⟨rfl, hb0⟩
theorem f117_c {vC vO vR vU vT vM : Value} {ops : List Ot} {bs TS : Nat} {w : World} (hSt : Blk w bs [vC, vO, vR, vU, vT, vM] TS) (hO : SL w vO 5 encO ops) {a : Int} (ha0 : 0 ≤ a) (ha1 : a < ops.length) (n : Int) : Pure Tryz.prog 117 #[.pointer (some ⟨bs, 0, none⟩), .int .i64 a, .int .i64 n] w (.bool (isR ops a n)) := by
 have hxa := getO_some ha0 ha1;have hb0 := Below.refl w.heap.size w;refine calls_of_W Tryz.func117 rfl Tryz.ntmps117 rfl ?_;refine W_seq (W_region (SG_q (Rq_assign rfl) rfl (SG_nil (D_then (W_seq (W_region (SG_q (Rq_move rfl) rfl (SG_q (Rq_nilCheck rfl) rfl (SG_q (Rq_fieldAddr fa92_0 rfl) rfl (SG_q (Rq_fieldAddr fa26_1 rfl) rfl (SG_q (Rq_loadB ((hSt).below hb0) Tryz.isAgg23 rfl rfl) rfl (SG_q (Rq_move rfl) rfl ?_))))))))))));refine SG_index ((hO).below hb0) Tryz.runUnderlying23 Tryz.sizeOf76 rfl rfl ?_ ?_ rfl ?_
 ·omega
 ·omega
 intro x13 hx13 hc13;have ex13 := Option.some.inj ((hxa).symm.trans hx13); subst ex13;refine SG_q (Rq_loadA Tryz.isAgg76 Tryz.sizeOf76 rfl ((hc13)) rfl) rfl (SG_q (Rq_move rfl) rfl (SG_q (Rq_build2 build76_0_4 rfl rfl rfl rfl ) rfl (SG_q (Rq_eqlS (fun w => eq76 _ ⟨1, 0, 0, 0, n⟩ w) eg76 rfl rfl) rfl (SG_q (Rq_assign rfl) rfl (SG_nil (D_then (W_ret (D_body1 rfl rfl rfl ?_))))))));exact ⟨rfl, hb0⟩
theorem f113_c {vC vO vR vU vT vM : Value} {ops : List Ot} {bs TS : Nat} {w : World} (hSt : Blk w bs [vC, vO, vR, vU, vT, vM] TS) (hO : SL w vO 5 encO ops) {a : Int} (ha0 : 0 ≤ a) (ha1 : a < ops.length) (hf : (getO ops a).code = 2 → 1 ≤ (getO ops a).n ∧ (getO ops a).n ≤ 4) : Pure Tryz.prog 113 #[.pointer (some ⟨bs, 0, none⟩), .int .i64 a] w (.tuple #[valV (cellR (getO ops a)).1, .bool (cellR (getO ops a)).2]) := by
 have hxa := getO_some ha0 ha1;have hb0 := Below.refl w.heap.size w;refine calls_of_W Tryz.func113 rfl Tryz.ntmps113 rfl ?_;refine W_seq (W_region (SG_alloc Tryz.zeroValue106 rfl rfl ?_));intro w4 b4 e4 hb4 hz4 hB4
 have hle4 : w.heap.size ≤ b4 := by have := hb0.size; omega
 replace hb0 := btr hb0 hb4;refine SG_q (Rq_assign rfl) rfl (SG_nil (D_then (W_seq (W_seq (W_region (SG_q (Rq_move rfl) rfl (SG_q (Rq_nilCheck rfl) rfl (SG_q (Rq_fieldAddr fa92_0 rfl) rfl (SG_q (Rq_fieldAddr fa26_1 rfl) rfl (SG_q (Rq_loadB ((hSt).below hb0) Tryz.isAgg23 rfl rfl) rfl (SG_q (Rq_move rfl) rfl ?_)))))))))));refine SG_index ((hO).below hb0) Tryz.runUnderlying23 Tryz.sizeOf76 rfl rfl ?_ ?_ rfl ?_
 ·omega
 ·omega
 intro x13 hx13 hc13;have ex13 := Option.some.inj ((hxa).symm.trans hx13); subst ex13;refine SG_q (Rq_loadA Tryz.isAgg76 Tryz.sizeOf76 rfl ((hc13)) rfl) rfl (SG_alloc Tryz.zeroValue76 rfl rfl ?_);intro w6 b6 e6 hb6 hz6 hB6
 have hle6 : w.heap.size ≤ b6 := by have := hb0.size; omega
 have ne_b4_6 : ¬ b4 = b6 := by have := hB4.lt; omega
 replace hb0 := btr hb0 hb6;replace hB4 := hB4.below hb6;refine SG_storeW (hB6) rfl rfl rfl rfl Tryz.sizeOf76 rfl rfl ?_;intro ws1x9 hchs1x9 hBs1x9;replace hb0 := bchg hb0 hchs1x9 hle6;replace hB4 := hB4.chg hchs1x9 ne_b4_6;clear hc13;clear hB6;refine SG_nil (D_then (W_seq (W_region (SG_q (Rq_fieldAddr fa76_0 rfl) rfl (SG_q (Rq_loadB (hBs1x9) Tryz.isAgg5 rfl rfl) rfl (SG_nil (D_then (W_block (W_seq (W_region (SG_q (Rq_eql rfl rfl) rfl (SG_q (Rq_assign rfl) rfl (SG_nil (D_then ?_))))))))))))));refine W_cond rfl ?_ ?_
 ·intro g17
  try simp only [dd] at g17
  refine W_seq ?_;refine W_region ?_;refine SG_q (Rq_fieldAddr fa76_4 rfl) rfl ?_;refine SG_q (Rq_loadB (hBs1x9) Tryz.isAgg3 rfl rfl) rfl ?_;refine SG_pure rfl Tryz.call108 rfl (f108_c _ _) ?_;intro w21 hb21;replace hb0 := btr hb0 hb21;replace hB4 := hB4.below hb21;refine SG_storeW (hB4) rfl rfl rfl rfl Tryz.sizeOf106 rfl rfl ?_;intro ws4x3 hchs4x3 hBs4x3;replace hb0 := bchg hb0 hchs4x3 hle4;clear hB4;refine SG_q (Rq_assign rfl) rfl ?_;refine SG_nil ?_;refine D_then ?_;refine W_ret ?_;refine D_block_ret ?_;refine D_then_ret ?_;refine D_bodyR2 rfl rfl (.cellW rfl (hBs4x3) Tryz.isAgg106 Tryz.sizeOf106 rfl) (.tmp rfl) ?_;exact ⟨by rw [cellR, if_pos g17]; rfl, hb0⟩
 ·intro g17
  try simp only [dd] at g17
  refine W_seq (W_region (SG_q (Rq_eql rfl rfl) rfl (SG_q (Rq_assign rfl) rfl (SG_nil (D_then ?_)))));refine W_cond rfl ?_ ?_
  ·intro g22
   try simp only [dd] at g22
   have hf2 := hf g22;refine W_seq ?_;refine W_region ?_;refine SG_q (Rq_fieldAddr fa76_4 rfl) rfl ?_;refine SG_q (Rq_loadB (hBs1x9) Tryz.isAgg3 rfl rfl) rfl ?_;refine SG_q (Rq_convert Tryz.runUnderlying3 Tryz.runUnderlying5 rfl (wrap_u8 (by omega) (by omega))) rfl ?_;refine SG_q (Rq_build1 build106_0 rfl rfl ) rfl ?_;refine SG_storeW (hB4) rfl rfl rfl rfl Tryz.sizeOf106 rfl rfl ?_;intro ws6x4 hchs6x4 hBs6x4;replace hb0 := bchg hb0 hchs6x4 hle4;clear hB4;refine SG_q (Rq_assign rfl) rfl ?_;refine SG_nil ?_;refine D_then ?_;refine W_ret ?_;refine D_block_ret ?_;refine D_then_ret ?_;refine D_bodyR2 rfl rfl (.cellW rfl (hBs6x4) Tryz.isAgg106 Tryz.sizeOf106 rfl) (.tmp rfl) ?_;exact ⟨by rw [cellR, if_neg g17, if_pos g22]; rfl, hb0⟩
  ·intro g22
   try simp only [dd] at g22
   refine W_skip (D_block (D_then (W_seq (W_region ?_))))
   first | refine SG_q (Rq_loadBW (hB4) Tryz.isAgg106 Tryz.sizeOf106 rfl rfl) rfl ?_ | refine SG_q (Rq_loadBA (hB4) Tryz.isAgg106 Tryz.sizeOf106 rfl rfl rfl) rfl ?_
   refine SG_storeW (hB4) rfl rfl rfl rfl Tryz.sizeOf106 rfl rfl ?_;intro ws7x1 hchs7x1 hBs7x1;replace hb0 := bchg hb0 hchs7x1 hle4;clear hB4;refine SG_q (Rq_assign rfl) rfl ?_;refine SG_nil ?_;refine D_then ?_;refine W_ret ?_;refine D_bodyR2 rfl rfl (.cellW rfl (hBs7x1) Tryz.isAgg106 Tryz.sizeOf106 rfl) (.tmp rfl) ?_;exact ⟨by rw [cellR, if_neg g17, if_neg g22]; rfl, hb0⟩
theorem f116_c {vC vO vR vU vT vM : Value} {ops : List Ot} {bs TS : Nat} {w : World} (hSt : Blk w bs [vC, vO, vR, vU, vT, vM] TS) (hO : SL w vO 5 encO ops) (hW : ∀ j : Int, 0 ≤ j → j < ops.length → Bd ops.length (getO ops j)) {i : Int} (hi0 : 0 ≤ i) (hi1 : i < ops.length) {x : Ot} (hx : getO ops i = x) (code : Int) : Pure Tryz.prog 116 #[.pointer (some ⟨bs, 0, none⟩), .int .i64 i, .int .u8 code] w (.tuple #[valO x, .bool (knownR ops x code).1, .bool (knownR ops x code).2]) := by
 have hxi := getO_some hi0 hi1;have hbd := hW i hi0 hi1;rw [hx] at hxi hbd;have hxa := getO_some hbd.a0 hbd.a1;have hxb := getO_some hbd.b0 hbd.b1;have hxc := getO_some hbd.c0 hbd.c1;have hba := hbd.a0;have hba1 := hbd.a1;have hbb := hbd.b0;have hbb1 := hbd.b1;have hbc := hbd.c0;have hbc1 := hbd.c1;have hb0 := Below.refl w.heap.size w;refine calls_of_W Tryz.func116 rfl Tryz.ntmps116 rfl ?_;refine W_seq (W_region (SG_alloc Tryz.zeroValue76 rfl rfl ?_));intro w6 b6 e6 hb6 hz6 hB6
 have hle6 : w.heap.size ≤ b6 := by have := hb0.size; omega
 replace hb0 := btr hb0 hb6;refine SG_q (Rq_assign rfl) rfl (SG_q (Rq_assign rfl) rfl (SG_nil (D_then (W_seq (W_region (SG_q (Rq_move rfl) rfl (SG_q (Rq_nilCheck rfl) rfl (SG_q (Rq_fieldAddr fa92_0 rfl) rfl (SG_q (Rq_fieldAddr fa26_1 rfl) rfl (SG_q (Rq_loadB ((hSt).below hb0) Tryz.isAgg23 rfl rfl) rfl (SG_q (Rq_move rfl) rfl ?_)))))))))));refine SG_index ((hO).below hb0) Tryz.runUnderlying23 Tryz.sizeOf76 rfl rfl ?_ ?_ rfl ?_
 ·omega
 ·omega
 intro x15 hx15 hc15;have ex15 := Option.some.inj ((hxi).symm.trans hx15); subst ex15;refine SG_q (Rq_loadA Tryz.isAgg76 Tryz.sizeOf76 rfl ((hc15)) rfl) rfl ?_;refine SG_storeW (hB6) rfl rfl rfl rfl Tryz.sizeOf76 rfl rfl ?_;intro ws1x8 hchs1x8 hBs1x8;replace hb0 := bchg hb0 hchs1x8 hle6;clear hc15;clear hB6;refine SG_nil ?_;refine D_then ?_;refine W_seq ?_;refine W_seq ?_;refine W_quiet (Tryz.mixed) (by kernel_rfl) ?_;refine QS_q (Rq_fieldAddr fa76_0 rfl) rfl ?_;refine QS_q (Rq_loadB (hBs1x8) Tryz.isAgg5 rfl rfl) rfl ?_;refine QS_q (Rq_move rfl) rfl ?_;refine QS_q (Rq_neq rfl rfl) rfl ?_;refine QS_q (Rq_move rfl) rfl ?_;refine QS_or (r := ?r21n1) 12 33 21 rfl ?_ ?_ ?_; rotate_left
 ·intro g21 K21
  have g21' := g21; try simp only [dd] at g21'
  refine QS_yes 21 rfl rfl g21 (QS_q (Rq_move rfl) rfl (QS_yes 21 rfl rfl g21 (QS_q (Rq_nilCheck rfl) rfl (QS_yes 21 rfl rfl g21 (QS_q (Rq_fieldAddr fa92_0 rfl) rfl (QS_yes 21 rfl rfl g21 (QS_q (Rq_fieldAddr fa26_1 rfl) rfl (QS_yes 21 rfl rfl g21 (QS_q (Rq_loadB ((hSt).below hb0) Tryz.isAgg23 rfl rfl) rfl (QS_yes 21 rfl rfl g21 (QS_q (Rq_fieldAddr fa76_1 rfl) rfl (QS_yes 21 rfl rfl g21 (QS_q (Rq_loadB (hBs1x8) Tryz.isAgg3 rfl rfl) rfl (QS_yes 21 rfl rfl g21 ?_))))))))))))));refine QS_index ((hO).below hb0) Tryz.runUnderlying23 Tryz.sizeOf76 rfl rfl ?_ ?_ rfl ?_
  ·omega
  ·omega
  intro x29 hx29 hc29;have ex29 := Option.some.inj ((hxa).symm.trans hx29); subst ex29;refine QS_yes 21 rfl rfl g21 (QS_q (Rq_fieldAddr fa76_0 rfl) rfl (QS_yes 21 rfl rfl g21 (QS_q (Rq_load Tryz.isAgg5 rfl ((hc29).cell 0 rfl)) rfl (QS_yes 21 rfl rfl g21 (QS_q (Rq_neq rfl rfl) rfl (QS_q (Rq_pick rfl (fun h => absurd (g21.symm.trans h) (by decide)) (fun _ => rfl)) rfl ?_))))));exact K21 _ (by repeat (first | exact Sub.refl | refine Sub.shadow ?_ | refine Sub.same ?_ | refine Sub.push rfl ?_))
 ·intro g21 K21
  have g21' := g21; try simp only [dd] at g21'
  refine QS_no 21 rfl rfl g21 rfl (QS_no 21 rfl rfl g21 rfl (QS_no 21 rfl rfl g21 rfl (QS_no 21 rfl rfl g21 rfl (QS_no 21 rfl rfl g21 rfl (QS_no 21 rfl rfl g21 rfl (QS_no 21 rfl rfl g21 rfl (QS_no 21 rfl rfl g21 rfl (QS_no 21 rfl rfl g21 rfl (QS_no 21 rfl rfl g21 rfl (QS_no 21 rfl rfl g21 rfl (QS_q (Rq_pick rfl (fun _ => rfl) (fun h => absurd (g21.symm.trans h) (by decide))) rfl ?_)))))))))));exact K21 _ (by repeat (first | exact Sub.refl | refine Sub.shadow ?_ | refine Sub.same ?_ | refine Sub.push rfl ?_))
 simp only [List.drop_succ_cons, List.drop_zero]
 refine QS_nil ?_;intro wr2 hbr2;replace hb0 := btr hb0 hbr2;replace hBs1x8 := hBs1x8.below hbr2;refine D_then ?_;refine W_cond rfl ?_ ?_
 ·intro g33
  try simp only [dd] at g33
  refine W_seq (W_region ?_)
  first | refine SG_q (Rq_loadBW (hBs1x8) Tryz.isAgg76 Tryz.sizeOf76 rfl rfl) rfl ?_ | refine SG_q (Rq_loadBA (hBs1x8) Tryz.isAgg76 Tryz.sizeOf76 rfl rfl rfl) rfl ?_
  refine SG_storeW (hBs1x8) rfl rfl rfl rfl Tryz.sizeOf76 rfl rfl ?_;intro ws3x1 hchs3x1 hBs3x1;replace hb0 := bchg hb0 hchs3x1 hle6;clear hBs1x8;refine SG_q (Rq_assign rfl) rfl ?_;refine SG_q (Rq_assign rfl) rfl ?_;refine SG_nil ?_;refine D_then ?_;refine W_ret ?_;refine D_then_ret ?_;refine D_bodyR3 rfl rfl (.cellW rfl (hBs3x1) Tryz.isAgg76 Tryz.sizeOf76 rfl) (.tmp rfl) (.tmp rfl) ?_;exact ⟨by rw [knownR, if_pos g33]; rfl, hb0⟩
 ·intro g33
  try simp only [dd] at g33
  refine W_skip (D_then (W_seq (W_quiet (Tryz.mixed) (by kernel_rfl) ?_)))
  first | refine QS_q (Rq_loadBW (hBs1x8) Tryz.isAgg76 Tryz.sizeOf76 rfl rfl) rfl ?_ | refine QS_q (Rq_loadBA (hBs1x8) Tryz.isAgg76 Tryz.sizeOf76 rfl rfl rfl) rfl ?_
  refine QS_q (Rq_move rfl) rfl (QS_q (Rq_nilCheck rfl) rfl (QS_q (Rq_fieldAddr fa92_0 rfl) rfl (QS_q (Rq_fieldAddr fa26_1 rfl) rfl (QS_q (Rq_loadB ((hSt).below hb0) Tryz.isAgg23 rfl rfl) rfl (QS_q (Rq_fieldAddr fa76_1 rfl) rfl (QS_q (Rq_loadB (hBs1x8) Tryz.isAgg3 rfl rfl) rfl ?_))))));refine QS_index ((hO).below hb0) Tryz.runUnderlying23 Tryz.sizeOf76 rfl rfl ?_ ?_ rfl ?_
  ·omega
  ·omega
  intro x43 hx43 hc43;have ex43 := Option.some.inj ((hxa).symm.trans hx43); subst ex43;refine QS_q (Rq_fieldAddr fa76_4 rfl) rfl ?_;refine QS_q (Rq_load Tryz.isAgg3 rfl ((hc43).cell 4 rfl)) rfl ?_;refine QS_q (Rq_neq rfl rfl) rfl ?_;refine QS_storeSame (hBs1x8) rfl rfl rfl rfl Tryz.sizeOf76 rfl ?_;refine QS_q (Rq_assign rfl) rfl ?_;refine QS_q (Rq_assign rfl) rfl ?_;refine QS_nil ?_;intro wr4 hbr4;replace hb0 := btr hb0 hbr4;replace hBs1x8 := hBs1x8.below hbr4;refine D_then ?_;refine W_ret ?_;refine D_bodyR3 rfl rfl (.cellW rfl (hBs1x8) Tryz.isAgg76 Tryz.sizeOf76 rfl) (.tmp rfl) (.tmp rfl) ?_;exact ⟨by rw [knownR, if_neg (by omega)]; rfl, hb0⟩
end Go.Proofs.YtphmoebiobjfhaaGreat
