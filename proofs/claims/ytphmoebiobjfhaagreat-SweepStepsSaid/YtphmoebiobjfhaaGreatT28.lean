/- Walks of functions, printed by a program of the author. -/
import Derived.Test.YtphmoebiobjfhaaGreatT27
set_option linter.all false
namespace Go.Proofs.YtphmoebiobjfhaaGreat
open Go Go.Mi Go.RowKit Tryz Go.Proofs.Tryz
theorem build95_ (w : World) : (Instr.build 95 #[]).run prog w = .ok (.agg [(.int .i64 0), (.int .u8 0), (.int .i64 0), (.int .i64 0), (.int .i64 0), (.int .i64 0)].toArray) w := by
 unfold Instr.build
 simp [Sem.run_bind, zeroValue95, runUnderlying95, sizeOf3, sizeOf76, Instr.fill, Result.andThen, qJ]
theorem info106 : (prog.info? 106).map (fun i => (i.zero, i.size, i.bytes)) = some (some (Value.agg #[(Value.int IntKind.u8 0), (Value.int IntKind.i64 0)]), 2, 16) := by kernel_rfl
theorem Zc (n : Int) (x : Ot) (w : World) : (Instr.build 95 #[(0, .int .i64 n), (1, valO x)]).run prog w = .ok (valD ⟨true, n, x⟩) w := by
 unfold Instr.build
 simp [Sem.run_bind, zeroValue95, runUnderlying95, sizeOf76, sizeOf3, Instr.fill, Value.cells, Result.andThen, valO, encO, valD, encD]
set_option maxHeartbeats 2000000 in
theorem f64_c {v : Value} {C : Co} {w : World} (hC : CoS w v C) (hck : checkR C = 0) {x : Ot} {i : Int} (h0 : 0 ≤ i) (h1 : i < C.ops.length) (hx : getO C.ops i = x) (hc1 : 5 ≤ x.code) (hc2 : x.code ≤ 16) : Pure prog 64 #[v, valO x] w (.tuple #[valD (wrkR C.ops x), .bool (wrkR C.ops x).ap]) := by
 obtain ⟨uC, uO, uR, rfl, hu1, hu2, hu3⟩ := hC.ex;have hlo2w := hu2.lt;have hop := jD hck h0 h1;rw [hx] at hop;have hbd := opsOf_bd hck h0 h1;rw [hx] at hbd;have hlen : (opsOf x).length = arN x.code := jN x;have har := arN_case (by omega : 1 ≤ x.code) (by omega);have hb0 := Below.refl w.heap.size w;refine zE func64 rfl ntmps64 rfl ?_;refine zg (za (qe rfl rfl rfl ?_));intro w2 b2 e2 hb2 hz2 hB2
 have hle2 : w.heap.size ≤ b2 := by have := hb0.size; omega
 replace hb0 := btr hb0 hb2;replace hu2 := hu2.below hb2;refine qe rfl rfl rfl ?_;intro w3 b3 e3 hb3 hz3 hB3
 have hle3 : w.heap.size ≤ b3 := by have := hb0.size; omega
 have ne_b2_3 : ¬ b2 = b3 := by have := hB2.lt; omega
 replace hb0 := btr hb0 hb3;replace hu2 := hu2.below hb3;replace hB2 := hB2.below hb3;refine zM zeroValue95 rfl rfl ?_;intro w4 b4 e4 hb4 hz4 hB4
 have hle4 : w.heap.size ≤ b4 := by have := hb0.size; omega
 have ne_b2_4 : ¬ b2 = b4 := by have := hB2.lt; omega
 have ne_b3_4 : ¬ b3 = b4 := by have := hB3.lt; omega
 replace hb0 := btr hb0 hb4;replace hu2 := hu2.below hb4;replace hB2 := hB2.below hb4;replace hB3 := hB3.below hb4;refine SQ (ze rfl) (zd (zb (zg (za ?_))))
 first | refine SQ (zC (hB3) isAgg76 sizeOf76 rfl rfl) ?_ | refine SQ (zD (hB3) isAgg76 sizeOf76 rfl rfl rfl) ?_
 refine qf rfl call46 rfl (f46_c _ _ (qy hop).1.1 (qy hop).1.2.1) ?_;rintro v12 w12 hb12 ⟨hL, _⟩;replace hb0 := btr hb0 hb12;replace hu2 := hu2.below hb12;replace hB2 := hB2.below hb12;replace hB3 := hB3.below hb12;replace hB4 := hB4.below hb12;have hz2 := hB2.lt; have hz3 := hB3.lt; have hz4 := hB4.lt; have hLl := hL.lt;have hlo2 := hu2.lt;refine z2 (enc := encV) (val := valV) (os := []) rfl rfl MV.nil (fun _ => rfl) (fun _ => rfl) zU69 sizeOf106 zeroValue106 rfl (by decide) (by decide) rfl ?_;intro w13 v13 b13 e13 hb13 hz13 hob13 hO13
 have hle13 : w.heap.size ≤ b13 := by have := hb0.size; omega
 have lt_b2_13 : b2 < b13 := by have := hB2.lt; omega
 have lt_b3_13 : b3 < b13 := by have := hB3.lt; omega
 have lt_b4_13 : b4 < b13 := by have := hB4.lt; omega
 replace hb0 := btr hb0 hb13;replace hu2 := hu2.below hb13;replace hB2 := hB2.below hb13;replace hB3 := hB3.below hb13;replace hB4 := hB4.below hb13;replace hL := hL.below hb13;refine SQ (ze rfl) ?_;refine SQ (ze rfl) ?_;refine zd ?_;refine zb ?_;refine zg ?_;refine zg ?_;refine za ?_;refine SQ (ze rfl) ?_;refine zd ?_;refine zb ?_;refine zL ?_;refine qo (α := Nat × Value) (fun z => [(8, .int .i64 (z.1 : Nat)), (6, v12), (7, z.2), (2, .pointer (some ⟨b2, 0, none⟩)), (3, .pointer (some ⟨b3, 0, none⟩)), (4, .pointer (some ⟨b4, 0, none⟩))]) (fun z w' => z.1 ≤ (opsOf x).length ∧ (∀ (j : Nat) (q : Int), j < z.1 → (opsOf x)[j]? = some q → isKon (getO C.ops q) = true) ∧ Below w.heap.size w w' ∧ Blk w' b2 [uC, uO, uR] 26 ∧ Blk w' b3 (encO x) 76 ∧ Blk w' b4 [.int .i64 0, .int .u8 0, .int .i64 0, .int .i64 0, .int .i64 0, .int .i64 0] 95 ∧ SL w' uO 5 encO C.ops ∧ SL w' v12 1 encI (opsOf x) ∧ OS w' z.2 106 2 encV (((opsOf x).take z.1).map fun n => cell1 (getO C.ops n)) w12.heap.size ∧ w12.heap.size ≤ w'.heap.size) (fun z => (opsOf x).length - z.1) ((0, v13)) (by repeat (first | exact Sub.nil | refine Sub.cons rfl ?_)) ⟨Nat.zero_le _, (fun j q h => by simp at h), hb0, hB2, hB3, hB4, hu2, hL, by dsimp only; rw [List.take_zero, List.map_nil]; exact hO13.le (by omega), by have := hb13.size; omega⟩ ?_;clear hb0;clear hu2;clear hB2;clear hB3;clear hB4;clear hL;clear hO13;rintro z wl0 ⟨hzi, hkon, hbw, hB2, hB3, hB4, hu2, hL, hW, hz12⟩;have hb0 := Below.refl wl0.heap.size wl0
 have hWl : ∀ k, z.2.ownBlock = some k → w12.heap.size ≤ k := fun k e => (hW.lt e).1
 have hWu : ∀ k, z.2.ownBlock = some k → k < wl0.heap.size := fun k e => (hW.lt e).2
 refine zg (zg (za (SQ (zf rfl) (SQ (zf rfl) ?_))))
 first | refine SQ (zr (hu2) zU24 rfl) ?_ | refine SQ (zr (hL) zU24 rfl) ?_ | refine SQ (zr (hW.sl) zU24 rfl) ?_
 refine SQ (qi rfl rfl) (zd (zb ?_));refine zw rfl ?_ ?_
 ·intro g17
  try simp only [dd] at g17
  have hxl : z.1 < (opsOf x).length := by omega
  obtain ⟨m, hm⟩ : ∃ m, (opsOf x)[z.1]? = some m := ⟨_, List.getElem?_eq_getElem hxl⟩
  have hmb := hbd m (List.mem_of_getElem? hm)
  have hm1 : m < C.ops.length := by omega
  obtain ⟨y, hy⟩ : ∃ y, getO C.ops m = y := ⟨_, rfl⟩
  have hym := zV hmb.1 hm1;rw [hy] at hym
  have hpl : (((opsOf x).take z.1).map fun n => cell1 (getO C.ops n)).length = z.1 := by rw [List.length_map, List.length_take]; omega
  refine zH ?_;refine zb ?_;refine zg ?_;refine zL ?_;refine zg ?_;refine jh 9 [[], [0], [], [], [2, 3], [4], [1, 5], [6], []] [det [] ?a5_0n1, det [0] ?a5_1n1, det [] ?a5_2n1, det [] ?a5_3n1, det [2, 3] ?a5_4n1, det [4] ?a5_5n1, det [1, 5] ?a5_6n1, det [6] ?a5_7n1, frs [] (AllocR [.int .u8 0, .int .i64 0, .int .i64 0, .int .i64 0, .int .i64 0] 76)] mixed (by kernel_rfl) rfl ⟨zn _ _, zn _ _, zn _ _, zn _ _, zn _ _, zn _ _, zn _ _, zn _ _, AllocR.stab _ _ _, trivial⟩ ?_ ?_; rotate_left 8
  ·refine zj ?_ ?_
   ·intro wq hbq
    refine zo ?_
    refine zz (zh z1 rfl) ?_; first | exact rfl | rfl
   refine zj ?_ ?_
   ·intro wq hbq
    refine zx rfl rfl (zo ?_)
    refine zz (zi ((hB2).below hbq) isAgg23 rfl rfl) ?_; first | exact rfl | rfl
   refine zj ?_ ?_
   ·intro wq hbq
    refine zo ?_
    refine zz (zf rfl) ?_; first | exact rfl | rfl
   refine zj ?_ ?_
   ·intro wq hbq
    refine zo ?_
    refine zz (zf rfl) ?_; first | exact rfl | rfl
   refine zj ?_ ?_
   ·intro wq hbq
    refine zx rfl rfl (zx rfl rfl (zo ?_))
    refine zz (qt (hL.below hbq) zU24 sizeOf3 rfl rfl (by omega) (by omega)) ?_; first | exact rfl | rfl
   refine zj ?_ ?_
   ·intro wq hbq
    refine zx rfl rfl (zo ?_)
    refine zz (qd isAgg3 rfl (((hL.cells (((z.1 : Nat) : Int)).toNat m hm).below hbq).cell 0 rfl)) ?_; first | exact rfl | rfl
   refine zj ?_ ?_
   ·intro wq hbq
    refine zx rfl rfl (zx rfl rfl (zo ?_))
    refine zz (qt (hu2.below hbq) zU23 sizeOf76 rfl rfl hmb.1 hm1) ?_; first | exact rfl | rfl
   refine zj ?_ ?_
   ·intro wq hbq
    refine zx rfl rfl (zo ?_)
    refine zz (qg isAgg76 sizeOf76 rfl ((hu2.cells m.toNat y hym).below hbq) rfl) ?_; first | exact rfl | rfl
   refine zj ?_ ?_
   ·intro wq hbq
    refine zo ?_;exact Ex_alloc zeroValue76 rfl
   exact qD
  ·intro wa5 hba5
   replace hb0 := btr hb0 hba5;replace hB2 := hB2.below hba5;replace hB3 := hB3.below hba5;replace hB4 := hB4.below hba5;replace hu2 := hu2.below hba5;replace hL := hL.below hba5;replace hW := hW.below hba5;refine zq rfl (zq rfl (zq rfl (zq rfl (zq rfl (zq rfl (zq rfl (zq rfl (qY rfl ?_)))))))); intro v9 lo9 hi9 hR9 hlB9 hlh9 hhw9 hdj9;refine qH ?_
   simp only [List.drop_succ_cons, List.drop_zero]
   obtain ⟨b9, rfl, hB9, hlb9, hhb9⟩ := hR9
   have ne_b2_9 : ¬ b2 = b9 := by omega
   have ne_b3_9 : ¬ b3 = b9 := by omega
   have ne_b4_9 : ¬ b4 = b9 := by omega
   have ne_hu2_b9 : 0 < C.ops.length → ¬ sb uO = b9 := fun hp e => by have := hlo2 hp; omega
   have ne_hL_b9 : 0 < (opsOf x).length → ¬ sb v12 = b9 := fun hp e => by have := hLl hp; omega
   have ne_hW_b9 : ∀ k, z.2.ownBlock = some k → ¬ k = b9 := fun k e e2 => by have := hWu k e; omega
   have hle9 : wl0.heap.size ≤ b9 := by omega
   refine zm (hB9) rfl rfl rfl rfl sizeOf76 rfl rfl ?_;intro ws5x9 hchs5x9 hBs5x9;replace hb0 := bchg hb0 hchs5x9 hle9;replace hB2 := hB2.chg hchs5x9 ne_b2_9;replace hB3 := hB3.chg hchs5x9 ne_b3_9;replace hB4 := hB4.chg hchs5x9 ne_b4_9;replace hu2 := hu2.chg hchs5x9 ne_hu2_b9;replace hL := hL.chg hchs5x9 ne_hL_b9;replace hW := hW.chg hchs5x9 (fun k e e2 => by first | exact ne_hW_b9 k e e2 | (have := hW.lt e; have := ne_hW_b9; omega));clear hB9;refine zd ?_;refine zb ?_;refine zg ?_;refine za ?_;refine SQ (zh qc rfl) ?_;refine SQ (zi (hBs5x9) isAgg5 rfl rfl) ?_;refine zd ?_;refine zb ?_;refine zL ?_;refine zg ?_;refine za ?_;refine SQ (zO rfl rfl) ?_;refine SQ (ze rfl) ?_;refine zd ?_;refine zb ?_;refine zw rfl ?_ ?_
   ·intro g31
    try simp only [dd] at g31
    have hyk : isKon y = true := by unfold isKon; simp only [dd]; exact .inl (by omega)
    have hcy : cell1 y = ⟨0, y.n⟩ := by unfold cell1; rw [if_pos (by omega)]
    refine za (SQ (zf rfl) (SQ (zh jx rfl) (SQ (zi (hBs5x9) isAgg3 rfl rfl) (zF rfl call77 rfl (f77_c _ _) ?_))));intro w36 hb36;replace hb0 := btr hb0 hb36;replace hB2 := hB2.below hb36;replace hB3 := hB3.below hb36;replace hB4 := hB4.below hb36;replace hu2 := hu2.below hb36;replace hL := hL.below hb36;replace hW := hW.below hb36;replace hBs5x9 := hBs5x9.below hb36;refine z2 (enc := encV) (val := valV) (os := [.tmp 36]) rfl rfl (MV.cons (x := (⟨0, y.n⟩ : Vl)) MV.nil) (fun _ => rfl) (fun _ => rfl) zU69 sizeOf106 zeroValue106 rfl (by decide) (by decide) rfl ?_;intro w37 v37 b37 e37 hb37 hz37 hob37 hO37
    have hle37 : wl0.heap.size ≤ b37 := by have := hb0.size; omega
    have lt_b2_37 : b2 < b37 := by have := hB2.lt; omega
    have lt_b3_37 : b3 < b37 := by have := hB3.lt; omega
    have lt_b4_37 : b4 < b37 := by have := hB4.lt; omega
    have lt_b9_37 : b9 < b37 := by have := hBs5x9.lt; omega
    replace hb0 := btr hb0 hb37;replace hB2 := hB2.below hb37;replace hB3 := hB3.below hb37;replace hB4 := hB4.below hb37;replace hu2 := hu2.below hb37;replace hL := hL.below hb37;replace hW := hW.below hb37;refine qr (hW) (hO37.sl) underlying69 info106 rfl rfl rfl (fun _ _ => rfl) (by simp only [List.length_append, List.length_cons, List.length_nil]; (try rw [hpl]); omega) (by simp only [List.length_append, List.length_cons, List.length_nil]; (try rw [hpl]); omega) (by have := hbw.size; have := hb0.size; omega) rfl ?_;intro v38 w38 hO38 hch38 hsn38;have h93 := hb0.size; have h94 := hch38.size;replace hbw := (btr hbw hb0).trans (hch38.below (btr hbw hb0).size (fun k hk e => by have := hWl k e; omega));clear hb0;have hb0 := Below.refl w38.heap.size w38
    replace hB2 := (hB2.chg hch38 (fun e => by have := hWl _ e; omega))
    replace hB3 := (hB3.chg hch38 (fun e => by have := hWl _ e; omega))
    replace hB4 := (hB4.chg hch38 (fun e => by have := hWl _ e; omega))
    replace hu2 := (hu2.chg hch38 (fun hp e => by have := hlo2 hp; have := hWl _ e; omega))
    replace hL := (hL.chg hch38 (fun hp e => by have := hLl hp; have := hWl _ e; omega))
    clear hBs5x9;clear hO37;clear hW;refine SQ (ze rfl) ?_;refine zd ?_;refine zQ ?_;refine zQ ?_;refine zb ?_;refine za ?_;refine SQ (zf rfl) ?_;refine SQ (qb rfl rfl (zS (by omega) (by omega))) ?_;refine SQ (ze rfl) ?_;refine zd ?_;refine qh ((z.1 + 1, _)) (by repeat (first | exact Sub.nil | refine Sub.cons rfl ?_)) ⟨by dsimp only; omega, (fun j q hj hq => by rcases Nat.lt_succ_iff_lt_or_eq.1 hj with h | rfl; exact hkon j q h hq; (have e := Option.some.inj (hq.symm.trans hm); subst e; rw [hy]; exact hyk)), btr hbw hb0, hB2, hB3, hB4, hu2, hL, by (try dsimp only); rw [z4 hm, List.map_append]; simp only [List.map_cons, List.map_nil, hy, hcy]; exact hO38, by have h92 := hb0.size; omega⟩ (by dsimp only; omega)
   ·intro g31
    try simp only [dd] at g31
    refine zg (za (SQ (zO rfl rfl) (SQ (ze rfl) (zd (zb ?_)))));refine zw rfl ?_ ?_
    ·intro g39
     try simp only [dd] at g39
     have hyk : isKon y = true := by unfold isKon; simp only [dd]; exact .inr (by omega)
     have hcy : cell1 y = ⟨y.n, 0⟩ := by unfold cell1; rw [if_neg (by omega)]
     have hyf := num_fault hck hmb.1 hm1 (by rw [hy]; omega);rw [hy] at hyf;refine za ?_;refine SQ (zf rfl) ?_;refine SQ (zh jx rfl) ?_;refine SQ (zi (hBs5x9) isAgg3 rfl rfl) ?_;refine SQ (j8 zU3 zU5 rfl (jc (by omega) (by omega))) ?_;refine zF rfl call78 rfl (f78_c _ _) ?_;intro w45 hb45;replace hb0 := btr hb0 hb45;replace hB2 := hB2.below hb45;replace hB3 := hB3.below hb45;replace hB4 := hB4.below hb45;replace hu2 := hu2.below hb45;replace hL := hL.below hb45;replace hW := hW.below hb45;replace hBs5x9 := hBs5x9.below hb45;refine z2 (enc := encV) (val := valV) (os := [.tmp 45]) rfl rfl (MV.cons (x := (⟨y.n, 0⟩ : Vl)) MV.nil) (fun _ => rfl) (fun _ => rfl) zU69 sizeOf106 zeroValue106 rfl (by decide) (by decide) rfl ?_;intro w46 v46 b46 e46 hb46 hz46 hob46 hO46
     have hle46 : wl0.heap.size ≤ b46 := by have := hb0.size; omega
     have lt_b2_46 : b2 < b46 := by have := hB2.lt; omega
     have lt_b3_46 : b3 < b46 := by have := hB3.lt; omega
     have lt_b4_46 : b4 < b46 := by have := hB4.lt; omega
     have lt_b9_46 : b9 < b46 := by have := hBs5x9.lt; omega
     replace hb0 := btr hb0 hb46;replace hB2 := hB2.below hb46;replace hB3 := hB3.below hb46;replace hB4 := hB4.below hb46;replace hu2 := hu2.below hb46;replace hL := hL.below hb46;replace hW := hW.below hb46;refine qr (hW) (hO46.sl) underlying69 info106 rfl rfl rfl (fun _ _ => rfl) (by simp only [List.length_append, List.length_cons, List.length_nil]; (try rw [hpl]); omega) (by simp only [List.length_append, List.length_cons, List.length_nil]; (try rw [hpl]); omega) (by have := hbw.size; have := hb0.size; omega) rfl ?_;intro v47 w47 hO47 hch47 hsn47;have h93 := hb0.size; have h94 := hch47.size;replace hbw := (btr hbw hb0).trans (hch47.below (btr hbw hb0).size (fun k hk e => by have := hWl k e; omega));clear hb0;have hb0 := Below.refl w47.heap.size w47
     replace hB2 := (hB2.chg hch47 (fun e => by have := hWl _ e; omega))
     replace hB3 := (hB3.chg hch47 (fun e => by have := hWl _ e; omega))
     replace hB4 := (hB4.chg hch47 (fun e => by have := hWl _ e; omega))
     replace hu2 := (hu2.chg hch47 (fun hp e => by have := hlo2 hp; have := hWl _ e; omega))
     replace hL := (hL.chg hch47 (fun hp e => by have := hLl hp; have := hWl _ e; omega))
     clear hBs5x9;clear hO46;clear hW;refine SQ (ze rfl) ?_;refine zd ?_;refine zQ ?_;refine zQ ?_;refine zb ?_;refine za ?_;refine SQ (zf rfl) ?_;refine SQ (qb rfl rfl (zS (by omega) (by omega))) ?_;refine SQ (ze rfl) ?_;refine zd ?_;refine qh ((z.1 + 1, _)) (by repeat (first | exact Sub.nil | refine Sub.cons rfl ?_)) ⟨by dsimp only; omega, (fun j q hj hq => by rcases Nat.lt_succ_iff_lt_or_eq.1 hj with h | rfl; exact hkon j q h hq; (have e := Option.some.inj (hq.symm.trans hm); subst e; rw [hy]; exact hyk)), btr hbw hb0, hB2, hB3, hB4, hu2, hL, by (try dsimp only); rw [z4 hm, List.map_append]; simp only [List.map_cons, List.map_nil, hy, hcy]; exact hO47, by have h92 := hb0.size; omega⟩ (by dsimp only; omega)
    ·intro g39
     try simp only [dd] at g39
     have hwr : wrkR C.ops x = ⟨false, 0, o0⟩ := by unfold wrkR; rw [if_neg (fun h => by have h9 := List.all_eq_true.1 h m (List.mem_of_getElem? hm); rw [hy] at h9; unfold isKon at h9; simp only [dd] at h9; omega)]
     replace hb0 := btr hbw hb0;clear hL;clear hW;clear hu2;clear hBs5x9;refine zg ?_;refine za ?_;refine SQ (qj build95_) ?_;refine zm (hB4) rfl rfl rfl rfl sizeOf95 rfl rfl ?_;intro ws7x1 hchs7x1 hBs7x1;replace hb0 := bchg hb0 hchs7x1 hle4;clear hB4;refine SQ (ze rfl) ?_;refine zd ?_;refine zb ?_;refine zu ?_;refine zt ?_;refine zt ?_;refine zl ?_;refine qn ?_;refine zt ?_;refine zl ?_;refine qa rfl rfl (.cellW rfl (hBs7x1) isAgg95 sizeOf95 rfl) (.tmp rfl) ?_;exact ⟨by rw [hwr]; rfl, hb0⟩
 ·intro g17
  try simp only [dd] at g17
  have hze : (opsOf x).length ≤ z.1 := by omega
  have hall : (opsOf x).all (fun n => isKon (getO C.ops n)) = true := List.all_eq_true.2 (fun n hn => by obtain ⟨j, hj⟩ := List.getElem?_of_mem hn; exact hkon j n (by have := (List.getElem?_eq_some_iff.1 hj).1; omega) hj);rw [List.take_of_length_le hze] at hW
  have hv0 : ∀ (j : Nat) (q : Int), (opsOf x)[j]? = some q → small (cell1 (getO C.ops q)).n ∧ FOk (cell1 (getO C.ops q)) := fun j q hq => by have h9 := hbd q (List.mem_of_getElem? hq); exact cell1_ok hck h9.1 (by omega) (hkon j q (by have := (List.getElem?_eq_some_iff.1 hq).1; omega) hq)
  have hoa : (opsOf x)[0]? = some x.a := jr (j := 0) (by omega);have hca := hv0 0 x.a hoa
  have hva : ((opsOf x).map fun n => cell1 (getO C.ops n))[0]? = some (cell1 (getO C.ops x.a)) := by rw [List.getElem?_map, hoa]; rfl
  have hvl : ((opsOf x).map fun n => cell1 (getO C.ops n)).length = arN x.code := by rw [List.length_map, hlen]
  have hwr : wrkR C.ops x = wrkF (wrkV C.ops x) := by unfold wrkR; rw [if_pos hall]
  clear hb0;have hb0 := hbw;refine qk (z0 (z9 ?_));refine zX (zb (zg (za (SQ (qj build106_) (zM zeroValue106 rfl rfl ?_)))));intro w10 b10 e10 hb10 hz10 hB10
  have hle10 : w.heap.size ≤ b10 := by have := hb0.size; omega
  have ne_b2_10 : ¬ b2 = b10 := by have := hB2.lt; omega
  have ne_b3_10 : ¬ b3 = b10 := by have := hB3.lt; omega
  have ne_b4_10 : ¬ b4 = b10 := by have := hB4.lt; omega
  have ne_hu2_b10 := hu2.fresh (b := b10) (by omega);have ne_hL_b10 := hL.fresh (b := b10) (by omega)
  have ne_hW_b10 : ∀ k, Value.ownBlock z.2 = some k → ¬ k = b10 := fun k e => by have := hW.lt e; omega
  replace hb0 := btr hb0 hb10;replace hB3 := hB3.below hb10;replace hB4 := hB4.below hb10;replace hu2 := hu2.below hb10;replace hL := hL.below hb10;replace hW := hW.below hb10;refine zm (hB10) rfl rfl rfl rfl sizeOf106 rfl rfl ?_;intro ws12x2 hchs12x2 hBs12x2;replace hb0 := bchg hb0 hchs12x2 hle10;replace hB3 := hB3.chg hchs12x2 ne_b3_10;replace hB4 := hB4.chg hchs12x2 ne_b4_10;replace hu2 := hu2.chg hchs12x2 ne_hu2_b10;replace hL := hL.chg hchs12x2 ne_hL_b10;replace hW := hW.chg hchs12x2 (fun k e e2 => by first | exact ne_hW_b10 k e e2 | (have := hW.lt e; have := ne_hW_b10; omega));clear hB10;refine zd ?_;refine zb ?_;refine zg ?_;refine zg ?_;refine za ?_;refine SQ (zf rfl) ?_
  first | refine SQ (zr (hu2) zU24 rfl) ?_ | refine SQ (zr (hL) zU24 rfl) ?_ | refine SQ (zr (hW.sl) zU24 rfl) ?_
  refine SQ (zO rfl rfl) (zd (zb ?_));refine zw rfl ?_ ?_
  ·intro g51
   try simp only [dd] at g51
   have hwv : wrkV C.ops x = rop1 x.code (cell1 (getO C.ops x.a)) := by unfold wrkV; rw [if_pos (by omega)]
   obtain ⟨hf0, hf4⟩ := rop1_f (c := x.code) hca.2;refine jh 6 [[], [0], [], [2], [3], [1, 4]] [det [] ?a14_0n2, det [0] ?a14_1n2, det [] ?a14_2n2, det [2] ?a14_3n2, det [3] ?a14_4n2, det [1, 4] ?a14_5n2] mixed (by kernel_rfl) rfl ⟨zn _ _, zn _ _, zn _ _, zn _ _, zn _ _, zn _ _, trivial⟩ ?_ ?_; rotate_left 6
   ·refine zj ?_ ?_
    ·intro wq hbq
     refine zo ?_
     refine zz (zh qc rfl) ?_; first | exact rfl | rfl
    refine zj ?_ ?_
    ·intro wq hbq
     refine zx rfl rfl (zo ?_)
     refine zz (zi ((hB3).below hbq) isAgg5 rfl rfl) ?_; first | exact rfl | rfl
    refine zj ?_ ?_
    ·intro wq hbq
     refine zo ?_
     refine zz (zf rfl) ?_; first | exact rfl | rfl
    refine zj ?_ ?_
    ·intro wq hbq
     refine zx rfl rfl (zo ?_)
     refine zz (qt (hW.sl.below hbq) zU69 sizeOf106 rfl rfl (by omega) (by rw [hvl]; omega)) ?_; first | exact rfl | rfl
    refine zj ?_ ?_
    ·intro wq hbq
     refine zx rfl rfl (zo ?_)
     refine zz (qg isAgg106 sizeOf106 rfl ((hW.sl.cells 0 _ hva).below hbq) rfl) ?_; first | exact rfl | rfl
    refine zj ?_ ?_
    ·intro wq hbq
     refine zx rfl rfl (zx rfl rfl (zo ?_))
     refine qq rfl call79 (qB (f79_c (a := cell1 (getO C.ops x.a)) hca.1 _) ?_); first | exact rfl | rfl
    exact qD
   ·intro wa14 hba14
    replace hb0 := btr hb0 hba14;replace hB4 := hB4.below hba14;replace hW := hW.below hba14;replace hBs12x2 := hBs12x2.below hba14;refine zq rfl (zq rfl (zq rfl (zq rfl (zq rfl (zq rfl (qH ?_))))))
    simp only [List.drop_succ_cons, List.drop_zero]
    refine zm (hBs12x2) rfl rfl rfl rfl sizeOf106 rfl rfl ?_;intro ws14x6 hchs14x6 hBs14x6;replace hb0 := bchg hb0 hchs14x6 hle10;replace hB4 := hB4.chg hchs14x6 ne_b4_10;replace hW := hW.chg hchs14x6 (fun k e e2 => by first | exact ne_hW_b10 k e e2 | (have := hW.lt e; have := ne_hW_b10; omega));clear hBs12x2;refine zd ?_;refine zb ?_;refine zg ?_;refine zg ?_;refine za ?_;refine SQ (zh jk rfl) ?_;refine SQ (zi (hBs14x6) isAgg5 rfl rfl) ?_;refine SQ (qu rfl rfl) ?_;refine zd ?_;refine zb ?_;refine zw rfl ?_ ?_
    ·intro g69
     try simp only [dd] at g69
     clear hL;clear hW;clear hu2;refine zg ?_;refine za ?_;refine SQ (zh jk rfl) ?_;refine SQ (zi (hBs14x6) isAgg5 rfl rfl) ?_;refine SQ (j8 zU5 zU3 rfl (zS (by omega) (by omega))) ?_;refine SQ (qA qP rfl rfl rfl rfl ) ?_;refine SQ (jO (Zc (-1) ⟨2, 0, 0, 0, (wrkV C.ops x).f⟩) (by rw [hwv]; rfl)) ?_;refine zm (hB4) rfl rfl rfl rfl sizeOf95 rfl rfl ?_;intro ws17x5 hchs17x5 hBs17x5;replace hb0 := bchg hb0 hchs17x5 hle4;clear hB4;refine SQ (ze rfl) ?_;refine zd ?_;refine zb ?_;refine zu ?_;refine zl ?_;refine qa rfl rfl (.cellW rfl (hBs17x5) isAgg95 sizeOf95 rfl) (.tmp rfl) ?_;exact ⟨by rw [hwr, hwv, wrkF, if_pos (by omega)]; rfl, hb0⟩
    ·intro g69
     try simp only [dd] at g69
     clear hL;clear hW;clear hu2;refine zH ?_;refine zb ?_;refine zg ?_;refine za ?_;refine SQ (zh qw rfl) ?_;refine SQ (zi (hBs14x6) isAgg3 rfl rfl) ?_;refine SQ (qA qP rfl rfl rfl rfl ) ?_;refine SQ (jO (Zc (-1) ⟨1, 0, 0, 0, (wrkV C.ops x).n⟩) (by rw [hwv]; rfl)) ?_;refine zm (hB4) rfl rfl rfl rfl sizeOf95 rfl rfl ?_;intro ws18x4 hchs18x4 hBs18x4;replace hb0 := bchg hb0 hchs18x4 hle4;clear hB4;refine SQ (ze rfl) ?_;refine zd ?_;refine zb ?_;refine zu ?_;refine qa rfl rfl (.cellW rfl (hBs18x4) isAgg95 sizeOf95 rfl) (.tmp rfl) ?_;exact ⟨by rw [hwr, hwv, wrkF, if_neg (by omega)]; rfl, hb0⟩
  ·intro g51
   try simp only [dd] at g51
   have hob : (opsOf x)[1]? = some x.b := jr (j := 1) (by omega);have hcb := hv0 1 x.b hob
   have hvb : ((opsOf x).map fun n => cell1 (getO C.ops n))[1]? = some (cell1 (getO C.ops x.b)) := by rw [List.getElem?_map, hob]; rfl
   have hwv : wrkV C.ops x = rop2 x.code (cell1 (getO C.ops x.a)) (cell1 (getO C.ops x.b)) := by unfold wrkV; rw [if_neg (by omega)]
   obtain ⟨hf0, hf4⟩ := rop2_f (c := x.code) hca.2 hcb.2;refine jh 9 [[], [0], [], [2], [3], [], [5], [6], [1, 4, 7]] [det [] ?a15_0n3, det [0] ?a15_1n3, det [] ?a15_2n3, det [2] ?a15_3n3, det [3] ?a15_4n3, det [] ?a15_5n3, det [5] ?a15_6n3, det [6] ?a15_7n3, det [1, 4, 7] ?a15_8n3] mixed (by kernel_rfl) rfl ⟨zn _ _, zn _ _, zn _ _, zn _ _, zn _ _, zn _ _, zn _ _, zn _ _, zn _ _, trivial⟩ ?_ ?_; rotate_left 9
   ·refine zj ?_ ?_
    ·intro wq hbq
     refine zo ?_
     refine zz (zh qc rfl) ?_; first | exact rfl | rfl
    refine zj ?_ ?_
    ·intro wq hbq
     refine zx rfl rfl (zo ?_)
     refine zz (zi ((hB3).below hbq) isAgg5 rfl rfl) ?_; first | exact rfl | rfl
    refine zj ?_ ?_
    ·intro wq hbq
     refine zo ?_
     refine zz (zf rfl) ?_; first | exact rfl | rfl
    refine zj ?_ ?_
    ·intro wq hbq
     refine zx rfl rfl (zo ?_)
     refine zz (qt (hW.sl.below hbq) zU69 sizeOf106 rfl rfl (by omega) (by rw [hvl]; omega)) ?_; first | exact rfl | rfl
    refine zj ?_ ?_
    ·intro wq hbq
     refine zx rfl rfl (zo ?_)
     refine zz (qg isAgg106 sizeOf106 rfl ((hW.sl.cells 0 _ hva).below hbq) rfl) ?_; first | exact rfl | rfl
    refine zj ?_ ?_
    ·intro wq hbq
     refine zo ?_
     refine zz (zf rfl) ?_; first | exact rfl | rfl
    refine zj ?_ ?_
    ·intro wq hbq
     refine zx rfl rfl (zo ?_)
     refine zz (qt (hW.sl.below hbq) zU69 sizeOf106 rfl rfl (by omega) (by rw [hvl]; omega)) ?_; first | exact rfl | rfl
    refine zj ?_ ?_
    ·intro wq hbq
     refine zx rfl rfl (zo ?_)
     refine zz (qg isAgg106 sizeOf106 rfl ((hW.sl.cells 1 _ hvb).below hbq) rfl) ?_; first | exact rfl | rfl
    refine zj ?_ ?_
    ·intro wq hbq
     refine zx rfl rfl (zx rfl rfl (zx rfl rfl (zo ?_)))
     refine qq rfl call80 (qB (f80_c (a := cell1 (getO C.ops x.a)) (b := cell1 (getO C.ops x.b)) hca.1 hcb.1 _) ?_); first | exact rfl | rfl
    exact qD
   ·intro wa15 hba15
    replace hb0 := btr hb0 hba15;replace hB4 := hB4.below hba15;replace hW := hW.below hba15;replace hBs12x2 := hBs12x2.below hba15;refine zq rfl (zq rfl (zq rfl (zq rfl (zq rfl (zq rfl (zq rfl (zq rfl (zq rfl (qH ?_)))))))))
    simp only [List.drop_succ_cons, List.drop_zero]
    refine zm (hBs12x2) rfl rfl rfl rfl sizeOf106 rfl rfl ?_;intro ws15x9 hchs15x9 hBs15x9;replace hb0 := bchg hb0 hchs15x9 hle10;replace hB4 := hB4.chg hchs15x9 ne_b4_10;replace hW := hW.chg hchs15x9 (fun k e e2 => by first | exact ne_hW_b10 k e e2 | (have := hW.lt e; have := ne_hW_b10; omega));clear hBs12x2;refine zd ?_;refine zb ?_;refine zg ?_;refine zg ?_;refine za ?_;refine SQ (zh jk rfl) ?_;refine SQ (zi (hBs15x9) isAgg5 rfl rfl) ?_;refine SQ (qu rfl rfl) ?_;refine zd ?_;refine zb ?_;refine zw rfl ?_ ?_
    ·intro g69
     try simp only [dd] at g69
     clear hL;clear hW;clear hu2;refine zg ?_;refine za ?_;refine SQ (zh jk rfl) ?_;refine SQ (zi (hBs15x9) isAgg5 rfl rfl) ?_;refine SQ (j8 zU5 zU3 rfl (zS (by omega) (by omega))) ?_;refine SQ (qA qP rfl rfl rfl rfl ) ?_;refine SQ (jO (Zc (-1) ⟨2, 0, 0, 0, (wrkV C.ops x).f⟩) (by rw [hwv]; rfl)) ?_;refine zm (hB4) rfl rfl rfl rfl sizeOf95 rfl rfl ?_;intro ws17x5 hchs17x5 hBs17x5;replace hb0 := bchg hb0 hchs17x5 hle4;clear hB4;refine SQ (ze rfl) ?_;refine zd ?_;refine zb ?_;refine zu ?_;refine zl ?_;refine qa rfl rfl (.cellW rfl (hBs17x5) isAgg95 sizeOf95 rfl) (.tmp rfl) ?_;exact ⟨by rw [hwr, hwv, wrkF, if_pos (by omega)]; rfl, hb0⟩
    ·intro g69
     try simp only [dd] at g69
     clear hL;clear hW;clear hu2;refine zH ?_;refine zb ?_;refine zg ?_;refine za ?_;refine SQ (zh qw rfl) ?_;refine SQ (zi (hBs15x9) isAgg3 rfl rfl) ?_;refine SQ (qA qP rfl rfl rfl rfl ) ?_;refine SQ (jO (Zc (-1) ⟨1, 0, 0, 0, (wrkV C.ops x).n⟩) (by rw [hwv]; rfl)) ?_;refine zm (hB4) rfl rfl rfl rfl sizeOf95 rfl rfl ?_;intro ws18x4 hchs18x4 hBs18x4;replace hb0 := bchg hb0 hchs18x4 hle4;clear hB4;refine SQ (ze rfl) ?_;refine zd ?_;refine zb ?_;refine zu ?_;refine qa rfl rfl (.cellW rfl (hBs18x4) isAgg95 sizeOf95 rfl) (.tmp rfl) ?_;exact ⟨by rw [hwr, hwv, wrkF, if_neg (by omega)]; rfl, hb0⟩
end Go.Proofs.YtphmoebiobjfhaaGreat
