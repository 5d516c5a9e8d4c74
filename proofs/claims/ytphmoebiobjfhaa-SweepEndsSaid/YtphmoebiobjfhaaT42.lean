/- Walks of functions, printed by a program of the author. -/
import Derived.Test.YtphmoebiobjfhaaT41
set_option linter.all false
namespace Go.Proofs.Ytphmoebiobjfhaa
open Go Go.Mi Go.RowKit
set_option maxHeartbeats 4000000 in
theorem f3_c {vx vp : Value} {xs : List Qd} {ps : List Int} {w : World} (hx : SL w vx 4 encQ xs) (hq : ∀ z ∈ xs, okQ z) (hp : SL w vp 1 encU ps) (hps : ∀ p ∈ ps, 0 ≤ p ∧ p ≤ 255) : Pure Try.prog 3 #[vx, vp] w (.bool true) := by
 have hpl0 := hp.lt;have hqq := hq;clear hq;have hpsq := hps;clear hps;have hb0 := Below.refl w.heap.size w;refine calls_of_W Try.func3 rfl Try.ntmps3 rfl ?_;refine W_seq (W_region (SG_q (Rq_assign rfl) rfl (SG_nil (D_then (W_seq (W_region (SG_q (Rq_move rfl) rfl (SG_call rfl Try.call6 rfl (f6_c (hx) hqq) ?_))))))));rintro v20 w20 hb20 ⟨C, hg, sa1, sn1, sc1, sa2, sn2, sc2, sa3, sn3, sc3, rfl, hs1, hs2, hs3⟩;replace hb0 := btr hb0 hb20;replace hp := hp.below hb20;replace hs1 := hs1.sl;replace hs2 := hs2.sl;replace hs3 := hs3.sl;have hsl1 := hs1.lt; have hsl2 := hs2.lt; have hsl3 := hs3.lt;refine SG_alloc Try.zeroValue29 rfl rfl ?_;intro w5 b5 e5 hb5 hz5 hB5
 have hle5 : w.heap.size ≤ b5 := by have := hb0.size; omega
 have ne_hp_b5 := hp.fresh (b := b5) (by omega);have ne_hs1_b5 := hs1.fresh (b := b5) (by omega);have ne_hs2_b5 := hs2.fresh (b := b5) (by omega);have ne_hs3_b5 := hs3.fresh (b := b5) (by omega);replace hb0 := btr hb0 hb5;replace hp := hp.below hb5;replace hs1 := hs1.below hb5;replace hs2 := hs2.below hb5;replace hs3 := hs3.below hb5;refine SG_storeW (hB5) rfl rfl rfl rfl Try.sizeOf29 rfl rfl ?_;intro ws1x3 hchs1x3 hBs1x3;replace hb0 := bchg hb0 hchs1x3 hle5;replace hp := hp.chg hchs1x3 ne_hp_b5;replace hs1 := hs1.chg hchs1x3 ne_hs1_b5;replace hs2 := hs2.chg hchs1x3 ne_hs2_b5;replace hs3 := hs3.chg hchs1x3 ne_hs3_b5;clear hB5;refine SG_nil (D_then (W_seq (W_seq (W_region (SG_q (Rq_assign rfl) rfl (SG_nil (D_then (W_block ?_))))))));have hckC := hg.check
 have hpb5 : 0 < ps.length → ¬ sb vp = b5 := fun hq e => by have := hpl0 hq; omega
 refine W_loop (α := Ex) (fun x => [(6, .int .i64 (x.i : Nat)), (1, vp), (5, .pointer (some ⟨b5, 0, none⟩))]) (fun x w' => Below w.heap.size w w' ∧ (checkR x.C = 0 ∧ (x.C.ch.length ≤ 6 ∧ x.C.ops.length ≤ 34 ∧ x.C.roots.length = 3) ∧ (x.i : Int) + refsR x.C ≤ 50000000) ∧ Blk w' b5 [x.v1, x.v2, x.v3] 29 ∧ (SL w' x.v1 3 encC x.C.ch ∧ SL w' x.v2 5 encO x.C.ops ∧ SL w' x.v3 1 encI x.C.roots) ∧ SL w' vp 1 encU ps ∧ ((0 < x.C.ch.length → ¬ sb x.v1 = b5) ∧ (0 < x.C.ops.length → ¬ sb x.v2 = b5) ∧ (0 < x.C.roots.length → ¬ sb x.v3 = b5))) (fun x => (refsR x.C).toNat) ((⟨0, C, .slice sa1 sn1 sc1, .slice sa2 sn2 sc2, .slice sa3 sn3 sc3⟩ : Ex)) (by repeat (first | exact Sub.nil | refine Sub.cons rfl ?_)) ⟨hb0, ⟨hckC, ⟨by rw [hg.ch]; decide, hg.len.2, hg.roots⟩, by have := refs_bound hckC; dsimp only; omega⟩, hBs1x3, ⟨hs1, hs2, hs3⟩, hp, (fun hq e => by have := hsl1 hq; dsimp only at e; omega), (fun hq e => by have := hsl2 hq; dsimp only at e; omega), (fun hq e => by have := hsl3 hq; dsimp only at e; omega)⟩ ?_;clear hb0;clear hx;clear hp;clear hs1;clear hs2;clear hs3;clear hBs1x3;rintro x wl0 ⟨hb0, ⟨hckx, ⟨hl1, hl2, hl3⟩, hix⟩, hB5, ⟨hu1, hu2, hu3⟩, hp, ne_hu1_b5, ne_hu2_b5, ne_hu3_b5⟩
 have p1 : x.C.ch.length ≤ 100000 := by omega
 have p2 : x.C.ops.length ≤ 100000 := by omega
 have p3 : x.C.roots.length ≤ 100000 := by omega
 have hz0 := hb0.size;have hul1 := hu1.lt; have hul2 := hu2.lt; have hul3 := hu3.lt; have hpl := hp.lt; have hzb5 := hB5.lt;have ne_hp_b5 : 0 < ps.length → ¬ sb vp = b5 := hpb5;have hx0 := refs_nonneg hckx;refine W_seq (W_block (W_seq (W_region (SG_bslice (enc := encR) (val := valR) (os := []) rfl rfl MV.nil (fun _ => rfl) (fun _ => rfl) Try.runUnderlying31 Try.sizeOf37 Try.zeroValue37 rfl (by decide) (by decide) rfl ?_))));intro w23 v23 b23 e23 hb23 hz23 hob23 hO23
 have hle23 : w.heap.size ≤ b23 := by have := hb0.size; omega
 have lt_b5_23 : b5 < b23 := by have := hB5.lt; omega
 replace hb0 := btr hb0 hb23;replace hB5 := hB5.below hb23;replace hu1 := hu1.below hb23;replace hu2 := hu2.below hb23;replace hu3 := hu3.below hb23;replace hp := hp.below hb23;refine SG_q (Rq_assign rfl) rfl (SG_nil (D_then (W_seq (W_seq (W_region (SG_q (Rq_assign rfl) rfl (SG_nil (D_then (W_block ?_)))))))));refine W_loop (α := Nat × Value) (fun z => [(8, .int .i64 (z.1 : Nat)), (7, z.2), (6, .int .i64 (x.i : Nat)), (1, vp), (5, .pointer (some ⟨b5, 0, none⟩))]) (fun z w' => Below w.heap.size w w' ∧ (z.1 ≤ x.C.ops.length ∧ wl0.heap.size ≤ w'.heap.size) ∧ OS w' z.2 37 2 encR (canL x.C z.1) wl0.heap.size ∧ Blk w' b5 [x.v1, x.v2, x.v3] 29 ∧ (SL w' x.v1 3 encC x.C.ch ∧ SL w' x.v2 5 encO x.C.ops ∧ SL w' x.v3 1 encI x.C.roots) ∧ SL w' vp 1 encU ps) (fun z => x.C.ops.length - z.1) ((0, v23)) (by repeat (first | exact Sub.nil | refine Sub.cons rfl ?_)) ⟨hb0, ⟨Nat.zero_le _, hb23.size⟩, hO23.le (by omega), hB5, ⟨hu1, hu2, hu3⟩, hp⟩ ?_;clear hb0;clear hB5;clear hu1;clear hu2;clear hu3;clear hp;clear hO23;rintro z wl1 ⟨hb0, ⟨hzi, hzw⟩, hZ, hB5, ⟨hu1, hu2, hu3⟩, hp⟩;refine W_seq (W_seq (W_region (SG_q (Rq_move rfl) rfl (SG_q (Rq_fieldAddr fa29_1 rfl) rfl (SG_q (Rq_loadB (hB5) Try.isAgg26 rfl rfl) rfl ?_)))))
 first | refine SG_q (Rq_len (hu1) Try.runUnderlying26 rfl) rfl ?_ | refine SG_q (Rq_len (hu2) Try.runUnderlying26 rfl) rfl ?_ | refine SG_q (Rq_len (hu3) Try.runUnderlying26 rfl) rfl ?_ | refine SG_q (Rq_len (hp) Try.runUnderlying26 rfl) rfl ?_ | refine SG_q (Rq_len (hZ.sl) Try.runUnderlying26 rfl) rfl ?_
 refine SG_q (Rq_lss rfl rfl) rfl (SG_nil (D_then ?_));refine W_cond rfl ?_ ?_
 ·intro g28
  try simp only [dd] at g28
  have hzl : z.1 < x.C.ops.length := by omega
  have hre0 : rulesE x.C (z.1 : Int) = 0 := by rw [rulesE, if_neg (by simp [hckx]), if_neg (by omega)]
  refine W_skip (D_then (W_seq (W_block (W_seq (W_region ?_)))))
  first | refine SG_q (Rq_loadBW (hB5) Try.isAgg29 Try.sizeOf29 rfl rfl) rfl ?_ | refine SG_q (Rq_loadBA (hB5) Try.isAgg29 Try.sizeOf29 rfl rfl rfl) rfl ?_
  refine SG_call rfl Try.call8 rfl (f8_c (⟨⟨_, _, _, rfl, (hu1), (hu2), (hu3)⟩⟩ : CoS _ _ x.C) p1 p2 p3) ?_;rintro v33 w33 hb33 ⟨ta1, tn1, tc1, ta2, tn2, tc2, ta3, tn3, tc3, rfl, ht1, ht2, ht3⟩;replace hb0 := btr hb0 hb33;replace hB5 := hB5.below hb33;replace hu1 := hu1.below hb33;replace hu2 := hu2.below hb33;replace hu3 := hu3.below hb33;replace hp := hp.below hb33;replace hZ := hZ.below hb33;replace ht1 := ht1.sl;replace ht2 := ht2.sl;replace ht3 := ht3.sl;refine SG_q (Rq_move rfl) rfl (SG_call rfl Try.call7 rfl (f7_c (C := x.C) (ht1) (ht2) (ht3) p1 p2 p3 (z.1 : Int)) ?_);rintro v35 w35 hb35 ⟨u35, rfl, hr1⟩;replace hb0 := btr hb0 hb35;replace hB5 := hB5.below hb35;replace hu1 := hu1.below hb35;replace hu2 := hu2.below hb35;replace hu3 := hu3.below hb35;replace hp := hp.below hb35;replace hZ := hZ.below hb35;rw [if_pos hre0] at hr1;refine SG_q (Rq_move rfl) rfl (SG_q (Rq_extract rfl rfl) rfl (SG_q (Rq_extract rfl rfl) rfl (SG_q (Rq_assign rfl) rfl (SG_q (Rq_assign rfl) rfl (SG_nil (D_then (W_seq (W_seq (W_region (SG_q (Rq_move rfl) rfl (SG_q (Rq_neq rfl rfl) rfl (SG_nil (D_then ?_)))))))))))));refine W_cond rfl ?_ ?_
  ·intro g39; exfalso; (try simp only [dd] at g39); rw [hre0] at g39; simp at g39
  ·intro g39
   try simp only [dd] at g39
   refine W_skip ?_;refine D_then ?_;refine W_seq ?_;refine W_region ?_;refine SG_q (Rq_assign rfl) rfl ?_;refine SG_nil ?_;refine D_then ?_;refine W_block ?_;refine W_loop (α := Nat × Value) (fun y => [(11, .int .i64 (y.1 : Nat)), (9, u35), (7, y.2), (8, .int .i64 (z.1 : Nat)), (6, .int .i64 (x.i : Nat)), (1, vp), (5, .pointer (some ⟨b5, 0, none⟩))]) (fun y w' => Below w.heap.size w w' ∧ (y.1 ≤ (rulesC x.C (z.1 : Int)).length ∧ wl0.heap.size ≤ w'.heap.size) ∧ OS w' y.2 37 2 encR ((canL x.C z.1 ++ ((rulesC x.C (z.1 : Int)).take y.1).map fun r => (⟨r, (z.1 : Int)⟩ : Rw))) wl0.heap.size ∧ OS w' u35 5 1 encU (rulesC x.C (z.1 : Int)) 0 ∧ Blk w' b5 [x.v1, x.v2, x.v3] 29 ∧ (SL w' x.v1 3 encC x.C.ch ∧ SL w' x.v2 5 encO x.C.ops ∧ SL w' x.v3 1 encI x.C.roots) ∧ SL w' vp 1 encU ps) (fun y => (rulesC x.C (z.1 : Int)).length - y.1) ((0, z.2)) (by repeat (first | exact Sub.nil | refine Sub.cons rfl ?_)) ⟨hb0, ⟨Nat.zero_le _, by have := hb33.size; have := hb35.size; omega⟩, by simpa using hZ, hr1.le (Nat.zero_le _), hB5, ⟨hu1, hu2, hu3⟩, hp⟩ ?_;clear hb0;clear hB5;clear hu1;clear hu2;clear hu3;clear hp;clear hZ;clear ht1;clear ht2;clear ht3;clear hr1;rintro y wl2 ⟨hb0, ⟨hyi, hyw⟩, hY, hr1, hB5, ⟨hu1, hu2, hu3⟩, hp⟩;refine W_seq ?_;refine W_seq ?_;refine W_region ?_;refine SG_q (Rq_move rfl) rfl ?_;refine SG_q (Rq_move rfl) rfl ?_
   first | refine SG_q (Rq_len (hu1) Try.runUnderlying24 rfl) rfl ?_ | refine SG_q (Rq_len (hu2) Try.runUnderlying24 rfl) rfl ?_ | refine SG_q (Rq_len (hu3) Try.runUnderlying24 rfl) rfl ?_ | refine SG_q (Rq_len (hp) Try.runUnderlying24 rfl) rfl ?_ | refine SG_q (Rq_len (hY.sl) Try.runUnderlying24 rfl) rfl ?_ | refine SG_q (Rq_len (hr1.sl) Try.runUnderlying24 rfl) rfl ?_
   refine SG_q (Rq_lss rfl rfl) rfl (SG_nil (D_then ?_));refine W_cond rfl ?_ ?_
   ·intro g43
    try simp only [dd] at g43
    have hcb1 := canL_len x.C z.1; have hcb2 := rulesC_len x.C (z.1 : Int)
    have hcb3 : ((List.take y.1 (rulesC x.C (z.1 : Int))).map fun r => (⟨r, (z.1 : Int)⟩ : Rw)).length ≤ 11 := by rw [List.length_map, List.length_take]; omega
    obtain ⟨q, hq9⟩ : ∃ q, (rulesC x.C (z.1 : Int))[y.1]? = some q := ⟨_, List.getElem?_eq_getElem (by omega)⟩
    refine W_skip (D_then (W_seq (W_block (W_region (SG_q (Rq_move rfl) rfl (SG_q (Rq_move rfl) rfl (SG_q (Rq_move rfl) rfl ?_)))))))
    first | refine SG_index (hu1) Try.runUnderlying24 Try.sizeOf5 rfl rfl ?_ ?_ rfl ?_ | refine SG_index (hu2) Try.runUnderlying24 Try.sizeOf5 rfl rfl ?_ ?_ rfl ?_ | refine SG_index (hu3) Try.runUnderlying24 Try.sizeOf5 rfl rfl ?_ ?_ rfl ?_ | refine SG_index (hp) Try.runUnderlying24 Try.sizeOf5 rfl rfl ?_ ?_ rfl ?_ | refine SG_index (hY.sl) Try.runUnderlying24 Try.sizeOf5 rfl rfl ?_ ?_ rfl ?_ | refine SG_index (hr1.sl) Try.runUnderlying24 Try.sizeOf5 rfl rfl ?_ ?_ rfl ?_
    ·omega
    ·omega
    intro x49 hx49 hc49;have ex49 := Option.some.inj ((hq9).symm.trans hx49); subst ex49;refine SG_q (Rq_load Try.isAgg5 rfl ((hc49).cell 0 rfl)) rfl (SG_q (Rq_move rfl) rfl (SG_q (Rq_build2 build37_0_1 rfl rfl rfl rfl ) rfl (SG_bslice (enc := encR) (val := valR) (os := [.tmp 52]) rfl rfl (MV.cons (x := (⟨q, (z.1 : Int)⟩ : Rw)) MV.nil) (fun _ => rfl) (fun _ => rfl) Try.runUnderlying31 Try.sizeOf37 Try.zeroValue37 rfl (by decide) (by decide) rfl ?_)));intro w53 v53 b53 e53 hb53 hz53 hob53 hO53
    have hle53 : w.heap.size ≤ b53 := by have := hb0.size; omega
    have lt_b5_53 : b5 < b53 := by have := hB5.lt; omega
    replace hb0 := btr hb0 hb53;replace hB5 := hB5.below hb53;replace hu1 := hu1.below hb53;replace hu2 := hu2.below hb53;replace hu3 := hu3.below hb53;replace hp := hp.below hb53;replace hY := hY.below hb53;replace hr1 := hr1.below hb53;refine SG_append (hY) (hO53.sl) Try.underlying31 info37 rfl rfl rfl (fun _ _ => rfl) (by simp only [List.length_append, List.length_cons, List.length_nil]; omega) (by simp only [List.length_append, List.length_cons, List.length_nil]; omega) (by have := hb53.size; omega) rfl ?_;intro v54 w54 hO54 hch54 hsn54;replace hb0 := hb0.trans (hch54.below hb0.size (fun k hk e => by have := (hY).lt e; omega))
    replace hB5 := (hB5.chg hch54 (fun e => by have := (hY.lt e).1; omega))
    replace hu1 := (hu1.chg hch54 (fun hq e => by have := hul1 hq; have := (hY.lt e).1; omega))
    replace hu2 := (hu2.chg hch54 (fun hq e => by have := hul2 hq; have := (hY.lt e).1; omega))
    replace hu3 := (hu3.chg hch54 (fun hq e => by have := hul3 hq; have := (hY.lt e).1; omega))
    replace hp := (hp.chg hch54 (fun hq e => by have := hpl hq; have := (hY.lt e).1; omega))
    replace hr1 := (hr1.chg hch54 (fun b hb e => OS.ne_type hr1 hY (by decide) b hb e))
    clear hc49;clear hO53;clear hY;refine SG_q (Rq_assign rfl) rfl ?_;refine SG_nil ?_;refine D_block ?_;refine D_then ?_;refine W_region ?_;refine SG_q (Rq_move rfl) rfl ?_;refine SG_q (Rq_add rfl rfl (wrap_i64 (by omega) (by omega))) rfl ?_;refine SG_q (Rq_assign rfl) rfl ?_;refine SG_nil ?_;refine D_loop ((y.1 + 1, _)) (by repeat (first | exact Sub.nil | refine Sub.cons rfl ?_)) ⟨hb0, ⟨by dsimp only; omega, by have := hb53.size; have := hch54.size; omega⟩, by dsimp only; rw [take_succ_get hq9, List.map_append, ← List.append_assoc]; exact hO54, hr1, hB5, ⟨hu1, hu2, hu3⟩, hp⟩ (by dsimp only; omega)
   ·intro g43
    try simp only [dd] at g43
    rw [List.take_of_length_le (show (rulesC x.C (z.1 : Int)).length ≤ y.1 by omega), ← canL_succ] at hY;refine W_exit ?_;refine D_then_exit ?_;refine D_loop_exit ?_;refine D_block_exit ?_;refine D_block ?_;refine D_then ?_;refine W_region ?_;refine SG_q (Rq_move rfl) rfl ?_;refine SG_q (Rq_add rfl rfl (wrap_i64 (by omega) (by omega))) rfl ?_;refine SG_q (Rq_assign rfl) rfl ?_;refine SG_nil ?_;refine D_loop ((z.1 + 1, y.2)) (by repeat (first | exact Sub.nil | refine Sub.cons rfl ?_)) ⟨hb0, ⟨by dsimp only; omega, hyw⟩, hY, hB5, ⟨hu1, hu2, hu3⟩, hp⟩ (by dsimp only; omega)
 ·intro g28
  try simp only [dd] at g28
  have hze : z.1 = x.C.ops.length := by omega
  rw [hze] at hZ;refine W_exit (D_then_exit (D_loop_exit ?_));refine D_block_exit (D_then (W_seq (W_seq (W_region (SG_q (Rq_move rfl) rfl ?_)))))
  first | refine SG_q (Rq_len (hu1) Try.runUnderlying31 rfl) rfl ?_ | refine SG_q (Rq_len (hu2) Try.runUnderlying31 rfl) rfl ?_ | refine SG_q (Rq_len (hu3) Try.runUnderlying31 rfl) rfl ?_ | refine SG_q (Rq_len (hp) Try.runUnderlying31 rfl) rfl ?_ | refine SG_q (Rq_len (hZ.sl) Try.runUnderlying31 rfl) rfl ?_
  refine SG_q (Rq_eql rfl rfl) rfl (SG_nil (D_then ?_));refine W_cond rfl ?_ ?_
  ·intro g57
   try simp only [dd] at g57
   have hcn : canL x.C x.C.ops.length = [] := List.length_eq_zero_iff.1 (by omega);have hn0 : nextR x.C = none := next_no (fun j hj => canL_nil hcn j hj);refine W_exit (D_then_exit (D_block_other rfl (D_then_exit (D_loop_exit ?_))));refine D_block_exit (D_then (W_seq (W_region ?_)))
   first | refine SG_q (Rq_loadBW (hB5) Try.isAgg29 Try.sizeOf29 rfl rfl) rfl ?_ | refine SG_q (Rq_loadBA (hB5) Try.isAgg29 Try.sizeOf29 rfl rfl rfl) rfl ?_
   refine SG_call rfl Try.call8 rfl (f8_c (⟨⟨_, _, _, rfl, (hu1), (hu2), (hu3)⟩⟩ : CoS _ _ x.C) p1 p2 p3) ?_;rintro v103 w103 hb103 ⟨ta1, tn1, tc1, ta2, tn2, tc2, ta3, tn3, tc3, rfl, ht1, ht2, ht3⟩;replace hb0 := btr hb0 hb103;replace hB5 := hB5.below hb103;replace hu1 := hu1.below hb103;replace hu2 := hu2.below hb103;replace hu3 := hu3.below hb103;replace hp := hp.below hb103;replace hZ := hZ.below hb103;replace ht1 := ht1.sl;replace ht2 := ht2.sl;replace ht3 := ht3.sl;refine SG_call rfl Try.call11 rfl (f11_c (C := x.C) (ht1) (ht2) (ht3) p1 p2 p3) ?_;rintro v104 w104 hb104 rfl;replace hb0 := btr hb0 hb104;replace hB5 := hB5.below hb104;replace hu1 := hu1.below hb104;replace hu2 := hu2.below hb104;replace hu3 := hu3.below hb104;replace hp := hp.below hb104;replace hZ := hZ.below hb104;replace ht1 := ht1.below hb104;replace ht2 := ht2.below hb104;replace ht3 := ht3.below hb104;refine SG_q (Rq_move rfl) rfl (SG_q (Rq_extract rfl rfl) rfl (SG_q (Rq_extract rfl rfl) rfl (SG_alloc Try.zeroValue37 rfl rfl ?_)));intro w15 b15 e15 hb15 hz15 hB15
   have hle15 : w.heap.size ≤ b15 := by have := hb0.size; omega
   have ne_b5_15 : ¬ b5 = b15 := by have := hB5.lt; omega
   have ne_hu1_b15 := hu1.fresh (b := b15) (by omega);have ne_hu2_b15 := hu2.fresh (b := b15) (by omega);have ne_hu3_b15 := hu3.fresh (b := b15) (by omega);have ne_hp_b15 := hp.fresh (b := b15) (by omega)
   have ne_hZ_b15 : ∀ k, Value.ownBlock z.2 = some k → ¬ k = b15 := fun k e => by have := hZ.lt e; omega
   have ne_ht1_b15 := ht1.fresh (b := b15) (by omega);have ne_ht2_b15 := ht2.fresh (b := b15) (by omega);have ne_ht3_b15 := ht3.fresh (b := b15) (by omega);replace hb0 := btr hb0 hb15;replace hB5 := hB5.below hb15;replace hu1 := hu1.below hb15;replace hu2 := hu2.below hb15;replace hu3 := hu3.below hb15;replace hp := hp.below hb15;replace hZ := hZ.below hb15;replace ht1 := ht1.below hb15;replace ht2 := ht2.below hb15;replace ht3 := ht3.below hb15;refine SG_storeW (hB15) rfl rfl rfl rfl Try.sizeOf37 rfl rfl ?_;intro ws23x7 hchs23x7 hBs23x7;replace hb0 := bchg hb0 hchs23x7 hle15;replace hB5 := hB5.chg hchs23x7 ne_b5_15;replace hu1 := hu1.chg hchs23x7 ne_hu1_b15;replace hu2 := hu2.chg hchs23x7 ne_hu2_b15;replace hu3 := hu3.chg hchs23x7 ne_hu3_b15;replace hp := hp.chg hchs23x7 ne_hp_b15;replace hZ := hZ.chg hchs23x7 (fun k e e2 => by first | exact ne_hZ_b15 k e e2 | (have := hZ.lt e; have := ne_hZ_b15; omega));replace ht1 := ht1.chg hchs23x7 ne_ht1_b15;replace ht2 := ht2.chg hchs23x7 ne_ht2_b15;replace ht3 := ht3.chg hchs23x7 ne_ht3_b15;clear hB15;refine SG_q (Rq_assign rfl) rfl ?_;refine SG_nil ?_;refine D_then ?_;refine W_seq ?_;refine W_region ?_
   first | refine SG_q (Rq_loadBW (hB5) Try.isAgg29 Try.sizeOf29 rfl rfl) rfl ?_ | refine SG_q (Rq_loadBA (hB5) Try.isAgg29 Try.sizeOf29 rfl rfl rfl) rfl ?_
   refine SG_call rfl Try.call8 rfl (f8_c (⟨⟨_, _, _, rfl, (hu1), (hu2), (hu3)⟩⟩ : CoS _ _ x.C) p1 p2 p3) ?_;rintro v109 w109 hb109 ⟨ka1, kn1, kc1, ka2, kn2, kc2, ka3, kn3, kc3, rfl, hk1, hk2, hk3⟩;replace hb0 := btr hb0 hb109;replace hu1 := hu1.below hb109;replace hu2 := hu2.below hb109;replace hu3 := hu3.below hb109;replace hp := hp.below hb109;replace hZ := hZ.below hb109;replace ht1 := ht1.below hb109;replace ht2 := ht2.below hb109;replace ht3 := ht3.below hb109;replace hk1 := hk1.sl;replace hk2 := hk2.sl;replace hk3 := hk3.sl;refine SG_call rfl Try.call12 rfl (f12_c (C := x.C) (hk1) (hk2) (hk3) p1 p2 p3) ?_;rintro v110 w110 hb110 ⟨u110, rfl, hst⟩;replace hb0 := btr hb0 hb110;replace hu1 := hu1.below hb110;replace hu2 := hu2.below hb110;replace hu3 := hu3.below hb110;replace hp := hp.below hb110;replace hZ := hZ.below hb110;replace ht1 := ht1.below hb110;replace ht2 := ht2.below hb110;replace ht3 := ht3.below hb110;replace hk1 := hk1.below hb110;replace hk2 := hk2.below hb110;replace hk3 := hk3.below hb110;rw [if_pos hckx, steps_at_end hn0] at hst;replace hst := hst.sl;refine SG_q (Rq_move rfl) rfl ?_;refine SG_q (Rq_extract rfl rfl) rfl ?_;refine SG_q (Rq_extract rfl rfl) rfl ?_;refine SG_q (Rq_assign rfl) rfl ?_;refine SG_q (Rq_assign rfl) rfl ?_;refine SG_nil ?_;refine D_then ?_;refine W_seq ?_;refine W_region ?_;refine SG_q (Rq_move rfl) rfl ?_;refine SG_q (Rq_eql rfl rfl) rfl ?_;refine SG_q (Rq_move rfl) rfl ?_;refine SG_and (r := ?r115n1) 3 118 115 rfl ?_ ?_ ?_; rotate_left
   ·intro g115 K115
    have g115' := g115; try simp only [dd] at g115'
    have hm115 := Below.refl (w110).heap.size w110;refine SG_yes 115 rfl rfl g115 (SG_q (Rq_move rfl) rfl (SG_yes 115 rfl rfl g115 (SG_q (Rq_eql rfl rfl) rfl (SG_q (Rq_pick rfl (fun _ => rfl) (fun h => absurd (g115.symm.trans h) (by decide))) rfl ?_))));exact K115 _ _ hm115 (by repeat (first | exact Sub.refl | refine Sub.shadow ?_ | refine Sub.same ?_ | refine Sub.push rfl ?_))
   ·intro g115 K115
    have g115' := g115; try simp only [dd] at g115'
    have hm115 := Below.refl (w110).heap.size w110;refine SG_no 115 rfl rfl g115 rfl (SG_no 115 rfl rfl g115 rfl (SG_q (Rq_pick rfl (fun h => absurd (g115.symm.trans h) (by decide)) (fun _ => rfl)) rfl ?_));exact K115 _ _ hm115 (by repeat (first | exact Sub.refl | refine Sub.shadow ?_ | refine Sub.same ?_ | refine Sub.push rfl ?_))
   intro wm115 hbm115;replace hb0 := btr hb0 hbm115;replace hu1 := hu1.below hbm115;replace hu2 := hu2.below hbm115;replace hu3 := hu3.below hbm115;replace hp := hp.below hbm115;replace hZ := hZ.below hbm115;replace ht1 := ht1.below hbm115;replace ht2 := ht2.below hbm115;replace ht3 := ht3.below hbm115;replace hk1 := hk1.below hbm115;replace hk2 := hk2.below hbm115;replace hk3 := hk3.below hbm115;replace hst := hst.below hbm115
   simp only [List.drop_succ_cons, List.drop_zero]
   refine SG_q (Rq_move rfl) rfl ?_;refine SG_and (r := ?r119n2) 4 123 119 rfl ?_ ?_ ?_; rotate_left
   ·intro g119 K119
    have g119' := g119; try simp only [dd] at g119'
    have hm119 := Below.refl (wm115).heap.size wm115;refine SG_yes 119 rfl rfl g119 (SG_q (Rq_move rfl) rfl (SG_yes 119 rfl rfl g119 ?_))
    first | refine SG_q (Rq_len (hu1) Try.runUnderlying31 rfl) rfl ?_ | refine SG_q (Rq_len (hu2) Try.runUnderlying31 rfl) rfl ?_ | refine SG_q (Rq_len (hu3) Try.runUnderlying31 rfl) rfl ?_ | refine SG_q (Rq_len (hp) Try.runUnderlying31 rfl) rfl ?_ | refine SG_q (Rq_len (ht1) Try.runUnderlying31 rfl) rfl ?_ | refine SG_q (Rq_len (ht2) Try.runUnderlying31 rfl) rfl ?_ | refine SG_q (Rq_len (ht3) Try.runUnderlying31 rfl) rfl ?_ | refine SG_q (Rq_len (hk1) Try.runUnderlying31 rfl) rfl ?_ | refine SG_q (Rq_len (hk2) Try.runUnderlying31 rfl) rfl ?_ | refine SG_q (Rq_len (hk3) Try.runUnderlying31 rfl) rfl ?_ | refine SG_q (Rq_len (hst) Try.runUnderlying31 rfl) rfl ?_ | refine SG_q (Rq_len (hZ.sl) Try.runUnderlying31 rfl) rfl ?_
    refine SG_yes 119 rfl rfl g119 (SG_q (Rq_eql rfl rfl) rfl (SG_q (Rq_pick rfl (fun _ => rfl) (fun h => absurd (g119.symm.trans h) (by decide))) rfl ?_));exact K119 _ _ hm119 (by repeat (first | exact Sub.refl | refine Sub.shadow ?_ | refine Sub.same ?_ | refine Sub.push rfl ?_))
   ·intro g119 K119
    have g119' := g119; try simp only [dd] at g119'
    have hm119 := Below.refl (wm115).heap.size wm115;refine SG_no 119 rfl rfl g119 rfl (SG_no 119 rfl rfl g119 rfl (SG_no 119 rfl rfl g119 rfl (SG_q (Rq_pick rfl (fun h => absurd (g119.symm.trans h) (by decide)) (fun _ => rfl)) rfl ?_)));exact K119 _ _ hm119 (by repeat (first | exact Sub.refl | refine Sub.shadow ?_ | refine Sub.same ?_ | refine Sub.push rfl ?_))
   intro wm119 hbm119;replace hb0 := btr hb0 hbm119
   simp only [List.drop_succ_cons, List.drop_zero]
   refine SG_q (Rq_move rfl) rfl ?_;refine SG_and (r := ?r124n3) 2 126 124 rfl ?_ ?_ ?_; rotate_left
   ·intro g124 K124
    have g124' := g124; try simp only [dd] at g124'
    have hm124 := Below.refl (wm119).heap.size wm119;refine SG_yes 124 rfl rfl g124 (SG_pure rfl Try.call13 rfl (f13_c _) ?_);intro w125 hb125;replace hb0 := btr hb0 hb125;replace hm124 := btr hm124 hb125;refine SG_q (Rq_pick rfl (fun _ => rfl) (fun h => absurd (g124.symm.trans h) (by decide))) rfl ?_;exact K124 _ _ hm124 (by repeat (first | exact Sub.refl | refine Sub.shadow ?_ | refine Sub.same ?_ | refine Sub.push rfl ?_))
   ·intro g124 K124
    have g124' := g124; try simp only [dd] at g124'
    have hm124 := Below.refl (wm119).heap.size wm119;refine SG_no 124 rfl rfl g124 rfl (SG_q (Rq_pick rfl (fun h => absurd (g124.symm.trans h) (by decide)) (fun _ => rfl)) rfl ?_);exact K124 _ _ hm124 (by repeat (first | exact Sub.refl | refine Sub.shadow ?_ | refine Sub.same ?_ | refine Sub.push rfl ?_))
   intro wm124 hbm124;replace hb0 := btr hb0 hbm124
   simp only [List.drop_succ_cons, List.drop_zero]
   refine SG_q (Rq_assign rfl) rfl (SG_nil (D_then (W_ret (D_body1 rfl rfl rfl ?_))));exact ⟨by simp [hckx, hn0], hb0⟩
  ·intro g57
   try simp only [dd] at g57
   refine W_skip (D_then (W_seq (W_region (SG_q (Rq_assign rfl) rfl (SG_nil (D_then (W_seq (W_seq (W_region (SG_q (Rq_move rfl) rfl ?_))))))))))
   first | refine SG_q (Rq_len (hu1) Try.runUnderlying24 rfl) rfl ?_ | refine SG_q (Rq_len (hu2) Try.runUnderlying24 rfl) rfl ?_ | refine SG_q (Rq_len (hu3) Try.runUnderlying24 rfl) rfl ?_ | refine SG_q (Rq_len (hp) Try.runUnderlying24 rfl) rfl ?_ | refine SG_q (Rq_len (hZ.sl) Try.runUnderlying24 rfl) rfl ?_
   refine SG_q (Rq_gtr rfl rfl) rfl (SG_nil (D_then ?_));refine W_cond rfl ?_ ?_
   ·intro g60
    try simp only [dd] at g60
    refine W_region (SG_q (Rq_move rfl) rfl (SG_q (Rq_move rfl) rfl (SG_q (Rq_move rfl) rfl ?_)))
    first | refine SG_q (Rq_len (hu1) Try.runUnderlying24 rfl) rfl ?_ | refine SG_q (Rq_len (hu2) Try.runUnderlying24 rfl) rfl ?_ | refine SG_q (Rq_len (hu3) Try.runUnderlying24 rfl) rfl ?_ | refine SG_q (Rq_len (hp) Try.runUnderlying24 rfl) rfl ?_ | refine SG_q (Rq_len (hZ.sl) Try.runUnderlying24 rfl) rfl ?_
    have hm65 := tmod_bd (a := (x.i : Int)) (n := (ps.length : Int)) (by omega) (by omega);refine SG_q (Rq_rem rfl rfl (by omega) ) rfl ?_
    first | refine SG_index (hu1) Try.runUnderlying24 Try.sizeOf5 rfl rfl ?_ ?_ rfl ?_ | refine SG_index (hu2) Try.runUnderlying24 Try.sizeOf5 rfl rfl ?_ ?_ rfl ?_ | refine SG_index (hu3) Try.runUnderlying24 Try.sizeOf5 rfl rfl ?_ ?_ rfl ?_ | refine SG_index (hp) Try.runUnderlying24 Try.sizeOf5 rfl rfl ?_ ?_ rfl ?_ | refine SG_index (hZ.sl) Try.runUnderlying24 Try.sizeOf5 rfl rfl ?_ ?_ rfl ?_
    ·omega
    ·omega
    intro x66 hx66 hc66;refine SG_q (Rq_load Try.isAgg5 rfl ((hc66).cell 0 rfl)) rfl ?_;have hpp := hpsq _ (List.mem_of_getElem? hx66);refine SG_q (Rq_convert Try.runUnderlying5 Try.runUnderlying3 rfl (wrap_i64 (by omega) (by omega))) rfl (SG_q (Rq_move rfl) rfl ?_)
    first | refine SG_q (Rq_len (hu1) Try.runUnderlying31 rfl) rfl ?_ | refine SG_q (Rq_len (hu2) Try.runUnderlying31 rfl) rfl ?_ | refine SG_q (Rq_len (hu3) Try.runUnderlying31 rfl) rfl ?_ | refine SG_q (Rq_len (hp) Try.runUnderlying31 rfl) rfl ?_ | refine SG_q (Rq_len (hZ.sl) Try.runUnderlying31 rfl) rfl ?_
    have hm71 := tmod_bd (a := x66) (n := ((canL x.C x.C.ops.length).length : Int)) (by omega) (by omega);refine SG_q (Rq_rem rfl rfl (by omega) ) rfl ?_
    obtain ⟨r, hel⟩ : ∃ r, (canL x.C x.C.ops.length)[(x66.tmod ((canL x.C x.C.ops.length).length : Int)).toNat]? = some r := ⟨_, List.getElem?_eq_getElem (by omega)⟩
    obtain ⟨hr0, hr1, hap⟩ := canL_mem (List.mem_of_getElem? hel);have hrp := replay_one hckx hr0 hr1 hap;have hck2 := app_check hckx hr0 hr1 hap;have hless := app_less hckx hr0 hr1 hap;obtain ⟨hlen1, hlen2, hlen3⟩ := appR_len x.C r;have hpos := refs_nonneg hck2;refine SG_q (Rq_assign rfl) rfl ?_;refine SG_nil ?_;refine D_then ?_;refine W_seq ?_;have hz5 := hB5.lt;refine W_anyG 12 [[], [0], [], [], [2, 3], [4], [1, 5], [6], [7], [7], [], [10, 8]] (List.replicate 1 (FrE wl1.heap.size 29 3)) (fun w9 => Below wl1.heap.size wl1 w9) [gdet [] ?a19_0n4, gfrs [0] ((CoW 59 55 3 wl1.heap.size x.C)), gdet [] ?a19_2n4, gdet [] ?a19_3n4, gdet [2, 3] ?a19_4n4, gdet [4] ?a19_5n4, gfrs [1, 5] ((fun v w _ _ => ∃ u, v = .tuple #[u, .int .i64 0] ∧ CoO 59 55 3 wl1.heap.size w u (appR x.C r))), gfrs [6] ((fun v w _ _ => ∃ u, v = .tuple #[u, .int .i64 0] ∧ CoO 59 55 3 wl1.heap.size w u (appR x.C r))), gfrs [7] ((fun v w _ _ => CoO 59 55 3 wl1.heap.size w v (appR x.C r))), gdet [7] ?a19_9n4, gfrs [] (AllocL wl1.heap.size 29 3), gsv 0 [10, 8] (StRf 29 (fun vs => (vs.getD 1 undef).cells.toList)) StV] Try.mixed (by kernel_rfl) (by kernel_rfl) rfl rfl (fr_ok rfl) (fs_stab (tg := [10]) rfl (by decide) ⟨.det, .val (fun _ _ _ _ _ hc h => CoW.frR (by decide) (by decide) (by decide) h hc), .det, .det, .det, .det, .val (fun _ _ _ _ _ hc ⟨u, e, h⟩ => ⟨u, e, CoO.frR (by decide) (by decide) (by decide) h hc⟩), .val (fun _ _ _ _ _ hc ⟨u, e, h⟩ => ⟨u, e, CoO.frR (by decide) (by decide) (by decide) h hc⟩), .val (fun _ _ _ _ _ hc h => CoO.frR (by decide) (by decide) (by decide) h hc), .det, .frs, .sv rfl rfl, trivial⟩) (Below.refl _ _) (fun h => h.drew) ?_ ?_; rotate_left 6
    ·refine GObls_cons ?_ ?_
     ·intro wq hq hzq
      refine GObl_nil ?_
      first | (refine GEx_q2 (Rq_loadBW ((hB5).below hq) Try.isAgg29 Try.sizeOf29 rfl rfl) ?_; first | exact rfl | rfl) | (refine GEx_q2 (Rq_loadBA ((hB5).below hq) Try.isAgg29 Try.sizeOf29 rfl rfl rfl) ?_; first | exact rfl | rfl)
     refine GObls_cons ?_ ?_
     ·intro wq hq hzq
      refine GObl_det rfl rfl rfl (GObl_nil ?_);exact GEx.of (Ex_call rfl Try.call8 (Fn.mono (f8_c (⟨⟨_, _, _, rfl, hu1.below hq, hu2.below hq, hu3.below hq⟩⟩ : CoS _ _ x.C) p1 p2 p3) fun v w' hb h => CoW.le h hzq))
     refine GObls_cons ?_ ?_
     ·intro wq hq hzq
      refine GObl_nil ?_
      refine GEx_q2 (Rq_move rfl) ?_; first | exact rfl | rfl
     refine GObls_cons ?_ ?_
     ·intro wq hq hzq
      refine GObl_nil ?_
      refine GEx_q2 (Rq_move rfl) ?_; first | exact rfl | rfl
     refine GObls_cons ?_ ?_
     ·intro wq hq hzq
      refine GObl_det rfl rfl rfl (GObl_det rfl rfl rfl (GObl_nil ?_))
      refine GEx_q2 (Rq_index (hZ.sl.below hq) Try.runUnderlying31 Try.sizeOf37 rfl rfl (by omega) (by omega)) ?_; first | exact rfl | rfl
     refine GObls_cons ?_ ?_
     ·intro wq hq hzq
      refine GObl_det rfl rfl rfl (GObl_nil ?_)
      refine GEx_q2 (Rq_loadA Try.isAgg37 Try.sizeOf37 rfl ((hZ.sl.cells _ _ hel).below hq) rfl) ?_; first | exact rfl | rfl
     refine GObls_cons ?_ ?_
     ·intro wq hq hzq
      refine GObl_frs rfl rfl rfl ?_; intro v74 lo74 hi74 hle74 hR74;refine GObl_det rfl rfl rfl ?_;refine GObl_nil ?_;obtain ⟨a1, n1, c1, a2, n2, c2, a3, n3, c3, rfl, k1, k2, k3⟩ := hR74;exact GEx.of (Ex_call rfl Try.call9 (Fn.mono (f9_w k1.sl k2.sl k3.sl p1 p2 p3 r) fun v w' hb ⟨u, e, h⟩ => by rw [hrp] at e h; exact ⟨u, e, CoO.le h hzq⟩))
     refine GObls_cons ?_ ?_
     ·intro wq hq hzq
      refine GObl_frs rfl rfl rfl ?_; intro v79 lo79 hi79 hle79 hR79;refine GObl_nil ?_;exact GEx_qv (Rq_move rfl) (fun _ _ => hR79)
     refine GObls_cons ?_ ?_
     ·intro wq hq hzq
      refine GObl_frs rfl rfl rfl ?_; intro v72 lo72 hi72 hle72 hR72;refine GObl_nil ?_;obtain ⟨vc, rfl, hcw⟩ := hR72;exact GEx_qv (Rq_extract rfl rfl) (fun _ _ => hcw)
     refine GObls_cons ?_ ?_
     ·intro wq hq hzq
      refine GObl_frs rfl rfl rfl ?_; intro v72 lo72 hi72 hle72 hR72;refine GObl_nil ?_;obtain ⟨vc, rfl, _⟩ := hR72
      refine GEx_q2 (Rq_extract rfl rfl) ?_; first | exact rfl | rfl
     refine GObls_cons ?_ ?_
     ·intro wq hq hzq
      refine GObl_nil ?_;exact GEx_allocL (ds := []) (v := undef) (cs := [.slice none 0 0, .slice none 0 0, .slice none 0 0]) hzq (Ex_alloc Try.zeroValue29 rfl)
     refine GObls_cons ?_ ?_
     ·intro wq hq hzq
      refine GObl_frs rfl rfl rfl ?_; intro v13 lo13 hi13 hle13 hR13;refine GObl_frs rfl rfl rfl ?_; intro v80 lo80 hi80 hle80 hR80;refine GObl_nil ?_;obtain ⟨u1, u2, u3, rfl, k1, k2, k3⟩ := hR80;obtain ⟨a1, c1, e1⟩ := k1.sl.len; obtain ⟨a2, c2, e2⟩ := k2.sl.len; obtain ⟨a3, c3, e3⟩ := k3.sl.len;subst e1 e2 e3;exact GEx_stFf hR13 rfl rfl rfl rfl Try.sizeOf29 rfl rfl rfl rfl (by decide)
     exact GObls_nil
    ·intro wa19 hba19 hzz19
     refine GFin_det rfl ?_;refine GFin_frs rfl ?_; intro v74 lo74 hi74 hR74 hlB74 hlh74 hhw74 hdj74;refine GFin_det rfl ?_;refine GFin_det rfl ?_;refine GFin_det rfl ?_;refine GFin_det rfl ?_;refine GFin_frs rfl ?_; intro v79 lo79 hi79 hR79 hlB79 hlh79 hhw79 hdj79;refine GFin_frs rfl ?_; intro v72 lo72 hi72 hR72 hlB72 hlh72 hhw72 hdj72;refine GFin_frs rfl ?_; intro v80 lo80 hi80 hR80 hlB80 hlh80 hhw80 hdj80;refine GFin_det rfl ?_;refine GFin_frs rfl ?_; intro v13 lo13 hi13 hR13 hlB13 hlh13 hhw13 hdj13;refine GFin_sv rfl ?_; intro hs19x11 _; simp only [List.nil_append, List.cons_append, List.map_cons, List.map_nil, List.getD_cons_succ, List.getD_cons_zero, List.getElem?_cons_succ, List.getElem?_cons_zero] at hs19x11;refine GFin_nil ?_
     simp only [List.drop_succ_cons, List.drop_zero]
     replace hb0 := btr hb0 hba19;replace hB5 := hB5.below hba19;replace hu1 := hu1.below hba19;replace hu2 := hu2.below hba19;replace hu3 := hu3.below hba19;replace hp := hp.below hba19;obtain ⟨b13, rfl, hlo13, _, _, _⟩ := hR13;obtain ⟨u1, u2, u3, rfl, hw1, hw2, hw3⟩ := hR80;obtain ⟨wa1, wc1, e1⟩ := hw1.sl.len; obtain ⟨wa2, wc2, e2⟩ := hw2.sl.len; obtain ⟨wa3, wc3, e3⟩ := hw3.sl.len;subst e1 e2 e3;obtain ⟨c13, hv13, hB13⟩ := hs19x11;replace hv13 : Value.pointer (some ⟨b13, 0, none⟩) = .pointer (some ⟨c13, 0, none⟩) := hv13;cases hv13;replace hB13 : Blk wa19 b13 [.slice wa1 (appR x.C r).ch.length wc1, .slice wa2 (appR x.C r).ops.length wc2, .slice wa3 (appR x.C r).roots.length wc3] 29 := hB13;clear hZ
     have ne_hw1_b5 : ∀ q, Value.ownBlock (.slice wa1 (appR x.C r).ch.length wc1) = some q → ¬ q = b5 := fun q e => by have := (hw1.lt e).1; omega
     have ne_hw2_b5 : ∀ q, Value.ownBlock (.slice wa2 (appR x.C r).ops.length wc2) = some q → ¬ q = b5 := fun q e => by have := (hw2.lt e).1; omega
     have ne_hw3_b5 : ∀ q, Value.ownBlock (.slice wa3 (appR x.C r).roots.length wc3) = some q → ¬ q = b5 := fun q e => by have := (hw3.lt e).1; omega
     refine SG_q (Rq_assign rfl) rfl ?_;refine SG_nil ?_;refine D_then ?_;refine W_seq ?_;refine W_seq ?_;refine W_anyT 18 [[], [0], [1], [], [3], [4], [], [6], [7], [5, 8], [2, 9], [10], [], [12], [], [14], [13, 15], [11, 16]] [det [] ?a20_0n5, det [0] (.bool false), det [1] (.bool false), det [] ?a20_3n5, det [3] ?a20_4n5, det [4] ?a20_5n5, det [] ?a20_6n5, det [6] ?a20_7n5, det [7] ?a20_8n5, det [5, 8] (.bool false), det [2, 9] (.bool false), det [10] (.bool false), det [] ?a20_12n5, det [12] ?a20_13n5, det [] ?a20_14n5, det [14] ?a20_15n5, det [13, 15] (.bool false), det [11, 16] (.bool false)] Try.mixed (by kernel_rfl) rfl ⟨.inl rfl, .inl rfl, .inl rfl, .inr ⟨2, false, _, 84, rfl, rfl, rfl, by kernel_rfl, fun _ _ _ _ h => h⟩, .inr ⟨2, false, _, 84, rfl, rfl, rfl, by kernel_rfl, fun _ _ _ _ h => h⟩, .inr ⟨2, false, _, 84, rfl, rfl, rfl, by kernel_rfl, fun _ _ _ _ h => h⟩, .inr ⟨2, false, _, 84, rfl, rfl, rfl, by kernel_rfl, fun _ _ _ _ h => h⟩, .inr ⟨2, false, _, 84, rfl, rfl, rfl, by kernel_rfl, fun _ _ _ _ h => h⟩, .inr ⟨2, false, _, 84, rfl, rfl, rfl, by kernel_rfl, fun _ _ _ _ h => h⟩, .inr ⟨2, false, _, 84, rfl, rfl, rfl, by kernel_rfl, fun _ _ _ _ h => h⟩, .inl rfl, .inl rfl, .inr ⟨11, false, _, 93, rfl, rfl, rfl, by kernel_rfl, fun _ _ _ _ h => h⟩, .inr ⟨11, false, _, 93, rfl, rfl, rfl, by kernel_rfl, fun _ _ _ _ h => h⟩, .inr ⟨11, false, _, 93, rfl, rfl, rfl, by kernel_rfl, fun _ _ _ _ h => h⟩, .inr ⟨11, false, _, 93, rfl, rfl, rfl, by kernel_rfl, fun _ _ _ _ h => h⟩, .inr ⟨11, false, _, 93, rfl, rfl, rfl, by kernel_rfl, fun _ _ _ _ h => h⟩, .inl rfl, trivial⟩ ⟨det_stab _ _, det_stab _ _, det_stab _ _, det_stab _ _, det_stab _ _, det_stab _ _, det_stab _ _, det_stab _ _, det_stab _ _, det_stab _ _, det_stab _ _, det_stab _ _, det_stab _ _, det_stab _ _, det_stab _ _, det_stab _ _, det_stab _ _, det_stab _ _, trivial⟩ ?_ ?_; rotate_left 11
     ·refine Obls_cons ?_ ?_
      ·intro wq hbq
       refine Obl_nil ?_
       refine Ex_q2 (Rq_move rfl) ?_; first | exact rfl | rfl
      refine Obls_cons ?_ ?_
      ·intro wq hbq
       refine Obl_det rfl rfl (Obl_nil ?_)
       refine Ex_q2 (Rq_neq rfl rfl) ?_; first | exact rfl | rfl
      refine Obls_cons ?_ ?_
      ·intro wq hbq
       refine Obl_det rfl rfl (Obl_nil ?_)
       refine Ex_q2 (Rq_move rfl) ?_; first | exact rfl | rfl
      refine Obls_cons ?_ ?_
      ·intro wq hbq
       refine Obl_nil ?_
       refine Ex_q2 (Rq_fieldAddr fa29_1 rfl) ?_; first | exact rfl | rfl
      refine Obls_cons ?_ ?_
      ·intro wq hbq
       refine Obl_det rfl rfl (Obl_nil ?_)
       refine Ex_q2 (Rq_loadB ((hB13).below hbq) Try.isAgg26 rfl rfl) ?_; first | exact rfl | rfl
      refine Obls_cons ?_ ?_
      ·intro wq hbq
       refine Obl_det rfl rfl (Obl_nil ?_)
       first | (refine Ex_q2 (Rq_len ((hu1).below hbq) Try.runUnderlying26 rfl) ?_; first | exact rfl | rfl) | (refine Ex_q2 (Rq_len ((hu2).below hbq) Try.runUnderlying26 rfl) ?_; first | exact rfl | rfl) | (refine Ex_q2 (Rq_len ((hu3).below hbq) Try.runUnderlying26 rfl) ?_; first | exact rfl | rfl) | (refine Ex_q2 (Rq_len ((hp).below hbq) Try.runUnderlying26 rfl) ?_; first | exact rfl | rfl) | (refine Ex_q2 (Rq_len ((hw1.sl).below hbq) Try.runUnderlying26 rfl) ?_; first | exact rfl | rfl) | (refine Ex_q2 (Rq_len ((hw2.sl).below hbq) Try.runUnderlying26 rfl) ?_; first | exact rfl | rfl) | (refine Ex_q2 (Rq_len ((hw3.sl).below hbq) Try.runUnderlying26 rfl) ?_; first | exact rfl | rfl)
      refine Obls_cons ?_ ?_
      ·intro wq hbq
       refine Obl_nil ?_
       refine Ex_q2 (Rq_fieldAddr fa29_1 rfl) ?_; first | exact rfl | rfl
      refine Obls_cons ?_ ?_
      ·intro wq hbq
       refine Obl_det rfl rfl (Obl_nil ?_)
       refine Ex_q2 (Rq_loadB ((hB5).below hbq) Try.isAgg26 rfl rfl) ?_; first | exact rfl | rfl
      refine Obls_cons ?_ ?_
      ·intro wq hbq
       refine Obl_det rfl rfl (Obl_nil ?_)
       first | (refine Ex_q2 (Rq_len ((hu1).below hbq) Try.runUnderlying26 rfl) ?_; first | exact rfl | rfl) | (refine Ex_q2 (Rq_len ((hu2).below hbq) Try.runUnderlying26 rfl) ?_; first | exact rfl | rfl) | (refine Ex_q2 (Rq_len ((hu3).below hbq) Try.runUnderlying26 rfl) ?_; first | exact rfl | rfl) | (refine Ex_q2 (Rq_len ((hp).below hbq) Try.runUnderlying26 rfl) ?_; first | exact rfl | rfl) | (refine Ex_q2 (Rq_len ((hw1.sl).below hbq) Try.runUnderlying26 rfl) ?_; first | exact rfl | rfl) | (refine Ex_q2 (Rq_len ((hw2.sl).below hbq) Try.runUnderlying26 rfl) ?_; first | exact rfl | rfl) | (refine Ex_q2 (Rq_len ((hw3.sl).below hbq) Try.runUnderlying26 rfl) ?_; first | exact rfl | rfl)
      refine Obls_cons ?_ ?_
      ·intro wq hbq
       refine Obl_det rfl rfl ?_;refine Obl_det rfl rfl ?_;refine Obl_nil ?_;refine Ex_q2 (Rq_neq rfl rfl) ?_; exact congrArg Value.bool (by rw [hlen2]; simp)
      refine Obls_cons ?_ ?_
      ·intro wq hbq
       refine Obl_det rfl rfl (Obl_det rfl rfl (Obl_nil ?_))
       refine Ex_q2 (Rq_pick rfl (fun h => by cases h) (fun _ => rfl)) ?_; first | exact rfl | rfl
      refine Obls_cons ?_ ?_
      ·intro wq hbq
       refine Obl_det rfl rfl (Obl_nil ?_)
       refine Ex_q2 (Rq_move rfl) ?_; first | exact rfl | rfl
      refine Obls_cons ?_ ?_
      ·intro wq hbq
       refine Obl_nil ?_
       first | (refine Ex_q2 (Rq_loadBW ((hB13).below hbq) Try.isAgg29 Try.sizeOf29 rfl rfl) ?_; first | exact rfl | rfl) | (refine Ex_q2 (Rq_loadBA ((hB13).below hbq) Try.isAgg29 Try.sizeOf29 rfl rfl rfl) ?_; first | exact rfl | rfl)
      refine Obls_cons ?_ ?_
      ·intro wq hbq
       refine Obl_det rfl rfl (Obl_nil ?_)
       refine Ex_call rfl Try.call10 (fn_det2 (f10_c (⟨⟨_, _, _, rfl, ((hw1.sl).below hbq), ((hw2.sl).below hbq), ((hw3.sl).below hbq)⟩⟩ : CoS _ _ (appR x.C r)) hck2) ?_); first | exact rfl | rfl
      refine Obls_cons ?_ ?_
      ·intro wq hbq
       refine Obl_nil ?_
       first | (refine Ex_q2 (Rq_loadBW ((hB5).below hbq) Try.isAgg29 Try.sizeOf29 rfl rfl) ?_; first | exact rfl | rfl) | (refine Ex_q2 (Rq_loadBA ((hB5).below hbq) Try.isAgg29 Try.sizeOf29 rfl rfl rfl) ?_; first | exact rfl | rfl)
      refine Obls_cons ?_ ?_
      ·intro wq hbq
       refine Obl_det rfl rfl (Obl_nil ?_)
       refine Ex_call rfl Try.call10 (fn_det2 (f10_c (⟨⟨_, _, _, rfl, ((hu1).below hbq), ((hu2).below hbq), ((hu3).below hbq)⟩⟩ : CoS _ _ x.C) hckx) ?_); first | exact rfl | rfl
      refine Obls_cons ?_ ?_
      ·intro wq hbq
       refine Obl_det rfl rfl (Obl_det rfl rfl (Obl_nil (Ex_q2 (Rq_geq rfl rfl) ?_))); exact congrArg Value.bool ((decide_eq_false (by omega)).symm)
      refine Obls_cons ?_ ?_
      ·intro wq hbq
       refine Obl_det rfl rfl (Obl_det rfl rfl (Obl_nil ?_))
       refine Ex_q2 (Rq_pick rfl (fun h => by cases h) (fun _ => rfl)) ?_; first | exact rfl | rfl
      exact Obls_nil
     ·intro wa20 hba20
      replace hb0 := btr hb0 hba20;replace hB5 := hB5.below hba20;replace hp := hp.below hba20;replace hB13 := hB13.below hba20;replace hw1 := hw1.below hba20;replace hw2 := hw2.below hba20;replace hw3 := hw3.below hba20;refine Fin_det rfl (Fin_det rfl (Fin_det rfl (Fin_det rfl (Fin_det rfl (Fin_det rfl (Fin_det rfl (Fin_det rfl (Fin_det rfl (Fin_det rfl (Fin_det rfl (Fin_det rfl (Fin_det rfl (Fin_det rfl (Fin_det rfl (Fin_det rfl (Fin_det rfl (Fin_det rfl (Fin_nil ?_))))))))))))))))))
      simp only [List.drop_succ_cons, List.drop_zero]
      refine SG_nil (D_then ?_);refine W_cond rfl ?_ ?_
      ·intro g99; exfalso; (try simp only [dd] at g99); simp at g99
      ·intro g99
       try simp only [dd] at g99
       refine W_skip (D_then (W_region ?_))
       first | refine SG_q (Rq_loadBW (hB13) Try.isAgg29 Try.sizeOf29 rfl rfl) rfl ?_ | refine SG_q (Rq_loadBA (hB13) Try.isAgg29 Try.sizeOf29 rfl rfl rfl) rfl ?_
       refine SG_storeW (hB5) rfl rfl rfl rfl Try.sizeOf29 rfl rfl ?_;intro ws22x1 hchs22x1 hBs22x1;replace hb0 := bchg hb0 hchs22x1 hle5;replace hp := hp.chg hchs22x1 ne_hp_b5;replace hw1 := hw1.chg hchs22x1 (fun k e e2 => by first | exact ne_hw1_b5 k e e2 | (have := hw1.lt e; have := ne_hw1_b5; omega));replace hw2 := hw2.chg hchs22x1 (fun k e e2 => by first | exact ne_hw2_b5 k e e2 | (have := hw2.lt e; have := ne_hw2_b5; omega));replace hw3 := hw3.chg hchs22x1 (fun k e e2 => by first | exact ne_hw3_b5 k e e2 | (have := hw3.lt e; have := ne_hw3_b5; omega));clear hB5;refine SG_nil ?_;refine D_block ?_;refine D_then ?_;refine W_region ?_;refine SG_q (Rq_move rfl) rfl ?_;refine SG_q (Rq_add rfl rfl (wrap_i64 (by omega) (by omega))) rfl ?_;refine SG_q (Rq_assign rfl) rfl ?_;refine SG_nil ?_;refine D_loop ((⟨x.i + 1, appR x.C r, _, _, _⟩ : Ex)) (by repeat (first | exact Sub.nil | refine Sub.cons rfl ?_)) ⟨hb0, ⟨hck2, ⟨by dsimp only; rw [hlen1]; exact hl1, by dsimp only; omega, by dsimp only; omega⟩, by dsimp only; push_cast; omega⟩, hBs22x1, ⟨hw1.sl, hw2.sl, hw3.sl⟩, hp, (fun hq e => ne_hw1_b5 _ (sb_own hw1.sl hq) e), (fun hq e => ne_hw2_b5 _ (sb_own hw2.sl hq) e), (fun hq e => ne_hw3_b5 _ (sb_own hw3.sl hq) e)⟩ (by dsimp only; omega)
   ·intro g60
    try simp only [dd] at g60
    obtain ⟨r, hel⟩ : ∃ r, (canL x.C x.C.ops.length)[((0 : Int)).toNat]? = some r := ⟨_, List.getElem?_eq_getElem (by omega)⟩
    obtain ⟨hr0, hr1, hap⟩ := canL_mem (List.mem_of_getElem? hel);have hrp := replay_one hckx hr0 hr1 hap;have hck2 := app_check hckx hr0 hr1 hap;have hless := app_less hckx hr0 hr1 hap;obtain ⟨hlen1, hlen2, hlen3⟩ := appR_len x.C r;have hpos := refs_nonneg hck2;refine W_skip ?_;refine D_then ?_;refine W_seq ?_;have hz5 := hB5.lt;refine W_anyG 12 [[], [0], [], [], [2, 3], [4], [1, 5], [6], [7], [7], [], [10, 8]] (List.replicate 1 (FrE wl1.heap.size 29 3)) (fun w9 => Below wl1.heap.size wl1 w9) [gdet [] ?a19_0n6, gfrs [0] ((CoW 59 55 3 wl1.heap.size x.C)), gdet [] ?a19_2n6, gdet [] ?a19_3n6, gdet [2, 3] ?a19_4n6, gdet [4] ?a19_5n6, gfrs [1, 5] ((fun v w _ _ => ∃ u, v = .tuple #[u, .int .i64 0] ∧ CoO 59 55 3 wl1.heap.size w u (appR x.C r))), gfrs [6] ((fun v w _ _ => ∃ u, v = .tuple #[u, .int .i64 0] ∧ CoO 59 55 3 wl1.heap.size w u (appR x.C r))), gfrs [7] ((fun v w _ _ => CoO 59 55 3 wl1.heap.size w v (appR x.C r))), gdet [7] ?a19_9n6, gfrs [] (AllocL wl1.heap.size 29 3), gsv 0 [10, 8] (StRf 29 (fun vs => (vs.getD 1 undef).cells.toList)) StV] Try.mixed (by kernel_rfl) (by kernel_rfl) rfl rfl (fr_ok rfl) (fs_stab (tg := [10]) rfl (by decide) ⟨.det, .val (fun _ _ _ _ _ hc h => CoW.frR (by decide) (by decide) (by decide) h hc), .det, .det, .det, .det, .val (fun _ _ _ _ _ hc ⟨u, e, h⟩ => ⟨u, e, CoO.frR (by decide) (by decide) (by decide) h hc⟩), .val (fun _ _ _ _ _ hc ⟨u, e, h⟩ => ⟨u, e, CoO.frR (by decide) (by decide) (by decide) h hc⟩), .val (fun _ _ _ _ _ hc h => CoO.frR (by decide) (by decide) (by decide) h hc), .det, .frs, .sv rfl rfl, trivial⟩) (Below.refl _ _) (fun h => h.drew) ?_ ?_; rotate_left 6
    ·refine GObls_cons ?_ ?_
     ·intro wq hq hzq
      refine GObl_nil ?_
      first | (refine GEx_q2 (Rq_loadBW ((hB5).below hq) Try.isAgg29 Try.sizeOf29 rfl rfl) ?_; first | exact rfl | rfl) | (refine GEx_q2 (Rq_loadBA ((hB5).below hq) Try.isAgg29 Try.sizeOf29 rfl rfl rfl) ?_; first | exact rfl | rfl)
     refine GObls_cons ?_ ?_
     ·intro wq hq hzq
      refine GObl_det rfl rfl rfl (GObl_nil ?_);exact GEx.of (Ex_call rfl Try.call8 (Fn.mono (f8_c (⟨⟨_, _, _, rfl, hu1.below hq, hu2.below hq, hu3.below hq⟩⟩ : CoS _ _ x.C) p1 p2 p3) fun v w' hb h => CoW.le h hzq))
     refine GObls_cons ?_ ?_
     ·intro wq hq hzq
      refine GObl_nil ?_
      refine GEx_q2 (Rq_move rfl) ?_; first | exact rfl | rfl
     refine GObls_cons ?_ ?_
     ·intro wq hq hzq
      refine GObl_nil ?_
      refine GEx_q2 (Rq_move rfl) ?_; first | exact rfl | rfl
     refine GObls_cons ?_ ?_
     ·intro wq hq hzq
      refine GObl_det rfl rfl rfl (GObl_det rfl rfl rfl (GObl_nil ?_))
      refine GEx_q2 (Rq_index (hZ.sl.below hq) Try.runUnderlying31 Try.sizeOf37 rfl rfl (by omega) (by omega)) ?_; first | exact rfl | rfl
     refine GObls_cons ?_ ?_
     ·intro wq hq hzq
      refine GObl_det rfl rfl rfl (GObl_nil ?_)
      refine GEx_q2 (Rq_loadA Try.isAgg37 Try.sizeOf37 rfl ((hZ.sl.cells _ _ hel).below hq) rfl) ?_; first | exact rfl | rfl
     refine GObls_cons ?_ ?_
     ·intro wq hq hzq
      refine GObl_frs rfl rfl rfl ?_; intro v74 lo74 hi74 hle74 hR74;refine GObl_det rfl rfl rfl ?_;refine GObl_nil ?_;obtain ⟨a1, n1, c1, a2, n2, c2, a3, n3, c3, rfl, k1, k2, k3⟩ := hR74;exact GEx.of (Ex_call rfl Try.call9 (Fn.mono (f9_w k1.sl k2.sl k3.sl p1 p2 p3 r) fun v w' hb ⟨u, e, h⟩ => by rw [hrp] at e h; exact ⟨u, e, CoO.le h hzq⟩))
     refine GObls_cons ?_ ?_
     ·intro wq hq hzq
      refine GObl_frs rfl rfl rfl ?_; intro v79 lo79 hi79 hle79 hR79;refine GObl_nil ?_;exact GEx_qv (Rq_move rfl) (fun _ _ => hR79)
     refine GObls_cons ?_ ?_
     ·intro wq hq hzq
      refine GObl_frs rfl rfl rfl ?_; intro v72 lo72 hi72 hle72 hR72;refine GObl_nil ?_;obtain ⟨vc, rfl, hcw⟩ := hR72;exact GEx_qv (Rq_extract rfl rfl) (fun _ _ => hcw)
     refine GObls_cons ?_ ?_
     ·intro wq hq hzq
      refine GObl_frs rfl rfl rfl ?_; intro v72 lo72 hi72 hle72 hR72;refine GObl_nil ?_;obtain ⟨vc, rfl, _⟩ := hR72
      refine GEx_q2 (Rq_extract rfl rfl) ?_; first | exact rfl | rfl
     refine GObls_cons ?_ ?_
     ·intro wq hq hzq
      refine GObl_nil ?_;exact GEx_allocL (ds := []) (v := undef) (cs := [.slice none 0 0, .slice none 0 0, .slice none 0 0]) hzq (Ex_alloc Try.zeroValue29 rfl)
     refine GObls_cons ?_ ?_
     ·intro wq hq hzq
      refine GObl_frs rfl rfl rfl ?_; intro v13 lo13 hi13 hle13 hR13;refine GObl_frs rfl rfl rfl ?_; intro v80 lo80 hi80 hle80 hR80;refine GObl_nil ?_;obtain ⟨u1, u2, u3, rfl, k1, k2, k3⟩ := hR80;obtain ⟨a1, c1, e1⟩ := k1.sl.len; obtain ⟨a2, c2, e2⟩ := k2.sl.len; obtain ⟨a3, c3, e3⟩ := k3.sl.len;subst e1 e2 e3;exact GEx_stFf hR13 rfl rfl rfl rfl Try.sizeOf29 rfl rfl rfl rfl (by decide)
     exact GObls_nil
    ·intro wa19 hba19 hzz19
     refine GFin_det rfl ?_;refine GFin_frs rfl ?_; intro v74 lo74 hi74 hR74 hlB74 hlh74 hhw74 hdj74;refine GFin_det rfl ?_;refine GFin_det rfl ?_;refine GFin_det rfl ?_;refine GFin_det rfl ?_;refine GFin_frs rfl ?_; intro v79 lo79 hi79 hR79 hlB79 hlh79 hhw79 hdj79;refine GFin_frs rfl ?_; intro v72 lo72 hi72 hR72 hlB72 hlh72 hhw72 hdj72;refine GFin_frs rfl ?_; intro v80 lo80 hi80 hR80 hlB80 hlh80 hhw80 hdj80;refine GFin_det rfl ?_;refine GFin_frs rfl ?_; intro v13 lo13 hi13 hR13 hlB13 hlh13 hhw13 hdj13;refine GFin_sv rfl ?_; intro hs19x11 _; simp only [List.nil_append, List.cons_append, List.map_cons, List.map_nil, List.getD_cons_succ, List.getD_cons_zero, List.getElem?_cons_succ, List.getElem?_cons_zero] at hs19x11;refine GFin_nil ?_
     simp only [List.drop_succ_cons, List.drop_zero]
     replace hb0 := btr hb0 hba19;replace hB5 := hB5.below hba19;replace hu1 := hu1.below hba19;replace hu2 := hu2.below hba19;replace hu3 := hu3.below hba19;replace hp := hp.below hba19;obtain ⟨b13, rfl, hlo13, _, _, _⟩ := hR13;obtain ⟨u1, u2, u3, rfl, hw1, hw2, hw3⟩ := hR80;obtain ⟨wa1, wc1, e1⟩ := hw1.sl.len; obtain ⟨wa2, wc2, e2⟩ := hw2.sl.len; obtain ⟨wa3, wc3, e3⟩ := hw3.sl.len;subst e1 e2 e3;obtain ⟨c13, hv13, hB13⟩ := hs19x11;replace hv13 : Value.pointer (some ⟨b13, 0, none⟩) = .pointer (some ⟨c13, 0, none⟩) := hv13;cases hv13;replace hB13 : Blk wa19 b13 [.slice wa1 (appR x.C r).ch.length wc1, .slice wa2 (appR x.C r).ops.length wc2, .slice wa3 (appR x.C r).roots.length wc3] 29 := hB13;clear hZ
     have ne_hw1_b5 : ∀ q, Value.ownBlock (.slice wa1 (appR x.C r).ch.length wc1) = some q → ¬ q = b5 := fun q e => by have := (hw1.lt e).1; omega
     have ne_hw2_b5 : ∀ q, Value.ownBlock (.slice wa2 (appR x.C r).ops.length wc2) = some q → ¬ q = b5 := fun q e => by have := (hw2.lt e).1; omega
     have ne_hw3_b5 : ∀ q, Value.ownBlock (.slice wa3 (appR x.C r).roots.length wc3) = some q → ¬ q = b5 := fun q e => by have := (hw3.lt e).1; omega
     refine SG_q (Rq_assign rfl) rfl ?_;refine SG_nil ?_;refine D_then ?_;refine W_seq ?_;refine W_seq ?_;refine W_anyT 18 [[], [0], [1], [], [3], [4], [], [6], [7], [5, 8], [2, 9], [10], [], [12], [], [14], [13, 15], [11, 16]] [det [] ?a20_0n7, det [0] (.bool false), det [1] (.bool false), det [] ?a20_3n7, det [3] ?a20_4n7, det [4] ?a20_5n7, det [] ?a20_6n7, det [6] ?a20_7n7, det [7] ?a20_8n7, det [5, 8] (.bool false), det [2, 9] (.bool false), det [10] (.bool false), det [] ?a20_12n7, det [12] ?a20_13n7, det [] ?a20_14n7, det [14] ?a20_15n7, det [13, 15] (.bool false), det [11, 16] (.bool false)] Try.mixed (by kernel_rfl) rfl ⟨.inl rfl, .inl rfl, .inl rfl, .inr ⟨2, false, _, 84, rfl, rfl, rfl, by kernel_rfl, fun _ _ _ _ h => h⟩, .inr ⟨2, false, _, 84, rfl, rfl, rfl, by kernel_rfl, fun _ _ _ _ h => h⟩, .inr ⟨2, false, _, 84, rfl, rfl, rfl, by kernel_rfl, fun _ _ _ _ h => h⟩, .inr ⟨2, false, _, 84, rfl, rfl, rfl, by kernel_rfl, fun _ _ _ _ h => h⟩, .inr ⟨2, false, _, 84, rfl, rfl, rfl, by kernel_rfl, fun _ _ _ _ h => h⟩, .inr ⟨2, false, _, 84, rfl, rfl, rfl, by kernel_rfl, fun _ _ _ _ h => h⟩, .inr ⟨2, false, _, 84, rfl, rfl, rfl, by kernel_rfl, fun _ _ _ _ h => h⟩, .inl rfl, .inl rfl, .inr ⟨11, false, _, 93, rfl, rfl, rfl, by kernel_rfl, fun _ _ _ _ h => h⟩, .inr ⟨11, false, _, 93, rfl, rfl, rfl, by kernel_rfl, fun _ _ _ _ h => h⟩, .inr ⟨11, false, _, 93, rfl, rfl, rfl, by kernel_rfl, fun _ _ _ _ h => h⟩, .inr ⟨11, false, _, 93, rfl, rfl, rfl, by kernel_rfl, fun _ _ _ _ h => h⟩, .inr ⟨11, false, _, 93, rfl, rfl, rfl, by kernel_rfl, fun _ _ _ _ h => h⟩, .inl rfl, trivial⟩ ⟨det_stab _ _, det_stab _ _, det_stab _ _, det_stab _ _, det_stab _ _, det_stab _ _, det_stab _ _, det_stab _ _, det_stab _ _, det_stab _ _, det_stab _ _, det_stab _ _, det_stab _ _, det_stab _ _, det_stab _ _, det_stab _ _, det_stab _ _, det_stab _ _, trivial⟩ ?_ ?_; rotate_left 11
     ·refine Obls_cons ?_ ?_
      ·intro wq hbq
       refine Obl_nil ?_
       refine Ex_q2 (Rq_move rfl) ?_; first | exact rfl | rfl
      refine Obls_cons ?_ ?_
      ·intro wq hbq
       refine Obl_det rfl rfl (Obl_nil ?_)
       refine Ex_q2 (Rq_neq rfl rfl) ?_; first | exact rfl | rfl
      refine Obls_cons ?_ ?_
      ·intro wq hbq
       refine Obl_det rfl rfl (Obl_nil ?_)
       refine Ex_q2 (Rq_move rfl) ?_; first | exact rfl | rfl
      refine Obls_cons ?_ ?_
      ·intro wq hbq
       refine Obl_nil ?_
       refine Ex_q2 (Rq_fieldAddr fa29_1 rfl) ?_; first | exact rfl | rfl
      refine Obls_cons ?_ ?_
      ·intro wq hbq
       refine Obl_det rfl rfl (Obl_nil ?_)
       refine Ex_q2 (Rq_loadB ((hB13).below hbq) Try.isAgg26 rfl rfl) ?_; first | exact rfl | rfl
      refine Obls_cons ?_ ?_
      ·intro wq hbq
       refine Obl_det rfl rfl (Obl_nil ?_)
       first | (refine Ex_q2 (Rq_len ((hu1).below hbq) Try.runUnderlying26 rfl) ?_; first | exact rfl | rfl) | (refine Ex_q2 (Rq_len ((hu2).below hbq) Try.runUnderlying26 rfl) ?_; first | exact rfl | rfl) | (refine Ex_q2 (Rq_len ((hu3).below hbq) Try.runUnderlying26 rfl) ?_; first | exact rfl | rfl) | (refine Ex_q2 (Rq_len ((hp).below hbq) Try.runUnderlying26 rfl) ?_; first | exact rfl | rfl) | (refine Ex_q2 (Rq_len ((hw1.sl).below hbq) Try.runUnderlying26 rfl) ?_; first | exact rfl | rfl) | (refine Ex_q2 (Rq_len ((hw2.sl).below hbq) Try.runUnderlying26 rfl) ?_; first | exact rfl | rfl) | (refine Ex_q2 (Rq_len ((hw3.sl).below hbq) Try.runUnderlying26 rfl) ?_; first | exact rfl | rfl)
      refine Obls_cons ?_ ?_
      ·intro wq hbq
       refine Obl_nil ?_
       refine Ex_q2 (Rq_fieldAddr fa29_1 rfl) ?_; first | exact rfl | rfl
      refine Obls_cons ?_ ?_
      ·intro wq hbq
       refine Obl_det rfl rfl (Obl_nil ?_)
       refine Ex_q2 (Rq_loadB ((hB5).below hbq) Try.isAgg26 rfl rfl) ?_; first | exact rfl | rfl
      refine Obls_cons ?_ ?_
      ·intro wq hbq
       refine Obl_det rfl rfl (Obl_nil ?_)
       first | (refine Ex_q2 (Rq_len ((hu1).below hbq) Try.runUnderlying26 rfl) ?_; first | exact rfl | rfl) | (refine Ex_q2 (Rq_len ((hu2).below hbq) Try.runUnderlying26 rfl) ?_; first | exact rfl | rfl) | (refine Ex_q2 (Rq_len ((hu3).below hbq) Try.runUnderlying26 rfl) ?_; first | exact rfl | rfl) | (refine Ex_q2 (Rq_len ((hp).below hbq) Try.runUnderlying26 rfl) ?_; first | exact rfl | rfl) | (refine Ex_q2 (Rq_len ((hw1.sl).below hbq) Try.runUnderlying26 rfl) ?_; first | exact rfl | rfl) | (refine Ex_q2 (Rq_len ((hw2.sl).below hbq) Try.runUnderlying26 rfl) ?_; first | exact rfl | rfl) | (refine Ex_q2 (Rq_len ((hw3.sl).below hbq) Try.runUnderlying26 rfl) ?_; first | exact rfl | rfl)
      refine Obls_cons ?_ ?_
      ·intro wq hbq
       refine Obl_det rfl rfl ?_;refine Obl_det rfl rfl ?_;refine Obl_nil ?_;refine Ex_q2 (Rq_neq rfl rfl) ?_; exact congrArg Value.bool (by rw [hlen2]; simp)
      refine Obls_cons ?_ ?_
      ·intro wq hbq
       refine Obl_det rfl rfl (Obl_det rfl rfl (Obl_nil ?_))
       refine Ex_q2 (Rq_pick rfl (fun h => by cases h) (fun _ => rfl)) ?_; first | exact rfl | rfl
      refine Obls_cons ?_ ?_
      ·intro wq hbq
       refine Obl_det rfl rfl (Obl_nil ?_)
       refine Ex_q2 (Rq_move rfl) ?_; first | exact rfl | rfl
      refine Obls_cons ?_ ?_
      ·intro wq hbq
       refine Obl_nil ?_
       first | (refine Ex_q2 (Rq_loadBW ((hB13).below hbq) Try.isAgg29 Try.sizeOf29 rfl rfl) ?_; first | exact rfl | rfl) | (refine Ex_q2 (Rq_loadBA ((hB13).below hbq) Try.isAgg29 Try.sizeOf29 rfl rfl rfl) ?_; first | exact rfl | rfl)
      refine Obls_cons ?_ ?_
      ·intro wq hbq
       refine Obl_det rfl rfl (Obl_nil ?_)
       refine Ex_call rfl Try.call10 (fn_det2 (f10_c (⟨⟨_, _, _, rfl, ((hw1.sl).below hbq), ((hw2.sl).below hbq), ((hw3.sl).below hbq)⟩⟩ : CoS _ _ (appR x.C r)) hck2) ?_); first | exact rfl | rfl
      refine Obls_cons ?_ ?_
      ·intro wq hbq
       refine Obl_nil ?_
       first | (refine Ex_q2 (Rq_loadBW ((hB5).below hbq) Try.isAgg29 Try.sizeOf29 rfl rfl) ?_; first | exact rfl | rfl) | (refine Ex_q2 (Rq_loadBA ((hB5).below hbq) Try.isAgg29 Try.sizeOf29 rfl rfl rfl) ?_; first | exact rfl | rfl)
      refine Obls_cons ?_ ?_
      ·intro wq hbq
       refine Obl_det rfl rfl (Obl_nil ?_)
       refine Ex_call rfl Try.call10 (fn_det2 (f10_c (⟨⟨_, _, _, rfl, ((hu1).below hbq), ((hu2).below hbq), ((hu3).below hbq)⟩⟩ : CoS _ _ x.C) hckx) ?_); first | exact rfl | rfl
      refine Obls_cons ?_ ?_
      ·intro wq hbq
       refine Obl_det rfl rfl (Obl_det rfl rfl (Obl_nil (Ex_q2 (Rq_geq rfl rfl) ?_))); exact congrArg Value.bool ((decide_eq_false (by omega)).symm)
      refine Obls_cons ?_ ?_
      ·intro wq hbq
       refine Obl_det rfl rfl (Obl_det rfl rfl (Obl_nil ?_))
       refine Ex_q2 (Rq_pick rfl (fun h => by cases h) (fun _ => rfl)) ?_; first | exact rfl | rfl
      exact Obls_nil
     ·intro wa20 hba20
      replace hb0 := btr hb0 hba20;replace hB5 := hB5.below hba20;replace hp := hp.below hba20;replace hB13 := hB13.below hba20;replace hw1 := hw1.below hba20;replace hw2 := hw2.below hba20;replace hw3 := hw3.below hba20;refine Fin_det rfl (Fin_det rfl (Fin_det rfl (Fin_det rfl (Fin_det rfl (Fin_det rfl (Fin_det rfl (Fin_det rfl (Fin_det rfl (Fin_det rfl (Fin_det rfl (Fin_det rfl (Fin_det rfl (Fin_det rfl (Fin_det rfl (Fin_det rfl (Fin_det rfl (Fin_det rfl (Fin_nil ?_))))))))))))))))))
      simp only [List.drop_succ_cons, List.drop_zero]
      refine SG_nil (D_then ?_);refine W_cond rfl ?_ ?_
      ·intro g99; exfalso; (try simp only [dd] at g99); simp at g99
      ·intro g99
       try simp only [dd] at g99
       refine W_skip (D_then (W_region ?_))
       first | refine SG_q (Rq_loadBW (hB13) Try.isAgg29 Try.sizeOf29 rfl rfl) rfl ?_ | refine SG_q (Rq_loadBA (hB13) Try.isAgg29 Try.sizeOf29 rfl rfl rfl) rfl ?_
       refine SG_storeW (hB5) rfl rfl rfl rfl Try.sizeOf29 rfl rfl ?_;intro ws22x1 hchs22x1 hBs22x1;replace hb0 := bchg hb0 hchs22x1 hle5;replace hp := hp.chg hchs22x1 ne_hp_b5;replace hw1 := hw1.chg hchs22x1 (fun k e e2 => by first | exact ne_hw1_b5 k e e2 | (have := hw1.lt e; have := ne_hw1_b5; omega));replace hw2 := hw2.chg hchs22x1 (fun k e e2 => by first | exact ne_hw2_b5 k e e2 | (have := hw2.lt e; have := ne_hw2_b5; omega));replace hw3 := hw3.chg hchs22x1 (fun k e e2 => by first | exact ne_hw3_b5 k e e2 | (have := hw3.lt e; have := ne_hw3_b5; omega));clear hB5;refine SG_nil ?_;refine D_block ?_;refine D_then ?_;refine W_region ?_;refine SG_q (Rq_move rfl) rfl ?_;refine SG_q (Rq_add rfl rfl (wrap_i64 (by omega) (by omega))) rfl ?_;refine SG_q (Rq_assign rfl) rfl ?_;refine SG_nil ?_;refine D_loop ((⟨x.i + 1, appR x.C r, _, _, _⟩ : Ex)) (by repeat (first | exact Sub.nil | refine Sub.cons rfl ?_)) ⟨hb0, ⟨hck2, ⟨by dsimp only; rw [hlen1]; exact hl1, by dsimp only; omega, by dsimp only; omega⟩, by dsimp only; push_cast; omega⟩, hBs22x1, ⟨hw1.sl, hw2.sl, hw3.sl⟩, hp, (fun hq e => ne_hw1_b5 _ (sb_own hw1.sl hq) e), (fun hq e => ne_hw2_b5 _ (sb_own hw2.sl hq) e), (fun hq e => ne_hw3_b5 _ (sb_own hw3.sl hq) e)⟩ (by dsimp only; omega)
end Go.Proofs.Ytphmoebiobjfhaa
