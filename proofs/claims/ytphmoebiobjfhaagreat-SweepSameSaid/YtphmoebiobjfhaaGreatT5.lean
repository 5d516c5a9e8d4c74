/- Walks of functions, printed by a program of the author. -/
import Derived.Test.YtphmoebiobjfhaaGreatSt
import Derived.Test.YtphmoebiobjfhaaGreatT4
set_option linter.all false
namespace Go.Proofs.YtphmoebiobjfhaaGreat
open Go Go.Mi Go.RowKit
theorem fld119_0 (cs : List Value) (v : Value) (w : World) (h : cs[0]? = some v) : (Instr.field 119 (.agg cs.toArray) 0).run Tryz.prog w = .ok v w := by
 simp [Instr.field, Sem.run_bind, Tryz.runUnderlying119, asAgg, part, Tryz.isAgg4, h, Result.andThen]
theorem info3 : (Tryz.prog.info? 3).map (fun i => (i.zero, i.size, i.bytes)) = some (some (Value.int IntKind.i64 0), 1, 8) := by kernel_rfl
theorem info76 : (Tryz.prog.info? 76).map (fun i => (i.zero, i.size, i.bytes)) = some (some (Value.agg #[(Value.int IntKind.u8 0), (Value.int IntKind.i64 0), (Value.int IntKind.i64 0), (Value.int IntKind.i64 0), (Value.int IntKind.i64 0)]), 5, 40) := by kernel_rfl
theorem info84 : (Tryz.prog.info? 84).map (fun i => (i.zero, i.size, i.bytes)) = some (some (Value.agg #[(Value.string { data := #[] }), (Value.int IntKind.i64 0), (Value.int IntKind.i64 0)]), 3, 32) := by kernel_rfl
theorem f56_c {v : Value} {xs : List Ch} {w : World} (hlen : xs.length ≤ 100000) (hs : SL w v 3 encC xs) : Mi.Fn Tryz.prog 56 #[v] w (fun u w' => OS w' u 84 3 encC xs w.heap.size) := by
 obtain ⟨av, cv, hv⟩ := hs.len;subst hv;have hb0 := Below.refl w.heap.size w;refine calls_of_W Tryz.func56 rfl Tryz.ntmps56 rfl ?_;refine W_seq (W_region (SG_q (Rq_assign rfl) rfl (SG_nil (D_then (W_seq (W_seq (W_region (SG_q (Rq_move rfl) rfl (SG_q (Rq_eql_slnil Tryz.runUnderlying22 rfl) rfl (SG_nil (D_then ?_)))))))))));refine W_cond rfl ?_ ?_
 ·intro g4
  try simp only [dd] at g4
  refine W_seq ?_;refine W_region ?_;refine SG_q (Rq_assign rfl) rfl ?_;refine SG_nil ?_;refine D_then ?_;refine W_ret ?_;refine D_then_ret ?_;refine D_body1 rfl rfl rfl ?_;exact ⟨_, rfl, hb0, by obtain ⟨_, rfl⟩ := hs.nilS g4; exact OS.nil (fun _ => rfl) (by decide)⟩
 ·intro g4
  try simp only [dd] at g4
  refine W_skip (D_then (W_seq (W_region (SG_bslice (enc := encC) (val := valC) (os := []) rfl rfl MV.nil (fun _ => rfl) (fun _ => rfl) Tryz.runUnderlying22 Tryz.sizeOf84 Tryz.zeroValue84 rfl (by decide) (by decide) rfl ?_))));intro w5 v5 b5 e5 hb5 hz5 hob5 hO5
  have hle5 : w.heap.size ≤ b5 := by have := hb0.size; omega
  replace hb0 := btr hb0 hb5;refine SG_q (Rq_move rfl) rfl ?_;refine SG_append (hO5) ((hs).below hb0) Tryz.underlying22 info84 rfl rfl rfl (fun _ _ => rfl) (by simp only [List.length_append, List.length_cons, List.length_nil]; omega) (by simp only [List.length_append, List.length_cons, List.length_nil]; omega) (by omega) rfl ?_;intro v7 w7 hO7 hch7 hsn7;replace hb0 := hb0.trans (hch7.below hb0.size (fun k hk e => by have := (hO5).lt e; omega));clear hO5;refine SG_q (Rq_assign rfl) rfl ?_;refine SG_nil ?_;refine D_then ?_;refine W_ret ?_;refine D_body1 rfl rfl rfl ?_;exact ⟨_, rfl, hb0, by simpa using hO7.le hle5⟩
theorem f57_c {v : Value} {xs : List Ot} {w : World} (hlen : xs.length ≤ 100000) (hs : SL w v 5 encO xs) : Mi.Fn Tryz.prog 57 #[v] w (fun u w' => OS w' u 76 5 encO xs w.heap.size) := by
 obtain ⟨av, cv, hv⟩ := hs.len;subst hv;have hb0 := Below.refl w.heap.size w;refine calls_of_W Tryz.func57 rfl Tryz.ntmps57 rfl ?_;refine W_seq (W_region (SG_q (Rq_assign rfl) rfl (SG_nil (D_then (W_seq (W_seq (W_region (SG_q (Rq_move rfl) rfl (SG_q (Rq_eql_slnil Tryz.runUnderlying23 rfl) rfl (SG_nil (D_then ?_)))))))))));refine W_cond rfl ?_ ?_
 ·intro g4
  try simp only [dd] at g4
  refine W_seq ?_;refine W_region ?_;refine SG_q (Rq_assign rfl) rfl ?_;refine SG_nil ?_;refine D_then ?_;refine W_ret ?_;refine D_then_ret ?_;refine D_body1 rfl rfl rfl ?_;exact ⟨_, rfl, hb0, by obtain ⟨_, rfl⟩ := hs.nilS g4; exact OS.nil (fun _ => rfl) (by decide)⟩
 ·intro g4
  try simp only [dd] at g4
  refine W_skip (D_then (W_seq (W_region (SG_bslice (enc := encO) (val := valO) (os := []) rfl rfl MV.nil (fun _ => rfl) (fun _ => rfl) Tryz.runUnderlying23 Tryz.sizeOf76 Tryz.zeroValue76 rfl (by decide) (by decide) rfl ?_))));intro w5 v5 b5 e5 hb5 hz5 hob5 hO5
  have hle5 : w.heap.size ≤ b5 := by have := hb0.size; omega
  replace hb0 := btr hb0 hb5;refine SG_q (Rq_move rfl) rfl ?_;refine SG_append (hO5) ((hs).below hb0) Tryz.underlying23 info76 rfl rfl rfl (fun _ _ => rfl) (by simp only [List.length_append, List.length_cons, List.length_nil]; omega) (by simp only [List.length_append, List.length_cons, List.length_nil]; omega) (by omega) rfl ?_;intro v7 w7 hO7 hch7 hsn7;replace hb0 := hb0.trans (hch7.below hb0.size (fun k hk e => by have := (hO5).lt e; omega));clear hO5;refine SG_q (Rq_assign rfl) rfl ?_;refine SG_nil ?_;refine D_then ?_;refine W_ret ?_;refine D_body1 rfl rfl rfl ?_;exact ⟨_, rfl, hb0, by simpa using hO7.le hle5⟩
theorem f58_c {v : Value} {xs : List Int} {w : World} (hlen : xs.length ≤ 100000) (hs : SL w v 1 encI xs) : Mi.Fn Tryz.prog 58 #[v] w (fun u w' => OS w' u 3 1 encI xs w.heap.size) := by
 obtain ⟨av, cv, hv⟩ := hs.len;subst hv;have hb0 := Below.refl w.heap.size w;refine calls_of_W Tryz.func58 rfl Tryz.ntmps58 rfl ?_;refine W_seq (W_region (SG_q (Rq_assign rfl) rfl (SG_nil (D_then (W_seq (W_seq (W_region (SG_q (Rq_move rfl) rfl (SG_q (Rq_eql_slnil Tryz.runUnderlying24 rfl) rfl (SG_nil (D_then ?_)))))))))));refine W_cond rfl ?_ ?_
 ·intro g4
  try simp only [dd] at g4
  refine W_seq ?_;refine W_region ?_;refine SG_q (Rq_assign rfl) rfl ?_;refine SG_nil ?_;refine D_then ?_;refine W_ret ?_;refine D_then_ret ?_;refine D_body1 rfl rfl rfl ?_;exact ⟨_, rfl, hb0, by obtain ⟨_, rfl⟩ := hs.nilS g4; exact OS.nil (fun _ => rfl) (by decide)⟩
 ·intro g4
  try simp only [dd] at g4
  refine W_skip (D_then (W_seq (W_region (SG_bslice (enc := encI) (val := valI) (os := []) rfl rfl MV.nil (fun _ => rfl) (fun _ => rfl) Tryz.runUnderlying24 Tryz.sizeOf3 Tryz.zeroValue3 rfl (by decide) (by decide) rfl ?_))));intro w5 v5 b5 e5 hb5 hz5 hob5 hO5
  have hle5 : w.heap.size ≤ b5 := by have := hb0.size; omega
  replace hb0 := btr hb0 hb5;refine SG_q (Rq_move rfl) rfl ?_;refine SG_append (hO5) ((hs).below hb0) Tryz.underlying24 info3 rfl rfl rfl (fun _ _ => rfl) (by simp only [List.length_append, List.length_cons, List.length_nil]; omega) (by simp only [List.length_append, List.length_cons, List.length_nil]; omega) (by omega) rfl ?_;intro v7 w7 hO7 hch7 hsn7;replace hb0 := hb0.trans (hch7.below hb0.size (fun k hk e => by have := (hO5).lt e; omega));clear hO5;refine SG_q (Rq_assign rfl) rfl ?_;refine SG_nil ?_;refine D_then ?_;refine W_ret ?_;refine D_body1 rfl rfl rfl ?_;exact ⟨_, rfl, hb0, by simpa using hO7.le hle5⟩
theorem f66_it {lo bs rM : Nat} {vC vO vR vU vT : Value} {C : Co} {us tr : List Bool} {kv : List (Ot × Int)} {w : World} {c1 c2 T1 T2 : Nat} {i : Int} (hS : St (⟨84, 76, 3, 4, 92⟩ : StTy) lo w bs rM vC vO vR vU vT C us tr kv) (hul : us.length = C.ops.length) (htl : tr.length = C.ops.length) (hW : ∀ j : Int, 0 ≤ j → j < C.ops.length → Bd C.ops.length (getO C.ops j)) (hi0 : 0 ≤ i) (hi1 : i < C.ops.length) (hA1 : Blk w c1 [.pointer (some ⟨bs, 0, none⟩)] T1) (hA2 : Blk w c2 [.int .i64 i] T2) : Iter Tryz.prog 66 [.pointer (some ⟨c1, 0, none⟩), .pointer (some ⟨c2, 0, none⟩)] (fun r : Int => .int .u8 r) (rulesAt C.ops tr us (mget kv) i) (fun k => StB bs rM vC vO vR vU vT k ∨ k = c1 ∨ k = c2) w := by
 intro lp σ J Jx M hJ hJx hM yield s0 h0;have hb0 := Below.refl w.heap.size w;refine calls_of_W Tryz.func66 rfl Tryz.ntmps66 rfl ?_;refine W_seq (W_region (SG_q (Rq_assign rfl) rfl (SG_nil (D_then (W_block ?_)))));refine W_loop (α := Nat × σ) (fun x => [(4, .int .u8 ((x.1 : Int) + 1)), (0, .func (.yield lp) #[] #[]), (1, .pointer (some ⟨c1, 0, none⟩)), (2, .pointer (some ⟨c2, 0, none⟩))]) (fun x w' => x.1 ≤ 11 ∧ J (rl (fun r => (atR C.ops tr us (mget kv) r i).ap) x.1) x.2 w' ∧ St (⟨84, 76, 3, 4, 92⟩ : StTy) lo w' bs rM vC vO vR vU vT C us tr kv ∧ Blk w' c1 [.pointer (some ⟨bs, 0, none⟩)] T1 ∧ Blk w' c2 [.int .i64 i] T2 ∧ w.heap.size ≤ w'.heap.size) (fun x => 11 - x.1) ((0, s0)) (by repeat (first | exact Sub.nil | refine Sub.cons rfl ?_)) ⟨Nat.zero_le _, hJ _ _ _ _ h0 (Chg.of_below _ hb0), hS, hA1, hA2, hb0.size⟩ ?_;clear hb0;clear hS;clear hA1;clear hA2;rintro x wl0 ⟨hx, h0, hS, hA1, hA2, hsz⟩;have hb0 := Below.refl wl0.heap.size wl0;refine W_seq (W_seq (W_region (SG_q (Rq_move rfl) rfl (SG_q (Rq_leq rfl rfl) rfl (SG_nil (D_then ?_))))));refine W_cond rfl ?_ ?_
 ·intro g6
  try simp only [dd] at g6
  refine W_skip (D_then (W_seq (W_block (W_seq (W_region (SG_q (Rq_loadB (hA1) Tryz.isAgg79 rfl rfl) rfl (SG_q (Rq_move rfl) rfl (SG_q (Rq_loadB (hA2) Tryz.isAgg3 rfl rfl) rfl (SG_pure rfl Tryz.call63 rfl (f63_c (hS.blk) (hS.oO.sl) (hS.oT.sl) htl (hS.oU.sl) hul (hS.mp) hW hi0 hi1 _) ?_)))))))));intro w12 hb12;replace hb0 := btr hb0 hb12;replace hS := hS.below hb12;replace hA1 := hA1.below hb12;replace hA2 := hA2.below hb12;refine SG_q (Rq_field fld119_0 rfl rfl) rfl (SG_q (Rq_move rfl) rfl ?_);refine SG_split 14 rfl ?_ ?_
  ·intro g14
   have g14' := g14; try simp only [dd] at g14'
   refine SG_yes 14 rfl rfl g14 ?_;refine SG_q (Rq_move rfl) rfl ?_;refine SG_yes 14 rfl rfl g14 ?_;refine SG_q (Rq_move rfl) rfl ?_;refine SG_yes 14 rfl rfl g14 ?_;obtain ⟨post17, hsp17⟩ := rl_split (fun r => (atR C.ops tr us (mget kv) r i).ap) 11 (show x.1 < 11 by omega) g14;refine SG_yield rfl rfl rfl (yield (rl (fun r => (atR C.ops tr us (mget kv) r i).ap) x.1) ((x.1 : Int) + 1) post17 x.2 _ hsp17 (by have := hb0.size; omega) (hJ _ _ _ _ h0 (Chg.of_below _ hb0))) (fun e w' h => by obtain ⟨b, _, rfl, _⟩ := h; exact ⟨_, rfl⟩) ?_;rintro u17 w17 ⟨b17, s17, e17, hc17, hm17, hjt17, hjf17⟩;obtain rfl := Ending.returned.inj e17
   have hno := fun k hk => (hM _ _ _ k h0 hk).2
   replace hS := hS.chg hc17 (fun k hk hm => hno k hm (.inl hk));replace hA1 := hA1.chg hc17 (fun hm => hno _ hm (.inr (.inl rfl)));replace hA2 := hA2.chg hc17 (fun hm => hno _ hm (.inr (.inr rfl)));have hsz17 := hb0.size; have hsz18 := hc17.size;clear hb0;have hb0 := Below.refl w17.heap.size w17;refine SG_yes 14 rfl rfl g14 (SG_q (Rq_not rfl) rfl (SG_q (Rq_pick rfl (fun _ => rfl) (fun h => absurd (g14.symm.trans h) (by decide))) rfl (SG_nil (D_then ?_))));refine W_cond rfl ?_ ?_
   ·intro g19
    try simp only [dd] at g19
    refine W_ret (D_block_ret (D_then_ret (D_loop_ret ?_)));refine D_block_ret (D_body0 rfl rfl ?_);exact ⟨⟨_, rfl⟩, .inr ⟨_, s17, hjf17 g19⟩⟩
   ·intro g19
    try simp only [dd] at g19
    refine W_skip ?_;refine D_block ?_;refine D_then ?_;refine W_region ?_;refine SG_q (Rq_move rfl) rfl ?_;refine SG_q (Rq_add rfl rfl (wrap_u8 (by omega) (by omega))) rfl ?_;refine SG_q (Rq_assign rfl) rfl ?_;refine SG_nil ?_;refine D_loop ((x.1 + 1, s17)) (by repeat (first | exact Sub.nil | refine Sub.cons rfl ?_)) ⟨by dsimp only; omega, by rw [rl_succ, if_pos g14]; exact hjt17 g19, hS, hA1, hA2, by omega⟩ (by omega)
  ·intro g14
   have g14' := g14; try simp only [dd] at g14'
   refine SG_no 14 rfl rfl g14 rfl ?_;refine SG_no 14 rfl rfl g14 rfl ?_;refine SG_no 14 rfl rfl g14 rfl ?_;refine SG_no 14 rfl rfl g14 rfl ?_;refine SG_q (Rq_pick rfl (fun h => absurd (g14.symm.trans h) (by decide)) (fun _ => rfl)) rfl ?_;refine SG_nil ?_;refine D_then ?_;refine W_condF rfl ?_;refine W_skip ?_;refine D_block ?_;refine D_then ?_;refine W_region ?_;refine SG_q (Rq_move rfl) rfl ?_;refine SG_q (Rq_add rfl rfl (wrap_u8 (by omega) (by omega))) rfl ?_;refine SG_q (Rq_assign rfl) rfl ?_;refine SG_nil ?_;refine D_loop ((x.1 + 1, x.2)) (by repeat (first | exact Sub.nil | refine Sub.cons rfl ?_)) ⟨by dsimp only; omega, by rw [rl_succ, if_neg (by simpa using g14), List.append_nil]; exact hJ _ _ _ _ h0 (Chg.of_below _ hb0), hS, hA1, hA2, by have := hb0.size; omega⟩ (by omega)
 ·intro g6
  try simp only [dd] at g6
  refine W_exit ?_;refine D_then_exit ?_;refine D_loop_exit ?_;refine D_block_exit ?_;refine D_body0 rfl rfl ?_;exact ⟨⟨_, rfl⟩, .inl ⟨x.2, by rw [rulesAt, show 11 = x.1 by omega]; exact h0⟩⟩
end Go.Proofs.YtphmoebiobjfhaaGreat
