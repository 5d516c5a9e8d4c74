/- A rewrite leaves no rule before it: why the reference's Steps may go on from the operation that it rewrote. No program's text. -/
import Derived.Test.YtphmoebiobjfhaaGreatRg
set_option linter.all false
namespace Go.Mi
open Go Go.RowKit
theorem usedB_mem {C : Co} (hck : checkR C = 0) {i : Int} (h0 : 0 ≤ i) : usedB C i = true ↔ i ∈ C.roots ∨ ∃ y ∈ C.ops, i ∈ opsOf y := by
 obtain ⟨_, _, ho⟩ := qm hck;obtain ⟨o, rfl⟩ := Int.eq_ofNat_of_zero_le h0
 constructor
 ·intro h
  refine Classical.byContradiction fun hn => ?_
  have : usedB C (o : Int) = false := used_no (fun j y hj e => hn (.inl (e ▸ List.mem_of_getElem? hj))) (fun j y _ hj n hm e => hn (.inr ⟨y, List.mem_of_getElem? hj, e ▸ hm⟩));rw [this] at h; cases h
 ·rintro (h | ⟨y, hy, h⟩)
  ·obtain ⟨j, hj⟩ := List.getElem?_of_mem h; exact used_root hj rfl
  ·obtain ⟨j, hj⟩ := List.getElem?_of_mem hy
   obtain ⟨k, hk⟩ := List.getElem?_of_mem h;have := (qy (ho j y hj)).2.1 _ h;exact used_op (by omega) hj hk rfl
/-! what lies ahead of an operation -/
theorem turnO_id {i t : Int} {x : Ot} (h : ∀ n ∈ opsOf x, n ≠ i) : turnO i t x = x := by
 have h3 := q7 x.code
 have hm : ∀ k, k < arN x.code → (opndR x).getD k 0 ≠ i := fun k hk => h _ (List.mem_of_getElem? (jr hk))
 have hid : ∀ n, n ≠ i → turnI i t n = n := fun n hn => by unfold turnI; rw [if_neg hn]
 unfold turnO
 rcases x with ⟨c, a, b, d, m⟩
 simp only [Ot.mk.injEq, true_and, and_true]
 refine ⟨?_, ?_, ?_⟩
 ·split
  ·exact hid _ (hm 0 (by dsimp only; omega))
  ·rfl
 ·split
  ·exact hid _ (hm 1 (by dsimp only; omega))
  ·rfl
 ·split
  ·exact hid _ (hm 2 (by dsimp only; omega))
  ·rfl
theorem out_take {C : Co} (hck : checkR C = 0) {i : Int} {o : Oc} (h0 : 0 ≤ i) : (outC C i o).ops.take i.toNat = C.ops.take i.toNat := by
 obtain ⟨_, _, hops⟩ := qm hck
 unfold outC
 split
 ·dsimp only
  rw [List.take_set_of_le (Nat.le_refl _)]
 ·dsimp only
  apply List.ext_getElem?
  intro k;rw [List.getElem?_take, List.getElem?_take]
  split
  ·rename_i hk
   rw [List.getElem?_map]
   cases hx : C.ops[k]? with
   | none => rfl
   | some x =>
    have := (qy (hops k x hx)).2.1;rw [Option.map_some, turnO_id (fun n hn => by have := this n hn; omega)]
  ·rfl
section
variable {l l' : List Ot} {n : Nat}
theorem getO_take (h : l'.take n = l.take n) {k : Int} (h0 : 0 ≤ k) (h1 : k < n) : getO l' k = getO l k := by
 have e : l'[k.toNat]? = l[k.toNat]? := by
  have := congrArg (·[k.toNat]?) h
  simp only [List.getElem?_take] at this
  rwa [if_pos (by omega), if_pos (by omega)] at this
 unfold getO
 rw [List.getD_eq_getElem?_getD, List.getD_eq_getElem?_getD, e]
theorem truths_take (l : List Ot) (n : Nat) : (truthsR l).take n = truthsR (l.take n) := by
 refine snoc_ind (p := fun l => ∀ n, (truthsR l).take n = truthsR (l.take n)) (fun n => by simp [truthsR]) (fun l x ih n => ?_) l n;rw [jq]
 rcases Nat.lt_or_ge l.length n with h | h
 ·rw [List.take_of_length_le (by rw [List.length_append, z5, List.length_singleton]; omega), List.take_of_length_le (by rw [List.length_append, List.length_singleton]; omega), jq]
 ·rw [List.take_append_of_le_length (by rw [z5]; omega), List.take_append_of_le_length h, ih]
theorem getB_take (h : l'.take n = l.take n) {k : Int} (h0 : 0 ≤ k) (h1 : k < n) : getB (truthsR l') k = getB (truthsR l) k := by
 have e : (truthsR l')[k.toNat]? = (truthsR l)[k.toNat]? := by
  have := congrArg (·[k.toNat]?) ((truths_take l' n).trans ((congrArg truthsR h).trans (truths_take l n).symm))
  simp only [List.getElem?_take] at this
  rwa [if_pos (by omega), if_pos (by omega)] at this
 unfold getB
 rw [List.getD_eq_getElem?_getD, List.getD_eq_getElem?_getD, e]
theorem first_take (h : l'.take n = l.take n) {x : Ot} (hx : x ∈ l.take n) : mget (firstR l') x = mget (firstR l) x := by
 have key : ∀ m : List Ot, m.take n = l.take n → mget (firstR m) x = some (((l.take n).findIdx (fun y => decide (x = y)) : Nat) : Int) := fun m hm => by
  rw [firstR_spec, if_pos (List.mem_of_mem_take (hm ▸ hx)), ← hm]
  congr 2
  conv => lhs; rw [← List.take_append_drop n m]
  rw [List.findIdx_append, if_pos (List.findIdx_lt_length_of_exists (p := fun y => decide (x = y)) ⟨x, hm ▸ hx, by simp⟩)]
 rw [key l' h, key l rfl]
theorem rule_take {C C' : Co} (hck : checkR C = 0) (h : C'.ops.take n = C.ops.take n) {r j : Int} (h0 : 0 ≤ j) (h1 : j < n) (hn : n ≤ C.ops.length) : ruleR C'.ops (truthsR C'.ops) (mget (firstR C'.ops)) r j = ruleR C.ops (truthsR C.ops) (mget (firstR C.ops)) r j := by
 obtain ⟨x, hx⟩ : ∃ x, getO C.ops j = x := ⟨_, rfl⟩
 have bd : ∀ (i : Int) (y : Ot), 0 ≤ i → i < n → getO C.ops i = y → (0 ≤ y.a ∧ y.a < n) ∧ (0 ≤ y.b ∧ y.b < n) ∧ 0 ≤ y.c ∧ y.c < n := fun i y hi0 hi1 hy => by
  have hop := jD hck hi0 (show i < C.ops.length by omega);rw [hy] at hop;obtain ⟨g1, g2, g3, g4, g5, g6⟩ := opnd_lt hop;have h3 := q7 y.code;refine ⟨?_, ?_, ?_⟩
  ·by_cases q : 1 ≤ arN y.code
   ·have := g1 q; omega
   ·have := g4 (by omega); omega
  ·by_cases q : 2 ≤ arN y.code
   ·have := g2 q; omega
   ·have := g5 (by omega); omega
  ·by_cases q : 3 ≤ arN y.code
   ·have := g3 q; omega
   ·have := g6 (by omega); omega
 obtain ⟨ba, bb, bc⟩ := bd j x h0 h1 hx;have bya := (bd x.a _ ba.1 ba.2 rfl).1;have hj : getO C'.ops j = x := (getO_take h h0 h1).trans hx;have ea := getO_take h ba.1 ba.2;have eb := getO_take h bb.1 bb.2;have ec := getO_take h bc.1 bc.2;have ta := getB_take h ba.1 ba.2;have tya := getB_take h bya.1 bya.2
 have hf : mget (firstR C'.ops) x = mget (firstR C.ops) x := first_take h (by
  have := zV h0 (show j < C.ops.length by omega);rw [hx] at this;refine List.mem_of_getElem? (i := j.toNat) ?_
  rw [List.getElem?_take, if_pos (by omega)]; exact this)
 simp only [ruleR, workR, faultR, pickR, andR, orR, unitR, unit1, twiceR, truthR, turnR, selfR, sameR, knownR, isR, hj, hx, ea, eb, ec, ta, tya, hf]
end
/-! whatever stands for an operation is used, or is the first of its likes -/
theorem stand_used {C : Co} (hck : checkR C = 0) {r i : Int} (h0 : 0 ≤ i) (h1 : i < C.ops.length) (h : (atC C r i).ap = true) (hs : (atC C r i).st ≠ -1) :
  usedB C (atC C r i).st = true ∨ (r = 11 ∧ getO C.ops (atC C r i).st = getO C.ops i) := by
 have hr : 1 ≤ r ∧ r ≤ 11 := Classical.byContradiction fun hn => by rw [at_far (by omega)] at h; cases h
 obtain ⟨x, hx⟩ : ∃ x, getO C.ops i = x := ⟨_, rfl⟩
 have hop := jD hck h0 h1;rw [hx] at hop;obtain ⟨⟨c1, c2, _⟩, _⟩ := opnd_iff.1 hop;have hcase := arN_case c1 c2
 have hxm : x ∈ C.ops := by have := zV h0 h1; rw [hx] at this; exact List.mem_of_getElem? this
 have hopr : ∀ k, k < arN x.code → usedB C ((opndR x).getD k 0) = true := fun k hk => by
  have hm := List.mem_of_getElem? (jr hk);have := (qy hop).2.1 _ hm;exact (usedB_mem hck (by omega)).2 (.inr ⟨x, hxm, hm⟩)
 have ua : 1 ≤ arN x.code → usedB C x.a = true := fun hk => hopr 0 (by omega)
 have ub : 2 ≤ arN x.code → usedB C x.b = true := fun hk => hopr 1 (by omega)
 have uc : 3 ≤ arN x.code → usedB C x.c = true := fun hk => hopr 2 (by omega)
 unfold atC atR at h hs ⊢
 by_cases hg : getB (usedR C) i = false ∨ r < 1 ∨ 11 < r
 ·rw [if_pos hg] at h; cases h
 rw [if_neg hg] at h hs ⊢
 rcases r11 hr.1 hr.2 with rfl | rfl | rfl | rfl | rfl | rfl | rfl | rfl | rfl | rfl | rfl <;> simp only [ruleR, if_true, Int.reduceEq, if_false, hx] at h hs ⊢
 ·exfalso; unfold workR finR becomeO at h hs
  repeat' split at h
  all_goals first | (cases h; done) | skip
  all_goals (repeat' split at hs) <;> first | (exact hs rfl) | (simp_all [oc0]; done) | skip
 ·left; unfold faultR at h ⊢
  split at h
  ·cases h
  ·rename_i hn; rw [if_neg hn]; exact ua (by omega)
 ·left
  by_cases hk : x.code ≠ 17 ∨ (getO C.ops x.a).code ≠ 1
  ·have e : pickR C.ops x = oc0 := by unfold pickR knownR; rw [if_pos hk]; rfl
   rw [e] at h; cases h
  ·have hu2 : (pickR C.ops x).st = x.b ∨ (pickR C.ops x).st = x.c := by
    unfold pickR knownR; rw [if_neg hk]; dsimp only; rw [if_neg (by decide)]; split <;> simp [stand, becomeO]
   rcases hu2 with e | e
   ·rw [e]; exact ub (by omega)
   ·rw [e]; exact uc (by omega)
 ·left
  by_cases hk : x.code ≠ 15 ∨ (getO C.ops x.a).code ≠ 1
  ·have e : andR C.ops x = oc0 := by unfold andR knownR; rw [if_pos hk]; rfl
   rw [e] at h; cases h
  ·have hu2 : (andR C.ops x).st = x.b ∨ (andR C.ops x).st = x.a := by
    unfold andR knownR; rw [if_neg hk]; dsimp only; rw [if_neg (by decide)]; split <;> simp [stand, becomeO]
   rcases hu2 with e | e
   ·rw [e]; exact ub (by omega)
   ·rw [e]; exact ua (by omega)
 ·left
  by_cases hk : x.code ≠ 16 ∨ (getO C.ops x.a).code ≠ 1
  ·have e : orR C.ops x = oc0 := by unfold orR knownR; rw [if_pos hk]; rfl
   rw [e] at h; cases h
  ·have hu2 : (orR C.ops x).st = x.b ∨ (orR C.ops x).st = -1 := by
    unfold orR knownR; rw [if_neg hk]; dsimp only; rw [if_neg (by decide)]; split <;> simp [stand, becomeO]
   rcases hu2 with e | e
   ·rw [e]; exact ub (by omega)
   ·exact absurd e hs
 ·left; unfold unitR unit1 at h ⊢
  by_cases h9 : x.code = 9 ∨ x.code = 10
  ·rw [if_pos h9] at h ⊢
   split
   ·exact ua (by omega)
   ·split
    ·exact ub (by omega)
    ·rename_i p q; rw [if_neg p, if_neg q] at h; cases h
  ·rw [if_neg h9] at h ⊢
   by_cases h7 : x.code = 7 ∨ x.code = 8
   ·rw [if_pos h7] at h ⊢
    split
    ·exact ua (by omega)
    ·split
     ·exact ub (by omega)
     ·rename_i p q; rw [if_neg p, if_neg q] at h; cases h
   ·rw [if_neg h7] at h; cases h
 ·left; unfold twiceR at h ⊢
  split at h
  ·cases h
  ·rename_i hn; rw [if_neg hn]
   split at h
   ·cases h
   ·rename_i hm; rw [if_neg hm]
    obtain ⟨y, hy⟩ : ∃ y, getO C.ops x.a = y := ⟨_, rfl⟩
    have hb := (qy hop).2.1 x.a (List.mem_of_getElem? (jr (j := 0) (by omega)));have hya := zV (l := C.ops) (show 0 ≤ x.a by omega) (show x.a < C.ops.length by omega);have hoy := jD hck (show 0 ≤ x.a by omega) (show x.a < C.ops.length by omega);rw [hy] at hya hoy hn ⊢
    have har : arN y.code = 1 := by
     have : y.code = x.code := by omega
     rw [this]; omega
    have hm2 := List.mem_of_getElem? (jr (x := y) (j := 0) (by omega));have := (qy hoy).2.1 _ hm2;exact (usedB_mem hck (i := y.a) this.1).2 (.inr ⟨y, List.mem_of_getElem? hya, hm2⟩)
 ·left; unfold truthR at h ⊢
  split at h
  ·rename_i hn; rw [if_pos hn]; exact ua (by omega)
  ·cases h
 ·exfalso; unfold turnR at h hs
  split at h
  ·rename_i hn; rw [if_pos hn] at hs; exact hs rfl
  ·cases h
 ·left; unfold selfR at h ⊢
  split at h
  ·rename_i hn; rw [if_pos hn]; exact ua (by omega)
  ·cases h
 ·right
  refine ⟨trivial, ?_⟩
  unfold sameR at h ⊢
  split at h
  ·rename_i hn; rw [if_pos hn]
   obtain ⟨j, hj, _, hg2⟩ := first_le h0 h1;rw [hx] at hj hg2
   show getO C.ops ((mget (firstR C.ops) x).getD 0) = x
   rw [hj]; exact hg2
  ·cases h
/-- what an operation becomes has no operands but its own -/
theorem become_opnd {C : Co} (hck : checkR C = 0) {r i : Int} (h0 : 0 ≤ i) (h1 : i < C.ops.length) (h : (atC C r i).ap = true) (hs : (atC C r i).st = -1) : ∀ n ∈ opsOf (atC C r i).be, n ∈ opsOf (getO C.ops i) := by
 have hr : 1 ≤ r ∧ r ≤ 11 := Classical.byContradiction fun hn => by rw [at_far (by omega)] at h; cases h
 have hnn : ∀ c n : Int, c ≤ 4 → ∀ m ∈ opsOf ⟨c, 0, 0, 0, n⟩, m ∈ opsOf (getO C.ops i) := fun c n hc m hm => by
  have : arN c = 0 := by unfold arN; rw [if_pos hc]
  unfold opsOf at hm; dsimp only at hm; rw [this] at hm; simp at hm
 rcases (at_ok hck h0 h1 h).2 with ⟨_, hb, _⟩ | ⟨hp, _⟩
 ·unfold atC atR at h hs ⊢
  by_cases hg : getB (usedR C) i = false ∨ r < 1 ∨ 11 < r
  ·rw [if_pos hg] at h; cases h
  rw [if_neg hg] at h hs ⊢
  obtain ⟨x, hx⟩ : ∃ x, getO C.ops i = x := ⟨_, rfl⟩
  have hop := jD hck h0 h1;rw [hx] at hop hnn ⊢
  have hfin : ∀ v : Vl, ∀ n ∈ opsOf (finR v).be, n ∈ opsOf x := fun v => by
   unfold finR; split
   ·exact hnn 2 _ (by omega)
   ·exact hnn 1 _ (by omega)
  have hoc : ∀ n ∈ opsOf oc0.be, n ∈ opsOf x := hnn 0 0 (by omega)
  have hsd : ∀ m : Int, ∀ n ∈ opsOf (stand m).be, n ∈ opsOf x := fun m => hnn 0 0 (by omega)
  rcases r11 hr.1 hr.2 with rfl | rfl | rfl | rfl | rfl | rfl | rfl | rfl | rfl | rfl | rfl <;> simp only [ruleR, if_true, Int.reduceEq, if_false, hx]
  ·unfold workR; (repeat' split) <;> first | exact hoc | exact hfin _
  ·unfold faultR; (repeat' split) <;> first | exact hoc | exact hsd _
  ·unfold pickR; (repeat' split) <;> first | exact hoc | exact hsd _
  ·unfold andR; (repeat' split) <;> first | exact hoc | exact hsd _
  ·unfold orR; (repeat' split) <;> first | exact hoc | exact hsd _ | exact hnn 1 _ (by omega)
  ·unfold unitR unit1; (repeat' split) <;> first | exact hoc | exact hsd _
  ·unfold twiceR; (repeat' split) <;> first | exact hoc | exact hsd _
  ·unfold truthR; (repeat' split) <;> first | exact hoc | exact hsd _
  ·unfold turnR; split
   ·rename_i hn
    intro n hm;have : opsOf (becomeO ⟨6, x.a, 0, 0, 0⟩).be = [x.a] := rfl;rw [this] at hm
    have hc : 1 ≤ arN x.code := by rw [hn.1]; decide
    simp only [List.mem_singleton] at hm
    rw [hm]; exact List.mem_of_getElem? (jr (x := x) (j := 0) (by omega))
   ·exact hoc
  ·unfold selfR; (repeat' split) <;> first | exact hoc | exact hsd _
  ·unfold sameR; (repeat' split) <;> first | exact hoc | exact hsd _
 ·omega
theorem rl_head {p : Int → Bool} {n : Nat} {a : Int} {post : List Int} (h : rl p n = a :: post) : ∀ r : Int, 1 ≤ r → r < a → p r = false := fun r h1 h2 => by
 induction n generalizing post with
 | zero => simp [rl] at h
 | succ n ih =>
  rw [rl_succ] at h
  cases hl : rl p n with
  | nil =>
   rw [hl] at h
   split at h
   ·simp only [List.nil_append, List.cons.injEq] at h
    rw [Bool.eq_false_iff]; intro hp
    have hm : r ∈ rl p n := by
     simp only [rl, List.mem_filter, List.mem_map, List.mem_range]
     exact ⟨⟨(r - 1).toNat, by omega, by omega⟩, hp⟩
    rw [hl] at hm; cases hm
   ·simp at h
  | cons b q =>
   rw [hl] at h
   simp only [List.cons_append, List.cons.injEq] at h
   obtain ⟨rfl, _⟩ := h;exact ih hl
theorem rules_nil {C : Co} {j : Int} : rulesC C j = [] ↔ ∀ r : Int, (atC C r j).ap = false := by
 constructor
 ·intro h r
  by_cases hr : 1 ≤ r ∧ r ≤ 11
  ·rw [Bool.eq_false_iff]; intro hp
   have hm : r ∈ rulesC C j := by
    rw [rulesC_eq]
    simp only [rl, List.mem_filter, List.mem_map, List.mem_range]
    exact ⟨⟨(r - 1).toNat, by omega, by omega⟩, hp⟩
   rw [h] at hm; cases hm
  ·exact at_far (by omega)
 ·intro h
  rw [rulesC_eq]; unfold rl;rw [List.filter_eq_nil_iff];intro r _ hp; rw [h r] at hp; cases hp
theorem next_spec {C : Co} {r : Rw} (h : nextR C = some r) : ∃ i : Nat, r.op = i ∧ i < C.ops.length ∧ (∀ j : Nat, j < i → rulesC C j = []) ∧ ∃ post, rulesC C i = r.rule :: post := by
 unfold nextR at h
 simp only [Option.map_eq_some_iff] at h
 obtain ⟨i, hi, rfl⟩ := h;have hm := List.mem_of_find?_eq_some hi;have hp := List.find?_some hi
 simp only [List.mem_range] at hm
 refine ⟨i, rfl, hm, fun j hj => ?_, ?_⟩
 ·rw [List.find?_range_eq_some] at hi
  have := hi.2.2 j hj
  simpa using this
 ·cases hl : rulesC C i with
  | nil => simp [hl] at hp
  | cons a l => exact ⟨l, by simp [hl]⟩
theorem rule_like {C : Co} {r i j : Int} (h : getO C.ops i = getO C.ops j) (hr : r ≤ 10) (hr' : 1 ≤ r) : ruleR C.ops (truthsR C.ops) (mget (firstR C.ops)) r i = ruleR C.ops (truthsR C.ops) (mget (firstR C.ops)) r j := by
 rcases r11 hr' (by omega) with rfl | rfl | rfl | rfl | rfl | rfl | rfl | rfl | rfl | rfl | rfl <;> first | omega | simp only [ruleR, h, if_true, Int.reduceEq, if_false]
theorem no_before {C : Co} (hck : checkR C = 0) {r : Rw} (h : nextR C = some r) : ∀ j : Nat, (j : Int) < r.op → rulesC (appR C r) j = [] := by
 obtain ⟨hr0, hr1, hap⟩ := j2 h;obtain ⟨i, hi, hil, hno, post, hpost⟩ := next_spec h;intro j hj;have hck' := jg hck hr0 hr1 hap;rw [rules_nil]; intro q;rw [Bool.eq_false_iff]; intro hq
 have htk : (appR C r).ops.take i = C.ops.take i := by have := out_take hck (o := atC C r.rule r.op) hr0; rw [hi] at this; simpa [appR, hi] using this
 have hlen : (appR C r).ops.length = C.ops.length := (outC_len C r.op _).1
 have hj' : (j : Int) < i := by omega
 have hqr : 1 ≤ q ∧ q ≤ 11 := Classical.byContradiction fun hn => by rw [at_far (by omega)] at hq; cases hq
 have hat : ∀ D : Co, checkR D = 0 → (j : Int) < D.ops.length → usedB D j = true → atC D q j = ruleR D.ops (truthsR D.ops) (mget (firstR D.ops)) q j := fun D hD hjl hu => by
  unfold atC atR; rw [if_neg (by rw [← used_eq hD (by omega) hjl, hu]; simp; omega)]
 have hu' : usedB (appR C r) j = true := by
  refine Classical.byContradiction fun hn => ?_
  rw [at_unused hck' (by omega) (by omega) (by simpa using hn)] at hq; cases hq
 have hru := rule_take hck htk (r := q) (j := (j : Int)) (by omega) hj' (by omega)
 have hr' : (ruleR C.ops (truthsR C.ops) (mget (firstR C.ops)) q j).ap = true := by rw [← hru, ← hat _ hck' (by omega) hu']; exact hq
 by_cases hu : usedB C j = true
 ·have := rules_nil.1 (hno j (by omega)) q
  rw [hat C hck (by omega) hu, hr'] at this; cases this
 ·have hmem := (usedB_mem hck' (by omega)).1 hu'
  have hst : (atC C r.rule r.op).st ≠ -1 ∧ (atC C r.rule r.op).st = j := by
   have hnr : ¬ (j : Int) ∈ C.roots := fun hm => hu ((usedB_mem hck (by omega)).2 (.inl hm))
   have hno' : ∀ y ∈ C.ops, ¬ (j : Int) ∈ opsOf y := fun y hy hm => hu ((usedB_mem hck (by omega)).2 (.inr ⟨y, hy, hm⟩))
   unfold appR outC at hmem
   split at hmem
   ·rename_i hs
    exfalso
    rcases hmem with hm | ⟨y, hy, hm⟩
    ·exact hnr hm
    ·rcases List.mem_or_eq_of_mem_set hy with hy | rfl
     ·exact hno' y hy hm
     ·have hx := zV hr0 hr1
      have hbe : ∀ n ∈ opsOf (atC C r.rule r.op).be, n ∈ opsOf (getO C.ops r.op) := become_opnd hck hr0 hr1 hap hs;exact hno' _ (List.mem_of_getElem? hx) (hbe _ hm)
   ·rename_i hs
    refine ⟨hs, ?_⟩
    have hturn : ∀ m : Int, turnI r.op (atC C r.rule r.op).st m = j → m = j ∨ (atC C r.rule r.op).st = j := fun m hm => by
     unfold turnI at hm; split at hm
     ·exact .inr hm
     ·exact .inl hm
    rcases hmem with hm | ⟨y, hy, hm⟩
    ·obtain ⟨m, hm1, hm2⟩ := List.mem_map.1 hm
     rcases hturn m hm2 with e | e
     ·exact absurd (e ▸ hm1) hnr
     ·exact e
    ·obtain ⟨z, hz, rfl⟩ := List.mem_map.1 hy
     obtain ⟨k, hk⟩ := List.getElem?_of_mem hm
     have hkl : k < arN z.code := by have := (List.getElem?_eq_some_iff.1 hk).1; rw [jN] at this; exact this
     have hk3 := q7 z.code
     have hk2 : turnI r.op (atC C r.rule r.op).st ((opndR z).getD k 0) = j := by
      have e1 := jr (x := turnO r.op (atC C r.rule r.op).st z) (j := k) hkl;rw [hk] at e1;have e2 := Option.some.inj e1;rw [e2]
      have hk4 : k < 3 := by omega
      match k, hk4, hkl with
      | 0, _, g => simp [turnO, opndR]; intro hh; omega
      | 1, _, g => simp [turnO, opndR]; intro hh; omega
      | 2, _, g => simp [turnO, opndR]; intro hh; omega
     rcases hturn _ hk2 with e | e
     ·exact absurd (e ▸ List.mem_of_getElem? (jr hkl)) (hno' z hz)
     ·exact e
  rcases stand_used hck hr0 hr1 hap hst.1 with hs | ⟨e11, hlike⟩
  ·rw [hst.2] at hs; exact hu hs
  ·rw [hst.2] at hlike
   by_cases hq11 : q = 11
   ·subst hq11
    have hsame : (ruleR C.ops (truthsR C.ops) (mget (firstR C.ops)) 11 j).st < j := by
     have hf := (fit_rule hck (r := 11) (show (0 : Int) ≤ j by omega) (show (j : Int) < C.ops.length by omega)) hr'
     simp only [ruleR, Int.reduceEq, if_false] at hf hr' ⊢
     unfold sameR at hr' ⊢
     split at hr'
     ·rename_i hlt; rw [if_pos hlt]; exact hlt
     ·cases hr'
    have e1 : (ruleR C.ops (truthsR C.ops) (mget (firstR C.ops)) 11 j).st = (mget (firstR C.ops) (getO C.ops j)).getD 0 := by
     simp only [ruleR, Int.reduceEq, if_false] at hr' ⊢
     unfold sameR at hr' ⊢
     split at hr'
     ·rename_i hlt; rw [if_pos hlt]; rfl
     ·cases hr'
    have e2 : (atC C r.rule r.op).st = (mget (firstR C.ops) (getO C.ops r.op)).getD 0 := by
     unfold atC atR at hap ⊢
     split at hap
     ·cases hap
     ·rename_i hg; rw [if_neg hg, e11]
      rw [e11] at hap
      simp only [ruleR, Int.reduceEq, if_false] at hap ⊢
      unfold sameR at hap ⊢
      split at hap
      ·rename_i hlt; rw [if_pos hlt]; rfl
      ·cases hap
    rw [e1, hlike, ← e2, hst.2] at hsame; omega
   ·have hl := rule_like (C := C) (r := q) hlike (by omega) hqr.1
    have hhd := rl_head (by rw [← rulesC_eq]; exact hpost) q hqr.1 (by omega)
    have hur : usedB C r.op = true := by
     refine Classical.byContradiction fun hn => ?_
     rw [at_unused hck hr0 hr1 (by simpa using hn)] at hap; cases hap
    have : (atC C q r.op).ap = true := by
     unfold atC atR; rw [if_neg (by rw [← used_eq hck hr0 hr1, hur]; simp; omega), ← hl]; exact hr'
    rw [← hi, this] at hhd; cases hhd
end Go.Mi
