/- A rewrite leaves no more that is found than there was. No program's text. -/
import Derived.Test.YtphmoebiobjfhaaGreatIt
set_option linter.all false
namespace Go.Mi
open Go Go.RowKit
/-- whatever stands for an operation is one of its operands, or of theirs, or the first of its likes -/
theorem stand_any {C : Co} (hck : checkR C = 0) {r i : Int} (h0 : 0 ≤ i) (h1 : i < C.ops.length) (h : (atC C r i).ap = true) (hs : (atC C r i).st ≠ -1)
  {P : Int → Prop} (hP : ∀ n ∈ opsOf (getO C.ops i), P n) (hP2 : ∀ n ∈ opsOf (getO C.ops i), ∀ m ∈ opsOf (getO C.ops n), P m) :
  P (atC C r i).st ∨ (r = 11 ∧ getO C.ops (atC C r i).st = getO C.ops i) := by
 have hr : 1 ≤ r ∧ r ≤ 11 := Classical.byContradiction fun hn => by rw [at_out (by omega)] at h; cases h
 obtain ⟨x, hx⟩ : ∃ x, getO C.ops i = x := ⟨_, rfl⟩
 have hop := ops_at hck h0 h1;rw [hx] at hop;obtain ⟨⟨c1, c2, _⟩, _⟩ := opnd_iff.1 hop;have hcase := arN_case c1 c2;rw [hx] at hP hP2
 have hopr : ∀ k, k < arN x.code → P ((opndR x).getD k 0) := fun k hk => hP _ (List.mem_of_getElem? (opsOf_get hk))
 have ua : 1 ≤ arN x.code → P x.a := fun hk => hopr 0 (by omega)
 have ub : 2 ≤ arN x.code → P x.b := fun hk => hopr 1 (by omega)
 have uc : 3 ≤ arN x.code → P x.c := fun hk => hopr 2 (by omega)
 unfold atC atR at h hs ⊢
 by_cases hg : getB (usedR C) i = false ∨ r < 1 ∨ 11 < r
 ·rw [if_pos hg] at h; cases h
 rw [if_neg hg] at h hs ⊢
 rcases r11 hr.1 hr.2 with rfl | rfl | rfl | rfl | rfl | rfl | rfl | rfl | rfl | rfl | rfl <;> simp only [ruleR, if_true, Int.reduceEq, if_false, hx] at h hs ⊢
 ·exfalso; unfold workR finR becomeO at h hs
  repeat' split at h
  all_goals first | (cases h; done) | skip
  all_goals (repeat' split at hs) <;> first | (exact hs rfl) | (simp_all [oc0]; done) | skip
 ·left; unfold faultR at h ⊢
  split at h
  ·cases h
  ·rename_i hn; rw [if_neg hn]; exact ua (by omega)
 ·left
  by_cases hk : x.code ≠ 17 ∨ (getO C.ops x.a).code ≠ 1
  ·have e : pickR C.ops x = oc0 := by unfold pickR knownR; rw [if_pos hk]; rfl
   rw [e] at h; cases h
  ·have hu2 : (pickR C.ops x).st = x.b ∨ (pickR C.ops x).st = x.c := by
    unfold pickR knownR; rw [if_neg hk]; dsimp only; rw [if_neg (by decide)]; split <;> simp [stand, becomeO]
   rcases hu2 with e | e
   ·rw [e]; exact ub (by omega)
   ·rw [e]; exact uc (by omega)
 ·left
  by_cases hk : x.code ≠ 15 ∨ (getO C.ops x.a).code ≠ 1
  ·have e : andR C.ops x = oc0 := by unfold andR knownR; rw [if_pos hk]; rfl
   rw [e] at h; cases h
  ·have hu2 : (andR C.ops x).st = x.b ∨ (andR C.ops x).st = x.a := by
    unfold andR knownR; rw [if_neg hk]; dsimp only; rw [if_neg (by decide)]; split <;> simp [stand, becomeO]
   rcases hu2 with e | e
   ·rw [e]; exact ub (by omega)
   ·rw [e]; exact ua (by omega)
 ·left
  by_cases hk : x.code ≠ 16 ∨ (getO C.ops x.a).code ≠ 1
  ·have e : orR C.ops x = oc0 := by unfold orR knownR; rw [if_pos hk]; rfl
   rw [e] at h; cases h
  ·have hu2 : (orR C.ops x).st = x.b ∨ (orR C.ops x).st = -1 := by
    unfold orR knownR; rw [if_neg hk]; dsimp only; rw [if_neg (by decide)]; split <;> simp [stand, becomeO]
   rcases hu2 with e | e
   ·rw [e]; exact ub (by omega)
   ·exact absurd e hs
 ·left; unfold unitR unit1 at h ⊢
  by_cases h9 : x.code = 9 ∨ x.code = 10
  ·rw [if_pos h9] at h ⊢
   split
   ·exact ua (by omega)
   ·split
    ·exact ub (by omega)
    ·rename_i p q; rw [if_neg p, if_neg q] at h; cases h
  ·rw [if_neg h9] at h ⊢
   by_cases h7 : x.code = 7 ∨ x.code = 8
   ·rw [if_pos h7] at h ⊢
    split
    ·exact ua (by omega)
    ·split
     ·exact ub (by omega)
     ·rename_i p q; rw [if_neg p, if_neg q] at h; cases h
   ·rw [if_neg h7] at h; cases h
 ·left; unfold twiceR at h ⊢
  split at h
  ·cases h
  ·rename_i hn; rw [if_neg hn]
   split at h
   ·cases h
   ·rename_i hm; rw [if_neg hm]
    obtain ⟨y, hy⟩ : ∃ y, getO C.ops x.a = y := ⟨_, rfl⟩
    have hb := (isOpB_spec hop).2.1 x.a (List.mem_of_getElem? (opsOf_get (j := 0) (by omega)));have hya := getO_some (l := C.ops) (show 0 ≤ x.a by omega) (show x.a < C.ops.length by omega);have hoy := ops_at hck (show 0 ≤ x.a by omega) (show x.a < C.ops.length by omega);rw [hy] at hya hoy hn ⊢
    have har : arN y.code = 1 := by
     have : y.code = x.code := by omega
     rw [this]; omega
    have hm2 := List.mem_of_getElem? (opsOf_get (x := y) (j := 0) (by omega));exact hP2 x.a (List.mem_of_getElem? (opsOf_get (j := 0) (by omega))) y.a (by rw [hy]; exact hm2)
 ·left; unfold truthR at h ⊢
  split at h
  ·rename_i hn; rw [if_pos hn]; exact ua (by omega)
  ·cases h
 ·exfalso; unfold turnR at h hs
  split at h
  ·rename_i hn; rw [if_pos hn] at hs; exact hs rfl
  ·cases h
 ·left; unfold selfR at h ⊢
  split at h
  ·rename_i hn; rw [if_pos hn]; exact ua (by omega)
  ·cases h
 ·right
  refine ⟨trivial, ?_⟩
  unfold sameR at h ⊢
  split at h
  ·rename_i hn; rw [if_pos hn]
   obtain ⟨j, hj, _, hg2⟩ := first_le h0 h1;rw [hx] at hj hg2
   show getO C.ops ((mget (firstR C.ops) x).getD 0) = x
   rw [hj]; exact hg2
  ·cases h
/-- what an operation becomes has no operands but its own -/
theorem become_any {C : Co} (hck : checkR C = 0) {r i : Int} (h0 : 0 ≤ i) (h1 : i < C.ops.length) (h : (atC C r i).ap = true) (hs : (atC C r i).st = -1) : ∀ n ∈ opsOf (atC C r i).be, n ∈ opsOf (getO C.ops i) := by
 have hr : 1 ≤ r ∧ r ≤ 11 := Classical.byContradiction fun hn => by rw [at_out (by omega)] at h; cases h
 have hnn : ∀ c n : Int, c ≤ 4 → ∀ m ∈ opsOf ⟨c, 0, 0, 0, n⟩, m ∈ opsOf (getO C.ops i) := fun c n hc m hm => by
  have : arN c = 0 := by unfold arN; rw [if_pos hc]
  unfold opsOf at hm; dsimp only at hm; rw [this] at hm; simp at hm
 rcases (at_ok hck h0 h1 h).2 with ⟨_, hb, _⟩ | ⟨hp, _⟩
 ·unfold atC atR at h hs ⊢
  by_cases hg : getB (usedR C) i = false ∨ r < 1 ∨ 11 < r
  ·rw [if_pos hg] at h; cases h
  rw [if_neg hg] at h hs ⊢
  obtain ⟨x, hx⟩ : ∃ x, getO C.ops i = x := ⟨_, rfl⟩
  have hop := ops_at hck h0 h1;rw [hx] at hop hnn ⊢
  have hfin : ∀ v : Vl, ∀ n ∈ opsOf (finR v).be, n ∈ opsOf x := fun v => by
   unfold finR; split
   ·exact hnn 2 _ (by omega)
   ·exact hnn 1 _ (by omega)
  have hoc : ∀ n ∈ opsOf oc0.be, n ∈ opsOf x := hnn 0 0 (by omega)
  have hsd : ∀ m : Int, ∀ n ∈ opsOf (stand m).be, n ∈ opsOf x := fun m => hnn 0 0 (by omega)
  rcases r11 hr.1 hr.2 with rfl | rfl | rfl | rfl | rfl | rfl | rfl | rfl | rfl | rfl | rfl <;> simp only [ruleR, if_true, Int.reduceEq, if_false, hx]
  ·unfold workR; (repeat' split) <;> first | exact hoc | exact hfin _
  ·unfold faultR; (repeat' split) <;> first | exact hoc | exact hsd _
  ·unfold pickR; (repeat' split) <;> first | exact hoc | exact hsd _
  ·unfold andR; (repeat' split) <;> first | exact hoc | exact hsd _
  ·unfold orR; (repeat' split) <;> first | exact hoc | exact hsd _ | exact hnn 1 _ (by omega)
  ·unfold unitR unit1; (repeat' split) <;> first | exact hoc | exact hsd _
  ·unfold twiceR; (repeat' split) <;> first | exact hoc | exact hsd _
  ·unfold truthR; (repeat' split) <;> first | exact hoc | exact hsd _
  ·unfold turnR; split
   ·rename_i hn
    intro n hm;have : opsOf (becomeO ⟨6, x.a, 0, 0, 0⟩).be = [x.a] := rfl;rw [this] at hm
    have hc : 1 ≤ arN x.code := by rw [hn.1]; decide
    simp only [List.mem_singleton] at hm
    rw [hm]; exact List.mem_of_getElem? (opsOf_get (x := x) (j := 0) (by omega))
   ·exact hoc
  ·unfold selfR; (repeat' split) <;> first | exact hoc | exact hsd _
  ·unfold sameR; (repeat' split) <;> first | exact hoc | exact hsd _
 ·omega
inductive Rch (C : Co) : Int → Prop
 | root {n : Int} : n ∈ C.roots → Rch C n
 | opnd {y n : Int} : Rch C y → n ∈ opsOf (getO C.ops y) → Rch C n
theorem Rch.found {C : Co} (hck : checkR C = 0) {x : Int} (h : Rch C x) : x ∈ foundR C := by
 obtain ⟨hc, hr, _⟩ := found_clo hck
 induction h with
 | root h => exact hr _ h
 | opnd _ h ih =>
  obtain ⟨k, hk⟩ := List.getElem?_of_mem ih;exact List.mem_of_mem_take (hc k _ hk _ h)
theorem found_rch {C : Co} (hck : checkR C = 0) : ∀ (m : Nat) (x : Int), x ∈ foundR C → (C.ops.length : Int) - x ≤ m → Rch C x
 | 0, x, h, hm => by have := (found_nodup hck).2 x h; omega
 | m + 1, x, h, hm => by
  rcases (found_clo hck).2.2 x h with h | ⟨y, hy, hx⟩
  ·exact .root h
  ·have hb := (found_nodup hck).2 y hy
   have := opsOf_bd hck hb.1 hb.2 x hx;exact .opnd (found_rch hck m y hy (by omega)) hx
theorem Rch.iff {C : Co} (hck : checkR C = 0) {x : Int} : x ∈ foundR C ↔ Rch C x := ⟨fun h => found_rch hck C.ops.length x h (by have := (found_nodup hck).2 x h; omega), fun h => h.found hck⟩
theorem nodup_sub : ∀ {l m : List Int}, l.Nodup → (∀ x ∈ l, x ∈ m) → l.length ≤ m.length
 | [], _, _, _ => Nat.zero_le _
 | a :: l, m, hd, hs => by
  obtain ⟨h1, h2⟩ := List.nodup_cons.1 hd
  have h3 := nodup_sub (l := l) (m := m.erase a) h2 fun x hx => (List.mem_erase_of_ne (fun e : x = a => h1 (e ▸ hx))).2 (hs x (by simp [hx]))
  have h4 := List.length_erase_of_mem (hs a (by simp));have h5 : 0 < m.length := List.length_pos_of_mem (hs a (by simp));rw [List.length_cons]; omega
theorem getO_map {l : List Ot} {f : Ot → Ot} {k : Int} (h0 : 0 ≤ k) (h1 : k < l.length) : getO (l.map f) k = f (getO l k) := by
 have := getO_some h0 h1;exact getO_of (by rw [List.getElem?_map, this]; rfl)
theorem opsOf_turn (i t : Int) (x : Ot) : opsOf (turnO i t x) = (opsOf x).map (turnI i t) := opsOf_at0 (turnI i t) x
theorem getO_far {l : List Ot} {k : Int} (h : (l.length : Int) ≤ k) : getO l k = o0 := by
 unfold getO; rw [List.getD_eq_getElem?_getD, List.getElem?_eq_none (by omega)]; rfl
theorem Rch.lt {C : Co} (hck : checkR C = 0) {x : Int} (h : Rch C x) : 0 ≤ x ∧ x < C.ops.length := (found_nodup hck).2 x (h.found hck)
/-- a rewrite: what is found behind it -/
theorem found_less {C : Co} (hck : checkR C = 0) {r : Rw} (h0 : 0 ≤ r.op) (h1 : r.op < C.ops.length) (h : (atC C r.rule r.op).ap = true) : (foundR (appR C r)).length ≤ (foundR C).length := by
 have hck' := app_check hck h0 h1 h;obtain ⟨hnd, _⟩ := found_nodup hck'
 by_cases hs : (atC C r.rule r.op).st = -1
 ·have hC' : appR C r = ⟨C.ch, C.ops.set r.op.toNat (atC C r.rule r.op).be, C.roots⟩ := by unfold appR outC; rw [if_pos hs]
  have hb := become_any hck h0 h1 h hs
  have key : ∀ x, Rch (appR C r) x → Rch C x := fun x hx => by
   induction hx with
   | root hx => rw [hC'] at hx; exact .root hx
   | @opnd y n hy hn ih =>
    have hyl := hy.lt hck';rw [hC'] at hn hyl
    dsimp only at hn hyl
    rw [List.length_set] at hyl
    by_cases e : y = r.op
    ·subst e
     have hg : getO (C.ops.set r.op.toNat (atC C r.rule r.op).be) r.op = (atC C r.rule r.op).be := getO_of (by rw [List.getElem?_set, if_pos rfl, if_pos (by omega)]);rw [hg] at hn;exact .opnd ih (hb n hn)
    ·have hg : getO (C.ops.set r.op.toNat (atC C r.rule r.op).be) y = getO C.ops y := getO_of (by rw [List.getElem?_set, if_neg (by omega)]; exact getO_some hyl.1 hyl.2)
     rw [hg] at hn;exact .opnd ih hn
  exact nodup_sub hnd fun x hx => (key x ((Rch.iff hck').1 hx)).found hck
 ·have hC' : appR C r = ⟨C.ch, C.ops.map (turnO r.op (atC C r.rule r.op).st), C.roots.map (turnI r.op (atC C r.rule r.op).st)⟩ := by unfold appR outC; rw [if_neg hs]
  obtain ⟨t, ht⟩ : ∃ t, (atC C r.rule r.op).st = t := ⟨_, rfl⟩
  have hfit : 0 ≤ t ∧ t < r.op := by
   obtain ⟨_, ho⟩ := at_ok hck h0 h1 h
   rcases ho with ⟨e, _⟩ | ho
   ·exact absurd e hs
   ·rw [ht] at ho; exact ho
  have hst := stand_any hck h0 h1 h hs (P := fun n => Rch C r.op → Rch C n) (fun n hn hi => .opnd hi hn) (fun n hn m hm hi => .opnd (.opnd hi hn) hm);rw [ht] at hst hC'
  have hno : ¬ Rch (appR C r) r.op := fun hx => by
   cases hx with
   | root hx =>
    rw [hC'] at hx;obtain ⟨m, _, e⟩ := List.mem_map.1 hx
    unfold turnI at e; split at e <;> omega
   | @opnd y _ hy hn =>
    have hyl := hy.lt hck';rw [hC'] at hn hyl
    dsimp only at hn hyl
    rw [List.length_map] at hyl;rw [getO_map hyl.1 hyl.2, opsOf_turn] at hn;obtain ⟨m, _, e⟩ := List.mem_map.1 hn
    unfold turnI at e; split at e <;> omega
  have key : ∀ x, Rch (appR C r) x → Rch C x ∨ (x = t ∧ Rch C r.op) := fun x hx => by
   induction hx with
   | @root n hx =>
    rw [hC'] at hx;obtain ⟨m, hm, e⟩ := List.mem_map.1 hx
    unfold turnI at e
    split at e
    ·rename_i e2; exact .inr ⟨e.symm, .root (e2 ▸ hm)⟩
    ·exact .inl (.root (e ▸ hm))
   | @opnd y n hy hn ih =>
    have hyl := hy.lt hck';rw [hC'] at hn hyl
    dsimp only at hn hyl
    rw [List.length_map] at hyl;rw [getO_map hyl.1 hyl.2, opsOf_turn] at hn;obtain ⟨m, hm, e⟩ := List.mem_map.1 hn
    have hy2 : Rch C y ∨ (y = t ∧ Rch C r.op ∧ ∃ z, Rch C z ∧ ∀ q ∈ opsOf (getO C.ops y), q ∈ opsOf (getO C.ops z)) := by
     rcases ih with ih | ⟨e1, hi⟩
     ·exact .inl ih
     ·rcases hst with hst | ⟨_, hg⟩
      ·exact .inl (e1 ▸ hst hi)
      ·exact .inr ⟨e1, hi, r.op, hi, fun q hq => by rw [← hg, ← e1]; exact hq⟩
    have hm2 : Rch C m := by
     rcases hy2 with hy2 | ⟨_, _, z, hz, hzz⟩
     ·exact .opnd hy2 hm
     ·exact .opnd hz (hzz m hm)
    unfold turnI at e
    split at e
    ·rename_i e2; exact .inr ⟨e.symm, e2 ▸ hm2⟩
    ·exact .inl (e ▸ hm2)
  by_cases hRt : Rch C t
  ·refine nodup_sub hnd fun x hx => ?_
   rcases key x ((Rch.iff hck').1 hx) with hx | ⟨e, _⟩
   ·exact hx.found hck
   ·exact e ▸ hRt.found hck
  ·by_cases hmt : t ∈ foundR (appR C r)
   ·have hRi : Rch C r.op := by
     rcases key t ((Rch.iff hck').1 hmt) with hx | ⟨_, hx⟩
     ·exact absurd hx hRt
     ·exact hx
    have hsub : ∀ x ∈ (foundR (appR C r)).erase t, x ∈ (foundR C).erase r.op := fun x hx => by
     have hx2 := (hnd.mem_erase_iff).1 hx;have hxr := (Rch.iff hck').1 hx2.2
     have hne : x ≠ r.op := fun e => hno (e ▸ hxr)
     rcases key x hxr with hk | ⟨e, _⟩
     ·exact (List.mem_erase_of_ne hne).2 (hk.found hck)
     ·exact absurd e hx2.1
    have h1' := nodup_sub (hnd.erase t) hsub;rw [List.length_erase_of_mem hmt, List.length_erase_of_mem (hRi.found hck)] at h1';have := List.length_pos_of_mem hmt;have := List.length_pos_of_mem (hRi.found hck)
    omega
   ·refine nodup_sub hnd fun x hx => ?_
    rcases key x ((Rch.iff hck').1 hx) with hk | ⟨e, _⟩
    ·exact hk.found hck
    ·exact absurd (e ▸ hx) hmt
theorem steps_found {C : Co} (hck : checkR C = 0) : (foundR (stepsR C).2).length ≤ (foundR C).length := by
 have : ∀ (n : Nat) (C : Co), checkR C = 0 → (foundR (stepsF n C).2).length ≤ (foundR C).length := fun n => by
  induction n with
  | zero => intro C _; exact Nat.le_refl _
  | succ n ih =>
   intro C hck
   cases h : nextR C with
   | none => rw [steps_none h]; exact Nat.le_refl _
   | some r =>
    obtain ⟨a, b, c⟩ := next_some h
    simp only [stepsF, h]
    exact Nat.le_trans (ih _ (app_check hck a b c)) (found_less hck a b c)
 exact this _ C hck
theorem steps_same {C : Co} (hck : checkR C = 0) : (stepsR C).2.roots.length = C.roots.length ∧ (stepsR C).2.ops.length = C.ops.length := by
 have : ∀ (n : Nat) (C : Co), (stepsF n C).2.roots.length = C.roots.length ∧ (stepsF n C).2.ops.length = C.ops.length := fun n => by
  induction n with
  | zero => intro C; exact ⟨rfl, rfl⟩
  | succ n ih =>
   intro C
   cases h : nextR C with
   | none => rw [steps_none h]; exact ⟨rfl, rfl⟩
   | some r =>
    simp only [stepsF, h]
    have h2 : (appR C r).ops.length = C.ops.length ∧ (appR C r).roots.length = C.roots.length := by unfold appR outC; split <;> simp
    rw [(ih _).1, (ih _).2]; exact ⟨h2.2, h2.1⟩
 exact this _ C
/-- few steps, where there are few operations -/
theorem refs_few {C : Co} (hck : checkR C = 0) {n m : Int} (hn : (C.ops.length : Int) ≤ n) (hm : (C.roots.length : Int) ≤ m) : refsR C ≤ n * (3 * n) + m * n := by
 obtain ⟨_, hr, hops⟩ := check_ok hck
 have hsum : ∀ (l : List Int) (b : Int), 0 ≤ b → (∀ x ∈ l, x ≤ b) → l.sum ≤ (l.length : Int) * b := fun l b hb => by
  induction l with
  | nil => intro _; simp
  | cons x l ih =>
   intro hl;have h1 := hl x (by simp)
   have h2 := ih fun y hy => hl y (by simp [hy])
   rw [List.sum_cons, List.length_cons]
   push_cast
   rw [Int.add_mul]; omega
 have hn0 : 0 ≤ n := by omega
 have h1 := hsum (C.ops.map opsum) (3 * n) (by omega) fun q hq => by
  obtain ⟨x, hx, rfl⟩ := List.mem_map.1 hq;obtain ⟨k, hk⟩ := List.getElem?_of_mem hx;have hkl := (List.getElem?_eq_some_iff.1 hk).1;obtain ⟨_, h2, h3, h4, _⟩ := opnd_iff.1 (hops k x hk);rw [opsum_eq]
  (repeat' split) <;> omega
 have h2 := hsum (C.roots.map (· + 1)) n hn0 fun q hq => by
  obtain ⟨x, hx, rfl⟩ := List.mem_map.1 hq;have := hr x hx; omega
 rw [List.length_map] at h1 h2;have h3 : (C.ops.length : Int) * (3 * n) ≤ n * (3 * n) := Int.mul_le_mul_of_nonneg_right hn (by omega);have h4 : (C.roots.length : Int) * n ≤ m * n := Int.mul_le_mul_of_nonneg_right hm hn0
 unfold refsR; omega
end Go.Mi
