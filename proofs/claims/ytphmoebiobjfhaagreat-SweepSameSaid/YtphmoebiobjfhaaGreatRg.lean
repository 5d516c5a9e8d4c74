/- What the reference's Try does is what sweep's rules do: the plain law of the rules. No program's text. -/
import Derived.Test.YtphmoebiobjfhaaGreatRe
set_option linter.all false
namespace Go.Mi
open Go Go.RowKit
def nrm (o : Oc) : Oc := if o.ap = true then o else oc0
theorem nrm_ap (o : Oc) : (nrm o).ap = o.ap := by
 unfold nrm; split
 ·rfl
 ·rename_i h; simp at h; rw [h]; rfl
theorem nrm_of {o : Oc} (h : o.ap = true) : nrm o = o := by unfold nrm; rw [if_pos h]
theorem nrm_mk (b : Bool) (n : Int) (x : Ot) : nrm ⟨b, n, x⟩ = if b = true then ⟨true, n, x⟩ else oc0 := by cases b <;> rfl
theorem mkV_small {n : Int} (h : small n) : mkV n = ⟨0, n⟩ := by unfold mkV; exact if_pos h
/-! cells of operations -/
theorem kon_cell {C : Co} (hck : checkR C = 0) {j : Int} (h0 : 0 ≤ j) (h1 : j < C.ops.length) (hk : isKon (getO C.ops j) = true) : cellR (getO C.ops j) = (cell1 (getO C.ops j), true) ∧ isCellB (cell1 (getO C.ops j)) = true ∧ 0 ≤ (cell1 (getO C.ops j)).f := by
 have hs := cell1_ok hck h0 h1 hk
 unfold isKon at hk
 simp only [dd] at hk
 by_cases h : (getO C.ops j).code = 1
 ·have := num_const hck h0 h1 h
  refine ⟨by unfold cellR cell1; rw [if_pos h, if_pos h, mkV_small this], ?_, hs.2.1⟩
  unfold cell1; rw [if_pos h]; unfold small at this; simp [isCellB]; omega
 ·have h2 : (getO C.ops j).code = 2 := by omega
  have := num_fault hck h0 h1 h2;refine ⟨by unfold cellR cell1; rw [if_neg h, if_neg h, if_pos h2], ?_, hs.2.1⟩
  unfold cell1; rw [if_neg h]; simp [isCellB]; omega
theorem kon_not {y : Ot} (hk : isKon y = false) : (cellR y).2 = false := by
 unfold isKon at hk
 simp only [dd] at hk
 unfold cellR; rw [if_neg hk.1, if_neg hk.2]
theorem isR_const {C : Co} (hck : checkR C = 0) {j : Int} (h0 : 0 ≤ j) (h1 : j < C.ops.length) (n : Int) : isR C.ops j n = constB (getO C.ops j) n := by
 have h := ops_at hck h0 h1;obtain ⟨_, _, _, _, ha, hb, hc⟩ := opnd_iff.1 h
 unfold isR constB
 rcases he : getO C.ops j with ⟨c, a, b, d, m⟩
 rw [he] at ha hb hc;rw [Bool.eq_iff_iff]
 simp only [dd, Ot.mk.injEq]
 constructor
 ·rintro ⟨h1, _, _, _, h5⟩; exact ⟨h1, h5⟩
 ·rintro ⟨h1, h5⟩
  have : arN c = 0 := by rw [h1]; rfl
  dsimp only at ha hb hc
  exact ⟨h1, ha (by omega), hb (by omega), hc (by omega), h5⟩
theorem op1_rop {c : Int} {a : Vl} (hc : c = 5 ∨ c = 6) (ha : isCellB a = true) (hf : 0 ≤ a.f) : op1R c a = (rop1 c a, 0) := by
 unfold op1R rop1
 have hs : isSolo c = true := by unfold isSolo; simp only [dd]; exact hc
 rw [if_neg (by rw [hs, ha]; simp)]
 by_cases h : a.f = 0
 ·rw [if_neg (by omega), if_neg (by omega)]
  have hsm := cell_small ha
  unfold soloR
  by_cases h5 : c = 5
  ·rw [if_pos h5, if_pos h5, mkV_small (by unfold small at *; omega)]
  ·rw [if_neg h5, if_neg h5]
 ·rw [if_pos h, if_pos (by omega)]
theorem rem_small {a b : Int} (hb : small b) (h0 : b ≠ 0) : small (a - b * quotF a b) := by
 rw [← (quotR_eq h0).2]
 have hl : (a.tmod b).natAbs < b.natAbs := by rw [Int.natAbs_tmod]; exact Nat.mod_lt _ (by omega)
 unfold small at *
 unfold quotR
 split
 ·rename_i hc
  obtain ⟨h1, h2⟩ := hc;have : decide (a.tmod b < 0) ≠ decide (b < 0) := h2
  by_cases hb0 : b < 0
  ·have h3 : ¬ a.tmod b < 0 := fun h => this (by simp [h, hb0])
   dsimp only; omega
  ·have h3 : a.tmod b < 0 := Classical.byContradiction fun h => this (by simp [h, hb0])
   dsimp only; omega
 ·dsimp only; omega
theorem rop2_duo {c a b : Int} (hc : c ≤ 14) : rop2 c ⟨0, a⟩ ⟨0, b⟩ = if c = 7 then mkV (a + b) else if c = 8 then mkV (a - b) else if c = 9 then mkV (a * b)
  else if c = 12 then truthV (decide (a = b)) else if c = 13 then truthV (decide (a < b)) else if c = 14 then truthV (decide (a ≤ b))
  else if b = 0 then ⟨1, 0⟩ else if c = 10 then ⟨0, quotF a b⟩ else ⟨0, a - b * quotF a b⟩ := by
 unfold rop2
 dsimp only
 rw [if_neg (show ¬ (0 : Int) < 0 by omega), if_neg (fun h => by omega), if_neg (fun h => by omega), if_neg (show ¬ (c = 15 ∨ c = 16) by omega), if_neg (show ¬ (0 : Int) < 0 by omega)]
theorem duo_rop {c : Int} {a b : Int} (hc : 7 ≤ c) (hc' : c ≤ 14) (ha : small a) (hb : small b) : duoR c a b = rop2 c ⟨0, a⟩ ⟨0, b⟩ := by
 have hsg : (decide (sign a b = 0) = decide (a = b)) ∧ (decide (sign a b < 0) = decide (a < b)) ∧ (decide (sign a b ≤ 0) = decide (a ≤ b)) := by
  unfold sign
  refine ⟨?_, ?_, ?_⟩ <;> (rw [Bool.eq_iff_iff]; simp only [dd]; (repeat' split) <;> omega)
 rw [rop2_duo hc']
 unfold duoR
 rcases (by omega : c = 7 ∨ c = 8 ∨ c = 9 ∨ c = 10 ∨ c = 11 ∨ c = 12 ∨ c = 13 ∨ c = 14) with rfl | rfl | rfl | rfl | rfl | rfl | rfl | rfl <;> simp only [if_true, Int.reduceEq, if_false, hsg.1, hsg.2.1, hsg.2.2]
 ·split
  ·rfl
  ·rename_i hb0; rw [(quotR_eq hb0).1, mkV_small (quot_small ha hb0)]
 ·split
  ·rfl
  ·rename_i hb0; rw [(quotR_eq hb0).2, mkV_small (rem_small hb hb0)]
theorem vl_eq {a b : Vl} (h : a.f = b.f) (h' : a.n = b.n) : a = b := by cases a; cases b; simp_all
theorem op2_rop {c : Int} {a b : Vl} (hc : 7 ≤ c) (hc' : c ≤ 16) (ha : isCellB a = true) (hb : isCellB b = true) (hf : 0 ≤ a.f) (hg : 0 ≤ b.f) : (op2R c a b).1 = rop2 c a b := by
 have hz : isCellB (mkV 0) = true := cell_mkV 0;have ho : isCellB (mkV 1) = true := cell_mkV 1
 have h3 : ∀ x y z : Vl, isCellB x = true → isCellB y = true → isCellB z = true → areCellsB [x, y, z] = true := fun x y z h1 h2 h3 => by simp [areCellsB, h1, h2, h3]
 unfold op2R
 have hpa : (0 < a.f) = ¬ a.f = 0 := by rw [eq_iff_iff]; omega
 have hpb : (0 < b.f) = ¬ b.f = 0 := by rw [eq_iff_iff]; omega
 by_cases h15 : c = 15
 ·subst h15
  by_cases hf0 : a.f = 0
  ·by_cases hn : a.n = 0
   ·simp only [chooseR, rop2, h3 _ _ _ ha hb hz, hpa, hf0, hn, if_true, if_false, not_true_eq_false, ne_eq, and_self, Bool.true_eq_false]; exact vl_eq (by simp [hf0, mkV]) (by simp [hn, mkV])
   ·simp [chooseR, rop2, h3 _ _ _ ha hb hz, hpa, hf0, hn]
  ·simp [chooseR, rop2, h3 _ _ _ ha hb hz, hpa, hf0]
 by_cases h16 : c = 16
 ·subst h16
  by_cases hf0 : a.f = 0
  ·by_cases hn : a.n = 0
   ·simp [chooseR, rop2, h3 _ _ _ ha ho hb, hpa, hf0, hn]
   ·simp [chooseR, rop2, h3 _ ⟨0, 1⟩ _ ha rfl hb, hpa, hf0, hn, mkV]
  ·simp [chooseR, rop2, h3 _ _ _ ha ho hb, hpa, hf0]
 have hd : isDuo c = true := by unfold isDuo; simp only [dd]; omega
 have h2 : areCellsB [a, b] = true := by simp [areCellsB, ha, hb]
 rw [if_neg h15, if_neg h16, if_neg (by rw [hd, h2]; simp)]
 by_cases hf0 : a.f = 0
 ·rw [if_neg (show ¬ a.f ≠ 0 by omega)]
  by_cases hg0 : b.f = 0
  ·rw [if_neg (show ¬ b.f ≠ 0 by omega)]
   have ea : (⟨0, a.n⟩ : Vl) = a := vl_eq hf0.symm rfl;have eb : (⟨0, b.n⟩ : Vl) = b := vl_eq hg0.symm rfl;have := duo_rop (c := c) hc (by omega) (cell_small ha) (cell_small hb);rw [ea, eb] at this; exact this
  ·simp [rop2, hpa, hpb, hf0, hg0, h15, h16]
 ·simp [rop2, hpa, hf0]
theorem fin_wrk {v : Vl} (h : 0 ≤ v.f) : finR v = wrkF v := by
 unfold finR wrkF becomeO
 by_cases hf : v.f = 0
 ·rw [if_neg (by omega), if_neg (by omega)]
 ·rw [if_pos hf, if_pos (by omega)]
/-! the rules -/
theorem try_rule {C : Co} (hck : checkR C = 0) {r i : Int} (h0 : 0 ≤ i) (h1 : i < C.ops.length) (hr : 1 ≤ r) (hr' : r ≤ 11) : nrm (tryR C.ops (truthsR C.ops) r i) = ruleR C.ops (truthsR C.ops) (mget (firstR C.ops)) r i := by
 obtain ⟨x, hx⟩ : ∃ x, getO C.ops i = x := ⟨_, rfl⟩
 have hop := ops_at hck h0 h1;rw [hx] at hop;obtain ⟨⟨c1, c2, _⟩, _⟩ := opnd_iff.1 hop;have hcase := arN_case c1 c2;have hwx := check_wf hck i h0 h1;rw [hx] at hwx;obtain ⟨xa0, xa1, xb0, xb1, xc0, xc1, _⟩ := hwx;have isa := isR_const hck xa0 xa1;have isb := isR_const hck xb0 xb1;have isc := isR_const hck xc0 xc1;have ka := kon_cell hck xa0 xa1;have kb := kon_cell hck xb0 xb1
 unfold tryR ruleR
 rw [hx]
 obtain ⟨y, hy⟩ : ∃ y, getO C.ops x.a = y := ⟨_, rfl⟩
 obtain ⟨z, hz⟩ : ∃ z, getO C.ops x.b = z := ⟨_, rfl⟩
 obtain ⟨u, hu⟩ : ∃ u, getO C.ops x.c = u := ⟨_, rfl⟩
 rw [hy] at isa ka;rw [hz] at isb kb;rw [hu] at isc;rw [hy, hz, hu]
 generalize hc : x.code = c at *
 rcases r11 hr hr' with rfl | rfl | rfl | rfl | rfl | rfl | rfl | rfl | rfl | rfl | rfl <;> unfold tryX <;> simp only [hc, if_pos, if_true, Int.reduceEq, if_false]
 ·skip
  unfold workR
  rw [hc, hy, hz]
  by_cases hcr : 5 ≤ c ∧ c ≤ 16
  ·rw [if_pos hcr, if_neg (by omega)]
   unfold wrkR wrkV
   rw [hc, hy, hz];have hol := opsOf_len x;rw [hc] at hol
   by_cases h7 : c ≤ 6
   ·have ho : opsOf x = [x.a] := by
     unfold opsOf opndR; rw [hc, show arN c = 1 by omega]; rfl
    rw [ho, if_pos (show arN c = 1 by omega)]
    simp only [List.all_cons, List.all_nil, Bool.and_true, hy]
    by_cases hk : isKon y = true
    ·obtain ⟨e1, e2, e3⟩ := ka hk
     rw [if_pos hk, e1];have e4 := op1_rop (c := c) (by omega) e2 e3;rw [e4]
     simp only [Bool.true_eq_false, if_false, ne_eq, not_true_eq_false]
     rw [fin_wrk (rop1_f ⟨e3, by have := cell1_ok hck xa0 xa1 (by rw [hy]; exact hk); rw [hy] at this; exact this.2.2⟩).1];exact nrm_of (by unfold wrkF; split <;> rfl)
    ·rw [if_neg hk, if_pos (kon_not (by simpa using hk))]; rfl
   ·have ho : opsOf x = [x.a, x.b] := by
     unfold opsOf opndR; rw [hc, show arN c = 2 by omega]; rfl
    rw [ho, if_neg (show ¬ arN c = 1 by omega)]
    simp only [List.all_cons, List.all_nil, Bool.and_true, hy, hz]
    by_cases hk : isKon y = true
    ·obtain ⟨e1, e2, e3⟩ := ka hk
     rw [e1]
     have e4 : (op1R c (cell1 y)).2 = 2 := by
      unfold op1R; rw [if_pos (.inl (by unfold isSolo; simp only [dd]; omega))]
     rw [e4]
     by_cases hk2 : isKon z = true
     ·obtain ⟨f1, f2, f3⟩ := kb hk2
      rw [f1, op2_rop (by omega) (by omega) e2 f2 e3 f3, if_pos (by rw [hk, hk2]; rfl)];have g1 := cell1_ok hck xa0 xa1 (by rw [hy]; exact hk); have g2 := cell1_ok hck xb0 xb1 (by rw [hz]; exact hk2);rw [hy] at g1; rw [hz] at g2;rw [if_neg (by simp), if_pos (by decide), if_neg (by simp), fin_wrk (rop2_f g1.2 g2.2).1];exact nrm_of (by unfold wrkF; split <;> rfl)
     ·have hk2' : isKon z = false := by simpa using hk2
      rw [if_neg (by rw [hk, hk2']; decide), if_neg (by simp), if_pos (by decide), if_pos (kon_not hk2')]; rfl
    ·have hk' : isKon y = false := by simpa using hk
     rw [if_neg (by rw [hk']; simp), if_pos (kon_not hk')]; rfl
  ·rw [if_neg hcr, if_pos (by omega)]; rfl
 ·skip
  unfold faultR twoB; rw [hc, hy, nrm_mk]
  by_cases h : 7 ≤ c ∧ y.code = 2
  ·rw [if_pos (by simp only [dd]; omega), if_neg (by omega)]; rfl
  ·rw [if_neg (by simp only [dd]; omega), if_pos (by omega)]
 ·skip
  unfold pickR knownR; rw [hc, hy]
  by_cases h : c = 17 ∧ y.code = 1
  ·rw [if_neg (show ¬ (c ≠ 17 ∨ y.code ≠ 1) by omega)]
   by_cases hn : y.n = 0
   ·rw [if_pos ⟨h.1, by unfold constB; simp [h.2, hn]⟩]; simp [hn, nrm, stand]
   ·rw [if_neg (fun q => by have := q.2; unfold constB at this; simp [hn] at this)]; simp [hn, h.1, h.2, nrm, stand]
  ·rw [if_pos (show (c ≠ 17 ∨ y.code ≠ 1) by omega), if_neg (fun q => h ⟨q.1, by have := q.2; unfold constB at this; simp at this; exact this.1⟩), nrm_mk, if_neg (by simp only [dd]; exact h)]; rfl
 ·skip
  unfold andR knownR; rw [hc, hy]
  by_cases h : c = 15 ∧ y.code = 1
  ·rw [if_neg (show ¬ (c ≠ 15 ∨ y.code ≠ 1) by omega)]
   by_cases hn : y.n = 0
   ·rw [if_pos ⟨h.1, by unfold constB; simp [h.2, hn]⟩]; simp [hn, nrm, stand]
   ·rw [if_neg (fun q => by have := q.2; unfold constB at this; simp [hn] at this)]; simp [hn, h.1, h.2, nrm, stand]
  ·rw [if_pos (show (c ≠ 15 ∨ y.code ≠ 1) by omega), if_neg (fun q => h ⟨q.1, by have := q.2; unfold constB at this; simp at this; exact this.1⟩), nrm_mk, if_neg (by simp only [dd]; exact h)]; rfl
 ·skip
  unfold orR knownR; rw [hc, hy]
  by_cases h : c = 16 ∧ y.code = 1
  ·rw [if_neg (show ¬ (c ≠ 16 ∨ y.code ≠ 1) by omega)]
   by_cases hn : y.n = 0
   ·rw [if_pos ⟨h.1, by unfold constB; simp [h.2, hn]⟩]; simp [hn, nrm, stand]
   ·rw [if_neg (fun q => by have := q.2; unfold constB at this; simp [hn] at this)]; simp [hn, h.1, h.2, nrm, becomeO]
  ·rw [if_pos (show (c ≠ 16 ∨ y.code ≠ 1) by omega), if_neg (fun q => h ⟨q.1, by have := q.2; unfold constB at this; simp at this; exact this.1⟩), nrm_mk, if_neg (by simp only [dd]; exact h)]; rfl
 ·skip
  unfold unitR unit1 unitA; rw [hc, isb, isa, isb, isa]
  by_cases h9 : c = 9 ∨ c = 10
  ·rw [if_pos h9]
   by_cases hb : constB z 1 = true
   ·rw [if_pos (by simp only [dd]; exact .inr ⟨h9, hb⟩), if_pos hb]; rfl
   ·rw [if_neg (by simp only [dd]; rintro (q | q); omega; exact hb q.2), if_neg hb, nrm_mk]
    by_cases ha : (c = 7 ∨ c = 9) ∧ constB y 1 = true
    ·rw [if_pos ha, if_pos (by simp only [dd]; exact .inr ⟨by omega, ha.2⟩)]; rfl
    ·rw [if_neg ha, if_neg (by simp only [dd]; rintro (q | q); omega; exact ha ⟨.inr q.1, q.2⟩)]
  ·rw [if_neg h9]
   by_cases h7 : c = 7 ∨ c = 8
   ·rw [if_pos h7]
    by_cases hb : constB z 0 = true
    ·rw [if_pos (by simp only [dd]; exact .inl ⟨h7, hb⟩), if_pos hb]; rfl
    ·rw [if_neg (by simp only [dd]; rintro (q | q); exact hb q.2; omega), if_neg hb, nrm_mk]
     by_cases ha : (c = 7 ∨ c = 9) ∧ constB y 0 = true
     ·rw [if_pos ha, if_pos (by simp only [dd]; exact .inl ⟨by omega, ha.2⟩)]; rfl
     ·rw [if_neg ha, if_neg (by simp only [dd]; rintro (q | q); exact ha ⟨.inl q.1, q.2⟩; omega)]
   ·rw [if_neg h7, if_neg (by simp only [dd]; omega), nrm_mk, if_neg (by simp only [dd]; omega)]
 ·skip
  unfold twiceR; rw [hc, hy, nrm_mk]
  by_cases h : (c ≠ 5 ∧ c ≠ 6) ∨ y.code ≠ c
  ·rw [if_pos h, if_neg (by simp only [dd]; omega)]
  ·rw [if_neg h]
   by_cases h6 : c = 6
   ·by_cases hb : getB (truthsR C.ops) y.a = true
    ·rw [if_neg (show ¬ (c = 6 ∧ getB (truthsR C.ops) y.a = false) from fun q => by rw [hb] at q; exact absurd q.2 (by decide)), if_pos (by simp only [dd]; exact .inr ⟨⟨h6, by omega⟩, hb⟩)]; rfl
    ·rw [if_pos (show c = 6 ∧ getB (truthsR C.ops) y.a = false from ⟨h6, by simpa using hb⟩), if_neg (by simp only [dd]; rintro (q | q); omega; exact hb q.2)]
   ·rw [if_neg (show ¬ (c = 6 ∧ getB (truthsR C.ops) y.a = false) from fun q => h6 q.1), if_pos (by simp only [dd]; exact .inl ⟨by omega, by omega⟩)]; rfl
 ·skip
  unfold truthR; rw [hc, isb, isc, nrm_mk]
  by_cases h : c = 17 ∧ getB (truthsR C.ops) x.a = true ∧ constB z 1 = true ∧ constB u 0 = true
  ·rw [if_pos h, if_pos (by simp only [dd]; exact ⟨⟨⟨h.1, h.2.1⟩, h.2.2.1⟩, h.2.2.2⟩)]; rfl
  ·rw [if_neg h, if_neg (by simp only [dd]; exact fun q => h ⟨q.1.1.1, q.1.1.2, q.1.2, q.2⟩)]
 ·skip
  unfold turnR; rw [hc, isb, isc, nrm_mk]
  by_cases h : c = 17 ∧ constB z 0 = true ∧ constB u 1 = true
  ·rw [if_pos h, if_pos (by simp only [dd]; exact ⟨⟨h.1, h.2.1⟩, h.2.2⟩)]; rfl
  ·rw [if_neg h, if_neg (by simp only [dd]; exact fun q => h ⟨q.1.1, q.1.2, q.2⟩)]
 ·skip
  unfold selfR; rw [hc, nrm_mk]
  by_cases h : x.a = x.b ∧ (c = 15 ∨ c = 16 ∧ getB (truthsR C.ops) x.a = true)
  ·rw [if_pos h, if_pos (by simp only [dd]; exact h)]; rfl
  ·rw [if_neg h, if_neg (by simp only [dd]; exact h)]
 ·skip
  unfold sameR
  have hxi := getO_some h0 h1;rw [hx] at hxi;obtain ⟨o, rfl⟩ := Int.eq_ofNat_of_zero_le h0;have hm : x ∈ C.ops := List.mem_of_getElem? hxi;rw [firstR_spec, if_pos hm]
  simp only [Option.getD_some, Int.toNat_natCast] at hxi ⊢
  have hlt := List.findIdx_lt_length_of_exists (p := fun y => decide (x = y)) (xs := C.ops) ⟨x, hm, by simp⟩;have hat := List.findIdx_getElem (p := fun y => decide (x = y)) (xs := C.ops) (w := hlt)
  simp only [decide_eq_true_eq] at hat
  have hno : ∀ k, k < C.ops.findIdx (fun y => decide (x = y)) → ∀ q, C.ops[k]? = some q → ¬ q = x := fun k hk q hq e => by
   have := List.not_of_lt_findIdx hk;obtain ⟨hkl, hq'⟩ := List.getElem?_eq_some_iff.1 hq;rw [hq', e] at this; simp at this
  generalize C.ops.findIdx (fun y => decide (x = y)) = j at *
  by_cases hji : (j : Int) < o
  ·have hid : idx (fun q => decide (q = x)) (C.ops.take o) = (j : Int) := idx_found (y := x) (fun k q hk hq => by
    rw [List.getElem?_take] at hq
    split at hq
    ·simpa using hno k hk q hq
    ·cases hq) (by rw [List.getElem?_take, if_pos (by omega), List.getElem?_eq_getElem hlt, ← hat]) (by simp)
   rw [hid, if_neg (by omega), if_pos hji]; rfl
  ·have hid : idx (fun q => decide (q = x)) (C.ops.take o) = -1 := idx_none (fun k q hq => by
    rw [List.getElem?_take] at hq
    split at hq
    ·rename_i hk; simpa using hno k (by omega) q hq
    ·cases hq)
   rw [hid, if_pos (by omega), if_neg hji]; rfl
theorem try_at {C : Co} (hck : checkR C = 0) {r i : Int} (h0 : 0 ≤ i) (h1 : i < C.ops.length) (hr : 1 ≤ r) (hr' : r ≤ 11) (hu : usedB C i = true) : nrm (tryR C.ops (truthsR C.ops) r i) = atC C r i := by
 rw [try_rule hck h0 h1 hr hr']
 unfold atC atR
 rw [← used_eq hck h0 h1, hu, if_neg (by simp; omega)]
theorem try_far {C : Co} {r i : Int} (hr : r < 1 ∨ 11 < r) : (tryR C.ops (truthsR C.ops) r i).ap = false := by
 unfold tryR tryX
 repeat rw [if_neg (by omega)]
 rfl
theorem at_far {C : Co} {r i : Int} (hr : r < 1 ∨ 11 < r) : (atC C r i).ap = false := by
 unfold atC atR; rw [if_pos (.inr hr)]; rfl
theorem at_unused {C : Co} (hck : checkR C = 0) {r i : Int} (h0 : 0 ≤ i) (h1 : i < C.ops.length) (hu : usedB C i = false) : (atC C r i).ap = false := by
 unfold atC atR; rw [← used_eq hck h0 h1, hu, if_pos (.inl rfl)]; rfl
theorem try_ap {C : Co} (hck : checkR C = 0) {r i : Int} (h0 : 0 ≤ i) (h1 : i < C.ops.length) (hr : 1 ≤ r) (hr' : r ≤ 11) (hu : usedB C i = true) : (tryR C.ops (truthsR C.ops) r i).ap = (atC C r i).ap := by
 rw [← try_at hck h0 h1 hr hr' hu, nrm_ap]
theorem rules_unused {C : Co} (hck : checkR C = 0) {i : Int} (h0 : 0 ≤ i) (h1 : i < C.ops.length) (hu : usedB C i = false) : rulesC C i = [] := by
 unfold rulesC rulesAt rl
 rw [List.filter_eq_nil_iff];intro r _ h;have := at_unused (r := r) hck h0 h1 hu
 unfold atC at this; rw [this] at h; cases h
theorem rulesC_eq (C : Co) (i : Int) : rulesC C i = rl (fun r => (atC C r i).ap) 11 := rfl
theorem SL.ite {α : Type} {p : Prop} [Decidable p] {w : World} {u : Value} {k : Nat} {enc : α → List Value} {xs : List α} (h : p → SL w u k enc xs) (hn : ¬ p → SL w u k enc []) : SL w u k enc (if p then xs else []) := by
 split
 ·exact h ‹_›
 ·exact hn ‹_›
theorem try_ap2 {C : Co} (hck : checkR C = 0) {r i : Int} (h0 : 0 ≤ i) (h1 : i < C.ops.length) (hu : usedB C i = true) : (tryR C.ops (truthsR C.ops) r i).ap = (atC C r i).ap := by
 by_cases h : 1 ≤ r ∧ r ≤ 11
 ·exact try_ap hck h0 h1 h.1 h.2 hu
 ·rw [try_far (by omega), at_far (by omega)]
theorem try_eq2 {C : Co} (hck : checkR C = 0) {r i : Int} (h0 : 0 ≤ i) (h1 : i < C.ops.length) (hu : usedB C i = true) (h : (tryR C.ops (truthsR C.ops) r i).ap = true) : tryR C.ops (truthsR C.ops) r i = atC C r i := by
 have hr : 1 ≤ r ∧ r ≤ 11 := Classical.byContradiction fun hn => by rw [try_far (by omega)] at h; cases h
 rw [← try_at hck h0 h1 hr.1 hr.2 hu, nrm_of h]
/-- a core after a rewrite, or none -/
def apC (C : Co) (r : Rw) : Co := if (atC C r.rule r.op).ap = true then appR C r else noCo
/-- what the reference's Apply returns -/
def ApR (EC EO ER B : Nat) (C : Co) (r : Rw) (u : Value) (w : World) : Prop := ∃ vc, u = .tuple #[vc, .bool (atC C r.rule r.op).ap] ∧ CoW EC EO ER B (apC C r) vc w 0 0
theorem CoW.no {EC EO ER B : Nat} {w : World} : CoW EC EO ER B noCo (.agg [.slice none 0 0, .slice none 0 0, .slice none 0 0].toArray) w 0 0 :=
 ⟨none, 0, 0, none, 0, 0, none, 0, 0, rfl, OS.nil (fun _ => rfl) (Nat.succ_pos _), OS.nil (fun _ => rfl) (Nat.succ_pos _), OS.nil (fun _ => rfl) (Nat.succ_pos _)⟩
/-! the next rewrite from an operation on -/
def nextF (C : Co) (f : Nat) : Option Rw := ((List.range C.ops.length).find? fun (i : Nat) => decide (f ≤ i) && !(rulesC C (i : Int)).isEmpty).map fun (i : Nat) => ⟨(rulesC C (i : Int)).headD 0, (i : Int)⟩
theorem nextF_at {C : Co} {f i : Nat} {r : Int} {post : List Int} (hf : f ≤ i) (hi : i < C.ops.length) (hno : ∀ j : Nat, f ≤ j → j < i → rulesC C j = []) (h : rulesC C i = r :: post) : nextF C f = some ⟨r, i⟩ := by
 unfold nextF
 have : (List.range C.ops.length).find? (fun (i : Nat) => decide (f ≤ i) && !(rulesC C (i : Int)).isEmpty) = some i := by
  rw [List.find?_range_eq_some];refine ⟨by simp [h, hf], by simpa using hi, fun j hj => ?_⟩
  by_cases hfj : f ≤ j
  ·simp [hno j hfj hj]
  ·simp [hfj]
 rw [this]; simp [h]
theorem nextF_no {C : Co} {f : Nat} (hno : ∀ j : Nat, f ≤ j → j < C.ops.length → rulesC C j = []) : nextF C f = none := by
 unfold nextF
 rw [List.find?_eq_none.2 (fun j hj => by
  have hj' : j < C.ops.length := by simpa using hj
  by_cases hfj : f ≤ j
  ·simp [hno j hfj hj']
  ·simp [hfj])]; rfl
theorem nextF_eq {C : Co} {f : Nat} (hno : ∀ j : Nat, j < f → rulesC C j = []) : nextF C f = nextR C := by
 unfold nextF nextR
 congr 1
 congr 1
 funext i
 by_cases h : f ≤ i
 ·simp [h]
 ·simp [h, hno i (by omega)]
theorem nextF_zero (C : Co) : nextF C 0 = nextR C := nextF_eq fun j h => by omega
theorem replay1 {C : Co} (hck : checkR C = 0) (r : Rw) : replayR C [r] = if (applyR C r).2 ≠ 0 then (noCo, 0, (applyR C r).2) else ((applyR C r).1, 1, 0) := by
 unfold replayR
 rw [if_neg (by simp [hck]), if_neg (by simp)]; rfl
theorem replay_out {C : Co} (hck : checkR C = 0) {r : Rw} (h : r.op < 0 ∨ (C.ops.length : Int) ≤ r.op) : replayR C [r] = (noCo, 0, 7) := by
 have ha : applyR C r = (C, 7) := by unfold applyR; rw [if_pos h]
 rw [replay1 hck, ha]; rfl
theorem replay_ap {C : Co} (hck : checkR C = 0) {r : Rw} (h0 : 0 ≤ r.op) (h1 : r.op < C.ops.length) : (replayR C [r]).1 = apC C r ∧ (replayR C [r]).2.2 = if (atC C r.rule r.op).ap = true then 0 else 12 := by
 by_cases h : (atC C r.rule r.op).ap = true
 ·have ha : applyR C r = (appR C r, 0) := by unfold applyR; rw [if_neg (by omega), if_neg (by rw [h]; decide)]
  rw [replay1 hck, ha, if_pos h]; unfold apC; rw [if_pos h]; exact ⟨rfl, rfl⟩
 ·have ha : applyR C r = (C, 12) := by unfold applyR; rw [if_neg (by omega), if_pos (by simpa using h)]
  rw [replay1 hck, ha, if_neg h]; unfold apC; rw [if_neg h]; exact ⟨rfl, rfl⟩
theorem apC_len (C : Co) (r : Rw) : (apC C r).ch.length ≤ C.ch.length ∧ (apC C r).ops.length ≤ C.ops.length ∧ (apC C r).roots.length ≤ C.roots.length := by
 unfold apC
 split
 ·unfold appR
  obtain ⟨h1, h2, h3⟩ := outC_len C r.op (atC C r.rule r.op);rw [h1, h2, h3]; omega
 ·simp [noCo]
theorem CoW.frR {EC EO ER B T : Nat} {C : Co} {v : Value} {w w' : World} {lo hi : Nat} (h1 : EC ≠ T) (h2 : EO ≠ T) (h3 : ER ≠ T) (h : CoW EC EO ER B C v w lo hi) (hc : Below w.heap.size w w' ∨ ∃ b cs, Blk w b cs T ∧ Chg (· = b) w w') : CoW EC EO ER B C v w' lo hi := by
 obtain ⟨a1, n1, c1, a2, n2, c2, a3, n3, c3, e, g1, g2, g3⟩ := h;exact ⟨a1, n1, c1, a2, n2, c2, a3, n3, c3, e, OS.frR h1 g1 hc, OS.frR h2 g2 hc, OS.frR h3 g3 hc⟩
theorem ApR.frR {EC EO ER B T : Nat} {C : Co} {r : Rw} {v : Value} {w w' : World} (h1 : EC ≠ T) (h2 : EO ≠ T) (h3 : ER ≠ T) (h : ApR EC EO ER B C r v w) (hc : Below w.heap.size w w' ∨ ∃ b cs, Blk w b cs T ∧ Chg (· = b) w w') : ApR EC EO ER B C r v w' := by
 obtain ⟨vc, e, g⟩ := h;exact ⟨vc, e, g.frR h1 h2 h3 hc⟩
theorem CoW.le {EC EO ER B B' : Nat} {C : Co} {v : Value} {w : World} {lo hi : Nat} (h : CoW EC EO ER B C v w lo hi) (hB : B' ≤ B) : CoW EC EO ER B' C v w lo hi := by
 obtain ⟨a1, n1, c1, a2, n2, c2, a3, n3, c3, e, g1, g2, g3⟩ := h;exact ⟨a1, n1, c1, a2, n2, c2, a3, n3, c3, e, g1.le hB, g2.le hB, g3.le hB⟩
theorem ApR.le {EC EO ER B B' : Nat} {C : Co} {r : Rw} {v : Value} {w : World} (h : ApR EC EO ER B C r v w) (hB : B' ≤ B) : ApR EC EO ER B' C r v w := by
 obtain ⟨vc, e, g⟩ := h;exact ⟨vc, e, g.le hB⟩
theorem replay_end {C C' : Co} {l : List Rw} {n : Nat} (h : replayR C l = replayF C' n (l.drop n)) (hn : l.length ≤ n) : replayR C l = (C', (n : Int), 0) := by
 rw [h, List.drop_eq_nil_of_le hn]; rfl
theorem apply_out {C : Co} {r : Rw} (h : r.op < 0 ∨ (C.ops.length : Int) ≤ r.op) : (applyR C r).2 = 7 := by unfold applyR; rw [if_pos h]
theorem apply_no {C : Co} {r : Rw} (h0 : 0 ≤ r.op) (h1 : r.op < C.ops.length) (h : (atC C r.rule r.op).ap = false) : (applyR C r).2 = 12 := by unfold applyR; rw [if_neg (by omega), if_pos h]
theorem apply_yes {C : Co} {r : Rw} (h0 : 0 ≤ r.op) (h1 : r.op < C.ops.length) (h : (atC C r.rule r.op).ap = true) : applyR C r = (appR C r, 0) := by unfold applyR; rw [if_neg (by omega), if_neg (by rw [h]; decide)]
theorem apC_yes {C : Co} {r : Rw} (h : (atC C r.rule r.op).ap = true) : apC C r = appR C r := by unfold apC; rw [if_pos h]
theorem replayF_check : ∀ (l : List Rw) (C : Co) (k : Int), checkR C = 0 → checkR (replayF C k l).1 = 0
 | [], C, k, h => h
 | r :: l, C, k, h => by
  unfold replayF
  split
  ·rfl
  ·exact replayF_check l _ _ (applyR_check h r)
theorem replayR_check {C : Co} (h : checkR C = 0) (l : List Rw) : checkR (replayR C l).1 = 0 := by
 unfold replayR
 split
 ·rfl
 ·split
  ·rfl
  ·exact replayF_check l C 0 h
theorem GEx_qv {P : Program} {Ef : List (World → World → Prop)} {l : Frm} {w : World} {d : Option Nat} {op : Op} {ty : TypeId} {pos : String} {af : Array Edge} {g : Option (Nat × Bool)} {v : Value} {ds : List Nat} {acc : List Value} {R : Value → World → Nat → Nat → Prop} (h : Rq P op ty l w v) (hR : ∀ lo hi, R v w lo hi) :
  GEx P { dst := d, op := op, type := ty, pos := pos, after := af, guard := g } l w (GEff Ef (gfrs ds R) acc) (fun u w' => (gfrs ds R).R acc u w' w.heap.size w'.heap.size) := fun X a hP ha =>
 .inl ⟨v, w, by subst hP; exact h w (Below.refl _ _) X a _ rfl ha rfl rfl, ⟨Below.refl _ _, trivial⟩, hR _ _⟩
theorem one_sl {α : Type} {w : World} {v : Value} {k : Nat} {enc : α → List Value} {xs : List α} (h : SL w v k enc xs) : one1 v = true := by
 obtain ⟨a, c, e⟩ := h.len; rw [e]; rfl
end Go.Mi
