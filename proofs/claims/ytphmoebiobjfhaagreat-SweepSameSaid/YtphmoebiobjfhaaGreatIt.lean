/- A tidied core has the rules of the core; a rewrite leaves no more that is found. No program's text. -/
import Derived.Test.YtphmoebiobjfhaaGreatIs
set_option linter.all false
namespace Go.Mi
open Go Go.RowKit
theorem at_out {C : Co} {r i : Int} (hr : r < 1 ∨ 11 < r) : (atC C r i).ap = false := by
 unfold atC atR; rw [if_pos (.inr hr)]; rfl
theorem rulesC_nil {C : Co} {j : Int} : rulesC C j = [] ↔ ∀ r : Int, (atC C r j).ap = false := by
 have e : rulesC C j = rl (fun r => (atC C r j).ap) 11 := rfl;rw [e]
 constructor
 ·intro h r
  by_cases hr : 1 ≤ r ∧ r ≤ 11
  ·rw [Bool.eq_false_iff]; intro hp
   have hm : r ∈ rl (fun r => (atC C r j).ap) 11 := by
    simp only [rl, List.mem_filter, List.mem_map, List.mem_range]
    exact ⟨⟨(r - 1).toNat, by omega, by omega⟩, hp⟩
   rw [h] at hm; cases hm
  ·exact at_out (by omega)
 ·intro h
  unfold rl
  rw [List.filter_eq_nil_iff];intro r _ hp; rw [h r] at hp; cases hp
theorem next_none {C : Co} (h : nextR C = none) : ∀ j : Nat, j < C.ops.length → rulesC C j = [] := by
 unfold nextR at h
 simp only [Option.map_eq_none_iff] at h
 intro j hj;rw [List.find?_eq_none] at h;have := h j (List.mem_range.2 hj)
 simpa using this
/-! what is used -/
theorem getB_setB {us : List Bool} {i j : Int} (h0 : 0 ≤ i) (h1 : i < us.length) (hj : 0 ≤ j) : getB (setB us j) i = true ↔ getB us i = true ∨ i = j := by
 unfold getB setB
 rw [List.getD_eq_getElem?_getD, List.getElem?_set, List.getD_eq_getElem?_getD]
 by_cases e : j.toNat = i.toNat
 ·have : i = j := by omega
  rw [if_pos e, if_pos (by omega)]; simp [this]
 ·rw [if_neg e]
  have : ¬ i = j := fun h => e (by rw [h])
  simp [this]
theorem setB_len (us : List Bool) (l : List Int) : (l.foldl setB us).length = us.length := by
 induction l generalizing us with
 | nil => rfl
 | cons j l ih => rw [List.foldl_cons, ih]; simp [setB]
theorem getB_fold {i : Int} (h0 : 0 ≤ i) : ∀ (l : List Int) (us : List Bool), i < us.length → (getB us i = true ∨ i ∈ l) → (∀ j ∈ l, 0 ≤ j) → getB (l.foldl setB us) i = true
 | [], us, _, h, _ => by rcases h with h | h; exact h; cases h
 | j :: l, us, h1, h, hl => by
  rw [List.foldl_cons]
  refine getB_fold h0 l _ (by simpa [setB] using h1) ?_ fun k hk => hl k (by simp [hk])
  rcases h with h | h
  ·exact .inl ((getB_setB h0 h1 (hl j (by simp))).2 (.inl h))
  ·rcases List.mem_cons.1 h with h | h
   ·exact .inl ((getB_setB h0 h1 (hl j (by simp))).2 (.inr h))
   ·exact .inr h
theorem used_of {C : Co} (hck : checkR C = 0) {i : Int} (h0 : 0 ≤ i) (h1 : i < C.ops.length) (h : i ∈ C.roots ∨ ∃ y ∈ C.ops, i ∈ opsOf y) : getB (usedR C) i = true := by
 obtain ⟨_, hr, ho⟩ := check_ok hck
 have hpos : ∀ x ∈ C.ops, ∀ j ∈ opsOf x, 0 ≤ j := fun x hx j hj => by
  obtain ⟨k, hk⟩ := List.getElem?_of_mem hx;exact ((isOpB_spec (ho k x hk)).2.1 j hj).1
 have hops : ∀ (l : List Ot) (us : List Bool), (∀ x ∈ l, x ∈ C.ops) → i < us.length → (getB us i = true ∨ ∃ x ∈ l, i ∈ opsOf x) → getB (l.foldl usedOp us) i = true ∧ i < (l.foldl usedOp us).length := fun l => by
  induction l with
  | nil => intro us _ hl hs; rcases hs with h | ⟨x, hx, _⟩; exact ⟨h, hl⟩; cases hx
  | cons x l ih =>
   intro us hx hl hs;rw [List.foldl_cons];have hxx := hpos x (hx x (by simp))
   have hl2 : i < (usedOp us x).length := by unfold usedOp; rw [setB_len]; exact hl
   refine ih _ (fun y hy => hx y (by simp [hy])) hl2 ?_
   rcases hs with h | ⟨y, hy, hi⟩
   ·exact .inl (getB_fold h0 _ us hl (.inl h) hxx)
   ·rcases List.mem_cons.1 hy with rfl | hy
    ·exact .inl (getB_fold h0 _ us hl (.inr hi) hxx)
    ·exact .inr ⟨y, hy, hi⟩
 unfold usedR
 have hrep : i < (List.replicate C.ops.length false).length := by simpa using h1
 have hlen : i < (C.ops.foldl usedOp (List.replicate C.ops.length false)).length := by
  have h9 : ∀ (l : List Ot) (us : List Bool), (l.foldl usedOp us).length = us.length := fun l => by
   induction l with
   | nil => intro us; rfl
   | cons x l ih => intro us; rw [List.foldl_cons, ih]; unfold usedOp; rw [setB_len]
  rw [h9]; exact hrep
 rcases h with h | h
 ·exact getB_fold h0 _ _ hlen (.inr h) fun j hj => (hr j hj).1
 ·exact getB_fold h0 _ _ hlen (.inl (hops C.ops _ (fun _ h => h) hrep (.inr h)).1) fun j hj => (hr j hj).1
theorem used_found {C : Co} (hck : checkR C = 0) {i : Int} (h : i ∈ foundR C) : getB (usedR C) i = true := by
 have hb := (found_nodup hck).2 i h;refine used_of hck hb.1 hb.2 ?_
 rcases (found_clo hck).2.2 i h with h | ⟨y, hy, hi⟩
 ·exact .inl h
 ·have := (found_nodup hck).2 y hy
  exact .inr ⟨_, List.mem_of_getElem? (getO_some this.1 this.2), hi⟩
/-! truths -/
theorem truthB_iso {tr tr' : List Bool} {g : Int → Int} {x : Ot} (h : ∀ n ∈ opsOf x, getB tr' (g n) = getB tr n) : truthB tr' (at0 g x) = truthB tr x := by
 have hc : (at0 g x).code = x.code := rfl;have hn : (at0 g x).n = x.n := rfl
 unfold truthB
 rw [hc, hn]
 by_cases h2 : x.code = 15 ∨ x.code = 16
 ·have ha : arN x.code = 2 := by rcases h2 with e | e <;> (rw [e]; rfl)
  have e : (at0 g x).b = g x.b := by simp [at0, ha]
  rw [if_pos h2, if_pos h2, e, h _ (mem_b (by omega))]
 ·rw [if_neg h2, if_neg h2]
  by_cases h3 : x.code = 17
  ·have ha : arN x.code = 3 := by rw [h3]; rfl
   have e : (at0 g x).b = g x.b := by simp [at0, ha]
   have e' : (at0 g x).c = g x.c := by simp [at0, ha]
   rw [if_pos h3, if_pos h3, e, e', h _ (mem_b (by omega)), h _ (mem_c (by omega))]
  ·rw [if_neg h3, if_neg h3]
theorem truth_at {C : Co} (hck : checkR C = 0) {i : Int} (h0 : 0 ≤ i) (h1 : i < C.ops.length) : getB (truthsR C.ops) i = truthB (truthsR C.ops) (getO C.ops i) := by
 obtain ⟨k, rfl⟩ := Int.eq_ofNat_of_zero_le h0
 have hk : k < C.ops.length := by omega
 have hx := getO_some h0 h1;rw [Int.toNat_natCast] at hx
 have hgen : ∀ (l : List Ot) (m : Nat), (truthsR l).take m = truthsR (l.take m) := fun l m => by
  refine snoc_ind (p := fun l => ∀ n, (truthsR l).take n = truthsR (l.take n)) (fun n => by simp [truthsR]) (fun l x ih n => ?_) l m;rw [truthsR_snoc]
  rcases Nat.lt_or_ge l.length n with h | h
  ·rw [List.take_of_length_le (by rw [List.length_append, truthsR_length, List.length_singleton]; omega), List.take_of_length_le (by rw [List.length_append, List.length_singleton]; omega), truthsR_snoc]
  ·rw [List.take_append_of_le_length (by rw [truthsR_length]; omega), List.take_append_of_le_length h, ih]
 have hget : ∀ (m : Nat) (j : Int), 0 ≤ j → j < m → getB (truthsR (C.ops.take m)) j = getB (truthsR C.ops) j := fun m j hj hm => by
  rw [← hgen]
  unfold getB
  rw [List.getD_eq_getElem?_getD, List.getD_eq_getElem?_getD, List.getElem?_take, if_pos (by omega)]
 have e1 := hget (k + 1) k (by omega) (by omega);rw [← e1, take_succ_get hx, truthsR_snoc]
 have hl : (truthsR (C.ops.take k)).length = k := by rw [truthsR_length]; simp; omega
 have e2 : getB (truthsR (C.ops.take k) ++ [truthB (truthsR (C.ops.take k)) (getO C.ops (k : Int))]) (k : Int) = truthB (truthsR (C.ops.take k)) (getO C.ops (k : Int)) := by
  unfold getB; rw [Int.toNat_natCast, List.getD_eq_getElem?_getD, List.getElem?_append_right (by omega), hl]; simp
 rw [e2]
 have h9 := truthB_iso (tr := truthsR C.ops) (tr' := truthsR (C.ops.take k)) (g := fun n => n) (x := getO C.ops (k : Int)) fun n hn => by
  have := opsOf_bd hck h0 h1 n hn;exact hget k n this.1 (by omega)
 rw [at0_id] at h9; exact h9
theorem truths_iso {D E : Co} {g : Int → Int} (hD : checkR D = 0) (hE : checkR E = 0) (h : Iso D E g) : ∀ (m : Nat) (k : Int), 0 ≤ k → k < D.ops.length → k < m → getB (truthsR E.ops) (g k) = getB (truthsR D.ops) k
 | 0, k, h0, _, hm => by omega
 | m + 1, k, h0, h1, hm => by
  obtain ⟨hg, e⟩ := h.ops k h0 h1;rw [truth_at hD h0 h1, truth_at hE hg.1 hg.2, e]
  refine truthB_iso fun n hn => ?_
  have := opsOf_bd hD h0 h1 n hn;exact truths_iso hD hE h m n this.1 (by omega) (by omega)
/-! rules -/
theorem isR_iso {D E : Co} {g : Int → Int} (h : Iso D E g) {n m : Int} (h0 : 0 ≤ n) (h1 : n < D.ops.length) : isR E.ops (g n) m = isR D.ops n m := by
 unfold isR
 rw [(h.ops n h0 h1).2, Bool.eq_iff_iff, decide_eq_true_iff, decide_eq_true_iff]
 rcases he : getO D.ops n with ⟨c, a, b, d, k⟩
 by_cases hc : c = 1
 ·subst hc; simp [at0, arN]
 ·simp [at0, hc]
theorem kon_ok {C : Co} (hck : checkR C = 0) {j : Int} (h0 : 0 ≤ j) (h1 : j < C.ops.length) (h : (cellR (getO C.ops j)).2 = true) : isCellB (cellR (getO C.ops j)).1 = true := by
 have hop := (isOpB_spec (ops_at hck h0 h1)).1.2.2
 unfold cellR at *
 by_cases c1 : (getO C.ops j).code = 1
 ·rw [if_pos c1]; exact cell_mkV _
 ·rw [if_neg c1] at h ⊢
  by_cases c2 : (getO C.ops j).code = 2
  ·rw [if_pos c2]
   unfold isNumB at hop
   rw [if_neg c1, if_pos c2] at hop;have := withinB_mem hop (List.mem_singleton.2 rfl)
   unfold isCellB
   dsimp only
   split <;> simp <;> omega
  ·rw [if_neg c2] at h; cases h
theorem rule_iso {D E : Co} {g : Int → Int} (hD : checkR D = 0) (hE : checkR E = 0) (h : Iso D E g) {r k : Int} (h0 : 0 ≤ k) (h1 : k < D.ops.length) (hr : r ≤ 10) (hr' : 1 ≤ r) (f f' : Ot → Option Int) :
  (ruleR E.ops (truthsR E.ops) f' r (g k)).ap = (ruleR D.ops (truthsR D.ops) f r k).ap := by
 obtain ⟨hg, e⟩ := h.ops k h0 h1
 obtain ⟨x, hx⟩ : ∃ x, getO D.ops k = x := ⟨_, rfl⟩
 have hop := ops_at hD h0 h1;rw [hx] at e hop;obtain ⟨⟨c1, c2, _⟩, oa, ob, oc, za, zb, zc⟩ := opnd_iff.1 hop;have hcase := arN_case c1 c2
 have ht : ∀ n : Int, 0 ≤ n → n < D.ops.length → getB (truthsR E.ops) (g n) = getB (truthsR D.ops) n := fun n hn0 hn1 => truths_iso hD hE h D.ops.length n hn0 hn1 (by omega)
 have hcd : (at0 g x).code = x.code := rfl
 have ea : 1 ≤ arN x.code → (0 ≤ x.a ∧ x.a < D.ops.length) ∧ (at0 g x).a = g x.a := fun q => ⟨by have := oa q; omega, by simp only [at0, if_pos q]⟩
 have eb : 2 ≤ arN x.code → (0 ≤ x.b ∧ x.b < D.ops.length) ∧ (at0 g x).b = g x.b := fun q => ⟨by have := ob q; omega, by simp only [at0, if_pos q]⟩
 have ec : 3 ≤ arN x.code → (0 ≤ x.c ∧ x.c < D.ops.length) ∧ (at0 g x).c = g x.c := fun q => ⟨by have := oc q; omega, by simp only [at0, if_pos q]⟩
 have kn : ∀ c : Int, 15 ≤ c → knownR E.ops (at0 g x) c = knownR D.ops x c := fun c hc => by
  unfold knownR
  rw [hcd]
  by_cases q : x.code = c
  ·obtain ⟨hr, ha⟩ := ea (by omega)
   rw [ha, (h.ops _ hr.1 hr.2).2]; rfl
  ·rw [if_pos (.inl q), if_pos (.inl q)]
 have hap : ∀ n : Int, (stand n).ap = true := fun _ => rfl
 have hbp : ∀ y : Ot, (becomeO y).ap = true := fun _ => rfl
 rcases (by omega : r = 1 ∨ r = 2 ∨ r = 3 ∨ r = 4 ∨ r = 5 ∨ r = 6 ∨ r = 7 ∨ r = 8 ∨ r = 9 ∨ r = 10) with rfl | rfl | rfl | rfl | rfl | rfl | rfl | rfl | rfl | rfl <;>
  simp only [ruleR, if_true, Int.reduceEq, if_false, hx, e]
 ·have hfin : ∀ v, (finR v).ap = true := fun v => by unfold finR; split <;> rfl
  unfold workR
  rw [hcd]
  by_cases q : x.code < 5 ∨ 16 < x.code
  ·rw [if_pos q, if_pos q]
  ·rw [if_neg q, if_neg q]
   obtain ⟨hr, ha⟩ := ea (by omega)
   have hca : cellR (getO E.ops (at0 g x).a) = cellR (getO D.ops x.a) := by rw [ha, (h.ops _ hr.1 hr.2).2]; rfl
   rw [hca]
   by_cases qa : (cellR (getO D.ops x.a)).2 = false
   ·rw [if_pos qa, if_pos qa]
   ·rw [if_neg qa, if_neg qa]
    by_cases q1 : (op1R x.code (cellR (getO D.ops x.a)).1).2 ≠ 0
    ·rw [if_pos q1, if_pos q1]
     have q2 : 2 ≤ arN x.code := by
      refine Classical.byContradiction fun hn => q1 ?_
      have hs : x.code = 5 ∨ x.code = 6 := by omega
      have hcell := kon_ok hD hr.1 hr.2 (by simpa using qa)
      unfold op1R
      rw [if_neg (by rw [hcell]; unfold isSolo; rcases hs with e | e <;> simp [e])]
      (repeat' split) <;> rfl
     obtain ⟨hrb, hb⟩ := eb q2
     have hcb : cellR (getO E.ops (at0 g x).b) = cellR (getO D.ops x.b) := by rw [hb, (h.ops _ hrb.1 hrb.2).2]; rfl
     rw [hcb]
    ·rw [if_neg q1, if_neg q1]
 ·unfold faultR
  rw [hcd]
  by_cases q : x.code < 7
  ·rw [if_pos (.inl q), if_pos (.inl q)]
  ·obtain ⟨hr, ha⟩ := ea (by omega)
   rw [ha, (h.ops _ hr.1 hr.2).2]
   show (if x.code < 7 ∨ (getO D.ops x.a).code ≠ 2 then oc0 else stand (g x.a)).ap = _
   split <;> rfl
 ·unfold pickR; rw [kn 17 (by omega)]; (repeat' split) <;> rfl
 ·unfold andR; rw [kn 15 (by omega)]; (repeat' split) <;> rfl
 ·unfold orR; rw [kn 16 (by omega)]; (repeat' split) <;> rfl
 ·unfold unitR unit1
  rw [hcd]
  by_cases q : 7 ≤ x.code ∧ x.code ≤ 10
  ·obtain ⟨hr, ha⟩ := ea (by omega)
   obtain ⟨hrb, hb⟩ := eb (by omega)
   simp only [ha, hb, isR_iso h hr.1 hr.2, isR_iso h hrb.1 hrb.2]
   (repeat' split) <;> rfl
  ·rw [if_neg (by omega), if_neg (by omega), if_neg (by omega), if_neg (by omega)]
 ·unfold twiceR
  rw [hcd]
  by_cases q : x.code ≠ 5 ∧ x.code ≠ 6
  ·rw [if_pos (.inl q), if_pos (.inl q)]
  ·obtain ⟨hr, ha⟩ := ea (by omega)
   rw [ha, (h.ops _ hr.1 hr.2).2];have hcy : (at0 g (getO D.ops x.a)).code = (getO D.ops x.a).code := rfl;rw [hcy]
   by_cases qy : (getO D.ops x.a).code = x.code
   ·have q' : ¬ ((x.code ≠ 5 ∧ x.code ≠ 6) ∨ (getO D.ops x.a).code ≠ x.code) := fun h => h.elim q (fun h => h qy)
    rw [if_neg q', if_neg q'];have hopy := ops_at hD hr.1 hr.2;obtain ⟨_, oya, _⟩ := opnd_iff.1 hopy
    have qya : 1 ≤ arN (getO D.ops x.a).code := by rw [qy]; omega
    have hya := oya qya
    have : (at0 g (getO D.ops x.a)).a = g (getO D.ops x.a).a := by simp only [at0, if_pos qya]
    rw [this, ht _ hya.1 (by omega)]
    split <;> rfl
   ·rw [if_pos (.inr qy), if_pos (.inr qy)]
 ·unfold truthR
  rw [hcd]
  by_cases q : x.code = 17
  ·obtain ⟨hr, ha⟩ := ea (by omega)
   obtain ⟨hrb, hb⟩ := eb (by omega);obtain ⟨hrc, hc⟩ := ec (by omega);rw [ha, hb, hc, isR_iso h hrb.1 hrb.2, isR_iso h hrc.1 hrc.2, ht _ hr.1 hr.2]
   split <;> rfl
  ·rw [if_neg (fun h => q h.1), if_neg (fun h => q h.1)]
 ·unfold turnR
  rw [hcd]
  by_cases q : x.code = 17
  ·obtain ⟨hrb, hb⟩ := eb (by omega)
   obtain ⟨hrc, hc⟩ := ec (by omega);rw [hb, hc, isR_iso h hrb.1 hrb.2, isR_iso h hrc.1 hrc.2]
   split <;> rfl
  ·rw [if_neg (fun h => q h.1), if_neg (fun h => q h.1)]
 ·unfold selfR
  rw [hcd]
  by_cases q : x.code = 15 ∨ x.code = 16
  ·obtain ⟨hr, ha⟩ := ea (by omega)
   obtain ⟨hrb, hb⟩ := eb (by omega);rw [ha, hb, ht _ hr.1 hr.2]
   by_cases qe : x.a = x.b
   ·rw [qe]; split <;> split <;> simp_all
   ·have : ¬ g x.a = g x.b := fun h9 => qe (h.inj _ _ hr.1 hr.2 hrb.1 hrb.2 h9)
    rw [if_neg (fun h => this h.1), if_neg (fun h => qe h.1)]
  ·rw [if_neg (fun h => q (h.2.imp id (·.1))), if_neg (fun h => q (h.2.imp id (·.1)))]
theorem at0_inj {D : Co} {g : Int → Int} (hinj : ∀ j k : Int, 0 ≤ j → j < D.ops.length → 0 ≤ k → k < D.ops.length → g j = g k → j = k) {x y : Ot} {i j : Nat} (hx : isOpB D.ch.length i x = true) (hy : isOpB D.ch.length j y = true) (hi : i ≤ D.ops.length) (hj : j ≤ D.ops.length) (h : at0 g x = at0 g y) : x = y := by
 obtain ⟨_, xa, xb, xc, xa', xb', xc'⟩ := opnd_iff.1 hx;obtain ⟨_, ya, yb, yc, ya', yb', yc'⟩ := opnd_iff.1 hy
 have hc : x.code = y.code := by show (at0 g x).code = (at0 g y).code; rw [h]
 have hn : x.n = y.n := by show (at0 g x).n = (at0 g y).n; rw [h]
 have ha : (at0 g x).a = (at0 g y).a := by rw [h]
 have hb : (at0 g x).b = (at0 g y).b := by rw [h]
 have hd : (at0 g x).c = (at0 g y).c := by rw [h]
 simp only [at0] at ha hb hd
 rw [← hc] at ha hb hd ya yb yc ya' yb' yc'
 have e1 : x.a = y.a := by
  by_cases q : 1 ≤ arN x.code
  ·rw [if_pos q, if_pos q] at ha
   have := xa q; have := ya q;exact hinj _ _ (by omega) (by omega) (by omega) (by omega) ha
  ·rw [xa' (by omega), ya' (by omega)]
 have e2 : x.b = y.b := by
  by_cases q : 2 ≤ arN x.code
  ·rw [if_pos q, if_pos q] at hb
   have := xb q; have := yb q;exact hinj _ _ (by omega) (by omega) (by omega) (by omega) hb
  ·rw [xb' (by omega), yb' (by omega)]
 have e3 : x.c = y.c := by
  by_cases q : 3 ≤ arN x.code
  ·rw [if_pos q, if_pos q] at hd
   have := xc q; have := yc q;exact hinj _ _ (by omega) (by omega) (by omega) (by omega) hd
  ·rw [xc' (by omega), yc' (by omega)]
 cases x; cases y; simp_all
/-- the same operation stands before i -/
theorem same_ap {C : Co} {i : Int} (h0 : 0 ≤ i) (h1 : i < C.ops.length) : (sameR (mget (firstR C.ops)) i (getO C.ops i)).ap = true ↔ ∃ j : Int, 0 ≤ j ∧ j < i ∧ getO C.ops j = getO C.ops i := by
 obtain ⟨j, hj, hji, he⟩ := first_le h0 h1
 unfold sameR
 rw [hj]
 constructor
 ·intro h
  split at h
  ·rename_i hlt; exact ⟨j, by omega, hlt, he⟩
  ·cases h
 ·rintro ⟨m, hm0, hm, hme⟩
  rw [if_pos]; rfl;have hspec := firstR_spec C.ops (getO C.ops i);rw [hj, if_pos (List.mem_of_getElem? (getO_some h0 h1))] at hspec;have e9 := Option.some.inj hspec
  refine Classical.byContradiction fun hn => ?_
  have hjm : m.toNat < C.ops.findIdx (fun y => decide (getO C.ops i = y)) := by
   have : ((some (j : Int)).getD 0 : Int) = j := rfl
   omega
  have hmm := getO_some hm0 (show m < C.ops.length by omega);have := List.not_of_lt_findIdx hjm;rw [(List.getElem?_eq_some_iff.1 hmm).2, hme] at this
  simp at this
theorem tidy_done {E : Co} (hE : checkR E = 0) (h : nextR E = none) : nextR (tidyR E) = none := by
 have hA := tidyR_check hE;have hiso := tidyR_iso hE;have hno := next_none h;have hfl : (tidyR E).ops.length = (foundR E).length := tidyO_len _ _
 have hmem : ∀ k : Int, 0 ≤ k → k < (tidyR E).ops.length → back (foundR E) k ∈ foundR E := fun k h0 h1 => List.mem_of_getElem? (back_some h0 (by omega))
 have hE2 : ∀ (m r : Int), m ∈ foundR E → 1 ≤ r → r ≤ 11 → (ruleR E.ops (truthsR E.ops) (mget (firstR E.ops)) r m).ap = false := fun m r hm hr hr' => by
  have hb := (found_nodup hE).2 m hm;have h9 := rulesC_nil.1 (hno m.toNat (by omega)) r;rw [show ((m.toNat : Nat) : Int) = m by omega] at h9
  unfold atC atR at h9
  rwa [if_neg (by rw [used_found hE hm]; simp; omega)] at h9
 refine next_no fun j hj => ?_
 rw [rulesC_nil]; intro r
 by_cases hr : 1 ≤ r ∧ r ≤ 11
 ·unfold atC atR
  split
  ·rfl
  ·have h0 : (0 : Int) ≤ (j : Int) := by omega
   have h1 : (j : Int) < (tidyR E).ops.length := by omega
   by_cases hr11 : r = 11
   ·subst hr11
    have he : ruleR (tidyR E).ops (truthsR (tidyR E).ops) (mget (firstR (tidyR E).ops)) 11 j = sameR (mget (firstR (tidyR E).ops)) j (getO (tidyR E).ops j) := by simp [ruleR]
    rw [he, Bool.eq_false_iff];intro hp;obtain ⟨i, hi0, hi1, hi⟩ := (same_ap h0 h1).1 hp;have ei := (hiso.ops i hi0 (by omega)).2;have ej := (hiso.ops j h0 h1).2;rw [hi] at ei;have hij : getO E.ops (back (foundR E) i) = getO E.ops (back (foundR E) j) := ei.trans ej.symm
    have hne : back (foundR E) i ≠ back (foundR E) j := fun e9 => by have := hiso.inj i j hi0 (by omega) h0 h1 e9; omega
    have hbi := (hiso.ops i hi0 (by omega)).1;have hbj := (hiso.ops j h0 h1).1
    have hsame : ∀ m, m ∈ foundR E → (sameR (mget (firstR E.ops)) m (getO E.ops m)).ap = false := fun m hm => by
     have := hE2 m 11 hm (by omega) (by omega)
     simpa [ruleR] using this
    rcases Int.lt_or_gt_of_ne hne with hlt | hlt
    ·have := (same_ap hbj.1 hbj.2).2 ⟨_, hbi.1, hlt, hij⟩
     rw [hsame _ (hmem j h0 h1)] at this; cases this
    ·have := (same_ap hbi.1 hbi.2).2 ⟨_, hbj.1, hlt, hij.symm⟩
     rw [hsame _ (hmem i hi0 (by omega))] at this; cases this
   ·rw [← rule_iso hA hE hiso h0 h1 (r := r) (by omega) hr.1 (mget (firstR (tidyR E).ops)) (mget (firstR E.ops))]
    exact hE2 _ r (hmem j h0 h1) hr.1 hr.2
 ·exact at_out (by omega)
/-! steps -/
theorem steps_done {C : Co} (hck : checkR C = 0) : nextR (stepsR C).2 = none := by
 have : ∀ (n : Nat) (C : Co), checkR C = 0 → refsR C ≤ n → nextR (stepsF n C).2 = none := fun n => by
  induction n with
  | zero =>
   intro C hck hn
   cases h : nextR C with
   | none => exact h
   | some r =>
    obtain ⟨a, b, c⟩ := next_some h;have h1 := app_less hck a b c;have h2 := refs_nonneg (app_check hck a b c)
    omega
  | succ n ih =>
   intro C hck hn
   cases h : nextR C with
   | none => rw [steps_none h]; exact h
   | some r =>
    obtain ⟨a, b, c⟩ := next_some h;have h1 := app_less hck a b c
    simp only [stepsF, h]
    exact ih _ (app_check hck a b c) (by omega)
 exact this _ C hck (by have := refs_nonneg hck; omega)
theorem steps_at_end {C : Co} (h : nextR C = none) : stepsR C = ([], C) := steps_none h _
/-- tidying what is tidied and done changes nothing -/
theorem all_again {C : Co} (hck : checkR C = 0) : tidyR (stepsR (tidyR (stepsR C).2)).2 = tidyR (stepsR C).2 := by
 have hE := (steps_len hck).2;rw [steps_at_end (tidy_done hE (steps_done hck))];exact tidyR_tidy hE
theorem replay_steps {C : Co} (hck : checkR C = 0) (hl : (stepsR C).1.length ≤ 9000) : replayR C (stepsR C).1 = ((stepsR C).2, ((stepsR C).1.length : Int), 0) := by
 have : ∀ (n : Nat) (C : Co) (k : Int), checkR C = 0 → refsR C ≤ n → replayF C k (stepsR C).1 = ((stepsR C).2, k + ((stepsR C).1.length : Int), 0) := fun n => by
  induction n with
  | zero =>
   intro C k hck hn
   cases h : nextR C with
   | none => rw [steps_at_end h]; simp [replayF]
   | some r =>
    obtain ⟨a, b, c⟩ := next_some h;have h1 := app_less hck a b c;have h2 := refs_nonneg (app_check hck a b c)
    omega
  | succ n ih =>
   intro C k hck hn
   cases h : nextR C with
   | none => rw [steps_at_end h]; simp [replayF]
   | some r =>
    obtain ⟨a, b, c⟩ := next_some h;have h1 := app_less hck a b c;rw [steps_some hck h]
    have ha : applyR C r = (appR C r, 0) := by unfold applyR; rw [if_neg (by omega), if_neg (by rw [c]; decide)]
    have h3 := ih _ (k + 1) (app_check hck a b c) (by omega)
    simp only [replayF, ha, List.length_cons]
    rw [if_neg (by decide), h3]
    congr 2
    push_cast; omega
 unfold replayR
 rw [if_neg (by simp [hck]), if_neg (by omega), this (refsR C).toNat C 0 hck (by have := refs_nonneg hck; omega)]
 simp
end Go.Mi
