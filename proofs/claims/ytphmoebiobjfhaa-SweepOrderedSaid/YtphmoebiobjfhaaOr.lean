/- Operations in another order: what the law of order needs, in plain words. No program's text. -/
import Derived.Test.YtphmoebiobjfhaaPl
set_option linter.all false
namespace Go.Mi
open Go Go.RowKit
def gI (l : List Int) (k : Int) : Int := l.getD k.toNat 0
theorem gI_some {l : List Int} {k : Int} (h0 : 0 ≤ k) (h1 : k < l.length) : l[k.toNat]? = some (gI l k) := by
 have : k.toNat < l.length := by omega
 simp [gI, List.getD, List.getElem?_eq_getElem this]
theorem gI_of {l : List Int} {k : Int} {x : Int} (h : l[k.toNat]? = some x) : gI l k = x := by simp [gI, List.getD, h]
theorem gI_set {l : List Int} {i k v : Int} (hi : 0 ≤ i) (hi' : i < l.length) (hk : 0 ≤ k) (hk' : k < l.length) : gI (l.set i.toNat v) k = if k = i then v else gI l k := by
 by_cases e : k = i
 ·subst e; rw [if_pos rfl]; exact gI_of (by rw [List.getElem?_set, if_pos rfl, if_pos (by omega)])
 ·rw [if_neg e]; exact gI_of (by rw [List.getElem?_set, if_neg (by omega)]; exact gI_some hk hk')
/-- not placed yet, its operands are -/
def rdy (C : Co) (to : List Int) (k : Int) : Bool := decide (gI to k < 0) && (opsOf (getO C.ops k)).all fun m => decide (0 ≤ gI to m)
def canO (C : Co) (to : List Int) (x : Nat) : List Int := ((List.range x).map fun (k : Nat) => (k : Int)).filter (rdy C to)
theorem canO_succ (C : Co) (to : List Int) (x : Nat) : canO C to (x + 1) = canO C to x ++ if rdy C to (x : Int) then [(x : Int)] else [] := by
 simp only [canO, List.range_succ, List.map_append, List.filter_append, List.map_cons, List.map_nil, List.filter_cons, List.filter_nil]
theorem canO_len (C : Co) (to : List Int) (x : Nat) : (canO C to x).length ≤ x := by
 unfold canO; refine Nat.le_trans (List.length_filter_le _ _) ?_; simp
theorem canO_mem {C : Co} {to : List Int} {x : Nat} {k : Int} (h : k ∈ canO C to x) : 0 ≤ k ∧ k < x ∧ rdy C to k = true := by
 unfold canO at h
 rw [List.mem_filter, List.mem_map] at h;obtain ⟨⟨j, hj, rfl⟩, hr⟩ := h;rw [List.mem_range] at hj;exact ⟨by omega, by omega, hr⟩
theorem all1 {f : Int → Bool} {a : Int} : [a].all f = f a := by simp
theorem rdy_eq {C : Co} (hck : checkR C = 0) {to : List Int} {k : Int} (h0 : 0 ≤ k) (h1 : k < C.ops.length) {y : Ot} (hy : getO C.ops k = y) :
  rdy C to k = (decide (gI to k < 0) && (decide (y.code < 5) || decide (0 ≤ gI to y.a)) && (decide (y.code < 7) || decide (0 ≤ gI to y.b)) && (!decide (y.code = 17) || decide (0 ≤ gI to y.c))) := by
 have hop := ops_at hck h0 h1;rw [hy] at hop;obtain ⟨⟨c1, c2, _⟩, _⟩ := opnd_iff.1 hop
 unfold rdy; rw [hy]
 unfold opsOf opndR
 rcases arN_case c1 c2 with ⟨h, ha⟩ | ⟨h, ha⟩ | ⟨h, h', ha⟩ | ⟨h, ha⟩ <;> rw [ha]
 ·rw [decide_eq_true (show y.code < 5 by omega), decide_eq_true (show y.code < 7 by omega), decide_eq_false (show ¬ y.code = 17 by omega)]; simp
 ·rw [decide_eq_false (show ¬ y.code < 5 by omega), decide_eq_true (show y.code < 7 by omega), decide_eq_false (show ¬ y.code = 17 by omega)]; simp
 ·rw [decide_eq_false (show ¬ y.code < 5 by omega), decide_eq_false (show ¬ y.code < 7 by omega), decide_eq_false (show ¬ y.code = 17 by omega)]; simp [Bool.and_assoc]
 ·rw [decide_eq_false (show ¬ y.code < 5 by omega), decide_eq_false (show ¬ y.code < 7 by omega), decide_eq_true (show y.code = 17 by omega)]; simp [Bool.and_assoc]
def ncnt (to : List Int) : Nat := (to.filter fun n => decide (n < 0)).length
theorem ncnt_set {to : List Int} {i : Nat} {v : Int} (h : ∃ x, to[i]? = some x ∧ x < 0) (hv : 0 ≤ v) : ncnt (to.set i v) + 1 = ncnt to := by
 induction to generalizing i with
 | nil => obtain ⟨x, hx, _⟩ := h; simp at hx
 | cons a l ih =>
  obtain ⟨x, hx, hn⟩ := h
  cases i with
  | zero =>
   simp at hx; subst hx
   simp only [ncnt, List.set_cons_zero, List.filter_cons]
   rw [if_neg (by simp; omega), if_pos (by simp; exact hn)]; rfl
  | succ i =>
   have := ih (i := i) ⟨x, by simpa using hx, hn⟩
   unfold ncnt at this ⊢
   rw [List.set_cons_succ, List.filter_cons, List.filter_cons]
   split <;> (try simp only [List.length_cons]) <;> omega
theorem ncnt_zero {to : List Int} (h : ncnt to = 0) : ∀ n ∈ to, 0 ≤ n := fun n hn => by
 unfold ncnt at h
 have := List.eq_nil_of_length_eq_zero h;rw [List.filter_eq_nil_iff] at this;have := this n hn
 simp at this; exact this
theorem ncnt_pos {to : List Int} (h : 0 < ncnt to) : ∃ n ∈ to, n < 0 := by
 unfold ncnt at h
 obtain ⟨n, hn⟩ := List.exists_mem_of_length_pos h;rw [List.mem_filter] at hn;exact ⟨n, hn.1, by simpa using hn.2⟩
theorem ncnt_rep (n : Nat) : ncnt (List.replicate n (-1)) = n := by
 unfold ncnt; rw [List.filter_replicate]; simp
/-- what is placed, and where -/
structure OI (C : Co) (to : List Int) (F : List Ot) (lf : Nat) : Prop where
 len : to.length = C.ops.length
 cn : ncnt to = lf
 at_ : ∀ k : Int, 0 ≤ k → k < C.ops.length → gI to k < 0 ∨ ((0 ≤ gI to k ∧ gI to k < F.length) ∧ getO F (gI to k) = at0 (gI to) (getO C.ops k) ∧ ∀ m ∈ opsOf (getO C.ops k), 0 ≤ gI to m)
 inj : ∀ j k : Int, 0 ≤ j → j < C.ops.length → 0 ≤ k → k < C.ops.length → 0 ≤ gI to j → gI to j = gI to k → j = k
 ops : ∀ (j : Nat) (y : Ot), F[j]? = some y → gOp j y
 few : F.length + 2 * lf ≤ 2 * C.ops.length
theorem OI.zero (C : Co) : OI C (List.replicate C.ops.length (-1)) [] C.ops.length where
 len := by simp
 cn := ncnt_rep _
 at_ k h0 h1 := by
  left
  have : gI (List.replicate C.ops.length (-1)) k = -1 := gI_of (by rw [List.getElem?_replicate, if_pos (by omega)])
  omega
 inj j k h0 h1 h2 h3 hj _ := by
  have : gI (List.replicate C.ops.length (-1)) j = -1 := gI_of (by rw [List.getElem?_replicate, if_pos (by omega)])
  omega
 ops j y h := by simp at h
 few := by simp
/-- some operation can be placed -/
theorem OI.can {C : Co} (hck : checkR C = 0) {to : List Int} {F : List Ot} {lf : Nat} (h : OI C to F lf) (hl : 0 < lf) : 0 < (canO C to C.ops.length).length := by
 obtain ⟨n, hn, hneg⟩ := ncnt_pos (h.cn ▸ hl);obtain ⟨i, hi⟩ := List.getElem?_of_mem hn
 have hex : ∃ k : Nat, k < C.ops.length ∧ gI to (k : Int) < 0 := ⟨i, by have := (List.getElem?_eq_some_iff.1 hi).1; rw [h.len] at this; exact this, by rw [gI_of (by simpa using hi)]; exact hneg⟩
 obtain ⟨k, ⟨hk, hkn⟩, hleast⟩ := least hex;refine List.length_pos_of_mem (a := (k : Int)) ?_
 unfold canO
 rw [List.mem_filter, List.mem_map];refine ⟨⟨k, List.mem_range.2 hk, rfl⟩, ?_⟩
 unfold rdy
 simp only [Bool.and_eq_true, decide_eq_true_eq, List.all_eq_true]
 refine ⟨hkn, fun m hm => ?_⟩;have hb := opsOf_bd hck (i := (k : Int)) (by omega) (by omega) m hm
 refine Int.not_lt.1 fun hm0 => ?_
 have := hleast m.toNat ⟨by omega, by rw [show ((m.toNat : Nat) : Int) = m by omega]; exact hm0⟩
 omega
theorem OI.place {C : Co} (hg : GoodC C) {to : List Int} {F E : List Ot} {lf : Nat} (h : OI C to F (lf + 1)) {i : Int} (h0 : 0 ≤ i) (h1 : i < C.ops.length) (hr : rdy C to i = true)
  (hE : ∀ (j : Nat) (y : Ot), (F ++ E)[j]? = some y → gOp j y) (hEl : E.length ≤ 1) : OI C (to.set i.toNat ((F ++ E).length : Int)) ((F ++ E) ++ [at0 (gI to) (getO C.ops i)]) lf := by
 have hck := hg.check
 have hch : C.ch.length = 2 := by rw [hg.ch]; rfl
 have hlen := h.len
 unfold rdy at hr
 simp only [Bool.and_eq_true, decide_eq_true_eq, List.all_eq_true] at hr
 obtain ⟨hi0, hm⟩ := hr
 have hset : ∀ k : Int, 0 ≤ k → k < C.ops.length → gI (to.set i.toNat ((F ++ E).length : Int)) k = if k = i then ((F ++ E).length : Int) else gI to k := fun k hk0 hk1 => gI_set h0 (by omega) hk0 (by omega)
 have hkeep : ∀ k : Int, 0 ≤ k → k < C.ops.length → 0 ≤ gI to k → gI (to.set i.toNat ((F ++ E).length : Int)) k = gI to k := fun k hk0 hk1 hk => by
  rw [hset k hk0 hk1, if_neg (fun e => by rw [e] at hk; omega)]
 have hops : ∀ k : Int, 0 ≤ k → k < C.ops.length → (∀ m ∈ opsOf (getO C.ops k), 0 ≤ gI to m) → at0 (gI (to.set i.toNat ((F ++ E).length : Int))) (getO C.ops k) = at0 (gI to) (getO C.ops k) := fun k hk0 hk1 hkm => at0_congr fun n hn => by
  have hb := opsOf_bd hck hk0 hk1 n hn;exact hkeep n hb.1 (by omega) (hkm n hn)
 have hlF : (F ++ E).length = F.length + E.length := List.length_append;refine ⟨by rw [List.length_set]; exact hlen, ?_, fun k hk0 hk1 => ?_, fun j k hj0 hj1 hk0 hk1 hj e => ?_, ?_, ?_⟩
 ·have := ncnt_set (to := to) (i := i.toNat) (v := ((F ++ E).length : Int)) ⟨_, gI_some h0 (by omega), hi0⟩ (by omega)
  rw [h.cn] at this; omega
 ·by_cases e : k = i
  ·subst e
   right
   rw [hset k hk0 hk1, if_pos rfl];refine ⟨by simp only [List.length_append, List.length_singleton]; omega, ?_, fun m hm' => ?_⟩
   ·rw [hops k hk0 hk1 hm]
    exact getO_of (by rw [Int.toNat_natCast]; simp)
   ·have hb := opsOf_bd hck hk0 hk1 m hm'
    rw [hkeep m hb.1 (by omega) (hm m hm')]; exact hm m hm'
  ·rcases h.at_ k hk0 hk1 with hk | ⟨⟨g0, g1⟩, g2, g3⟩
   ·left; rw [hset k hk0 hk1, if_neg e]; exact hk
   ·right
    rw [hkeep k hk0 hk1 g0, hops k hk0 hk1 g3];refine ⟨by simp only [List.length_append, List.length_singleton]; omega, ?_, fun m hm' => ?_⟩
    ·rw [← g2]
     refine getO_of ?_;rw [List.append_assoc, List.getElem?_append_left (by omega)];exact getO_some g0 g1
    ·have hb := opsOf_bd hck hk0 hk1 m hm'
     rw [hkeep m hb.1 (by omega) (g3 m hm')]; exact g3 m hm'
 ·rw [hset j hj0 hj1] at hj e
  rw [hset k hk0 hk1] at e
  have hlt : ∀ q : Int, 0 ≤ q → q < C.ops.length → 0 ≤ gI to q → gI to q < F.length := fun q hq0 hq1 hq => by
   rcases h.at_ q hq0 hq1 with g | ⟨g, _⟩
   ·omega
   ·exact g.2
  by_cases ej : j = i
  ·by_cases ek : k = i
   ·omega
   ·rw [if_pos ej, if_neg ek] at e
    have := hlt k hk0 hk1 (by omega); omega
  ·by_cases ek : k = i
   ·rw [if_neg ej, if_pos ek] at e
    rw [if_neg ej] at hj;have := hlt j hj0 hj1 hj; omega
   ·rw [if_neg ej, if_neg ek] at e
    rw [if_neg ej] at hj;exact h.inj j k hj0 hj1 hk0 hk1 hj e
 ·refine gOps_snoc hE ?_
  have hop := ops_at hck h0 h1;rw [hch] at hop;refine ⟨isOpB_at0 hop fun n hn => ?_, ?_⟩
  ·have hb := opsOf_bd hck h0 h1 n hn
   have hp := hm n hn
   rcases h.at_ n hb.1 (by omega) with g | ⟨g, _⟩
   ·omega
   ·exact ⟨hp, by omega⟩
  ·have := (hg.ops _ _ (getO_some h0 h1)).2; exact this
 ·have := h.few
  simp only [List.length_append, List.length_singleton]; omega
/-- all placed: it is the same core, in another order -/
theorem OI.iso {C : Co} (hg : GoodC C) {to : List Int} {F : List Ot} (h : OI C to F 0) : checkR ⟨C.ch, F, C.roots.map (gI to)⟩ = 0 ∧ Iso C ⟨C.ch, F, C.roots.map (gI to)⟩ (gI to) := by
 have hck := hg.check
 have hall : ∀ k : Int, 0 ≤ k → k < C.ops.length → 0 ≤ gI to k := fun k h0 h1 => ncnt_zero h.cn _ (List.mem_of_getElem? (gI_some h0 (by rw [h.len]; exact h1)))
 have hat := fun (k : Int) (h0 : 0 ≤ k) (h1 : k < C.ops.length) => (h.at_ k h0 h1).resolve_left (by have := hall k h0 h1; omega)
 have hl := hg.len; have hf := h.few; have hr := hg.roots;refine ⟨check_mk ⟨by show C.ch.length ≤ 6; rw [hg.ch]; decide, by show F.length ≤ 3000; omega, by show (C.roots.map _).length ≤ 3000; rw [List.length_map]; omega⟩ (show C.ch.any noCh = false from check_parts hck) ?_ ?_, rfl, rfl, fun k h0 h1 => ⟨(hat k h0 h1).1, (hat k h0 h1).2.1⟩, fun j k hj0 hj1 hk0 hk1 e => h.inj j k hj0 hj1 hk0 hk1 (hall j hj0 hj1) e⟩
 ·intro n hn
  obtain ⟨m, hm, rfl⟩ := List.mem_map.1 (show n ∈ C.roots.map (gI to) from hn);exact (hat m (hg.rt m hm).1 (hg.rt m hm).2).1
 ·intro j x hj
  show isOpB C.ch.length j x = true
  rw [hg.ch]; exact (h.ops j x hj).1
theorem OsR.stab {α : Type} {B E k : Nat} {enc : α → List Value} {xs : List α} {ds : List Nat} : (frs ds (OsR B E k enc xs)).stab := fun _ _ _ _ _ hb _ ⟨h1, h2⟩ => ⟨h1.below hb, h2⟩
def neg (n x : Nat) : List Int := List.replicate x (-1) ++ List.replicate (n - x) 0
theorem neg_zero (n : Nat) : neg n 0 = List.replicate n 0 := by simp [neg]
theorem neg_end {n x : Nat} (h : n ≤ x) (h' : x ≤ n) : neg n x = List.replicate n (-1) := by
 have : x = n := by omega
 subst this; simp [neg]
theorem neg_len {n x : Nat} (h : x ≤ n) : (neg n x).length = n := by simp [neg]; omega
theorem neg_set {n x : Nat} (h : x < n) : (neg n x).set ((x : Int)).toNat (-1) = neg n (x + 1) := by
 rw [Int.toNat_natCast]
 unfold neg
 apply List.ext_getElem?; intro j
 rw [List.getElem?_set]
 by_cases e : x = j
 ·subst e
  rw [if_pos rfl, if_pos (by simp; omega), List.getElem?_append_left (by simp), List.getElem?_replicate, if_pos (by omega)]
 ·rw [if_neg e]
  by_cases hj : j < x
  ·rw [List.getElem?_append_left (by simp; exact hj), List.getElem?_append_left (by simp; omega), List.getElem?_replicate, List.getElem?_replicate, if_pos hj, if_pos (by omega)]
  ·rw [List.getElem?_append_right (by simp; omega), List.getElem?_append_right (by simp; omega)]
   simp only [List.length_replicate, List.getElem?_replicate]
   by_cases hjn : j < n
   ·rw [if_pos (by omega), if_pos (by omega)]
   ·rw [if_neg (by omega), if_neg (by omega)]
theorem at0_0 {t : Int → Int} {y : Ot} (h : y.code < 5) : at0 t y = y := by
 have ha : arN y.code = 0 := by unfold arN; rw [if_pos (by omega)]
 cases y; simp [at0] at *; simp [ha]
theorem at0_1 {t : Int → Int} {y : Ot} (h : 5 ≤ y.code) (h' : y.code < 7) : at0 t y = ⟨y.code, t y.a, y.b, y.c, y.n⟩ := by
 have ha : arN y.code = 1 := by unfold arN; rw [if_neg (by omega), if_pos (by omega)]
 cases y; simp [at0] at *; simp [ha]
theorem at0_2 {t : Int → Int} {y : Ot} (h : 7 ≤ y.code) (h' : y.code ≤ 16) : at0 t y = ⟨y.code, t y.a, t y.b, y.c, y.n⟩ := by
 have ha : arN y.code = 2 := by unfold arN; rw [if_neg (by omega), if_neg (by omega), if_pos (by omega)]
 cases y; simp [at0] at *; simp [ha]
theorem at0_3 {t : Int → Int} {y : Ot} (h : y.code = 17) : at0 t y = ⟨y.code, t y.a, t y.b, t y.c, y.n⟩ := by
 have ha : arN y.code = 3 := by rw [h]; rfl
 cases y; simp [at0] at *; simp [ha]
section
variable {X : Cx} {Q : Exit → Act → World → Prop} {l : Frm} {w : World} {x y : Code} {c : Operand} {b : Bool}
/-- both arms leave a number in slot d, and go on alike -/
theorem W_joinI (d : Nat) (J : Int → Prop) (hc : ev l c = some (.bool b)) (ht : b = true → (∀ n, J n → ∀ l', Sub l' ((d, .int .i64 n) :: l) → D X Q .normal l' w) → W X x Q l w)
  (hf : b = false → (∀ n, J n → ∀ l', Sub l' ((d, .int .i64 n) :: l) → D X Q .normal l' w) → W X y Q l w) (k : ∀ n, J n → D X Q .normal ((d, .int .i64 n) :: l) w) : W X (.cond c x y) Q l w :=
 W_cond hc (fun e => ht e fun n hn _ hs => D_sub hs (k n hn)) fun e => hf e fun n hn _ hs => D_sub hs (k n hn)
/-- both arms leave a world of J, and go on alike -/
theorem W_joinW (J : World → Prop) (hc : ev l c = some (.bool b)) (ht : b = true → (∀ w', J w' → ∀ l', Sub l' l → D X Q .normal l' w') → W X x Q l w)
  (hf : b = false → (∀ w', J w' → ∀ l', Sub l' l → D X Q .normal l' w') → W X y Q l w) (k : ∀ w', J w' → D X Q .normal l w') : W X (.cond c x y) Q l w :=
 W_cond hc (fun e => ht e fun w' hw _ hs => D_sub hs (k w' hw)) fun e => hf e fun w' hw _ hs => D_sub hs (k w' hw)
end
theorem at0_ifs {t : Int → Int} {y : Ot} (h : 1 ≤ y.code) (h' : y.code ≤ 17) : at0 t y = ⟨y.code, if 5 ≤ y.code then t y.a else y.a, if 7 ≤ y.code then t y.b else y.b, if y.code = 17 then t y.c else y.c, y.n⟩ := by
 unfold at0
 rcases arN_case h h' with ⟨g, ha⟩ | ⟨g, ha⟩ | ⟨g, g', ha⟩ | ⟨g, ha⟩ <;> rw [ha]
 ·rw [if_neg (by omega), if_neg (by omega), if_neg (by omega), if_neg (by omega), if_neg (by omega), if_neg (by omega)]
 ·rw [if_pos (by omega), if_neg (by omega), if_neg (by omega), if_pos (by omega), if_neg (by omega), if_neg (by omega)]
 ·rw [if_pos (by omega), if_pos (by omega), if_neg (by omega), if_pos (by omega), if_pos (by omega), if_neg (by omega)]
 ·rw [if_pos (by omega), if_pos (by omega), if_pos (by omega), if_pos (by omega), if_pos (by omega), if_pos (by omega)]
structure Oy where
 n : Nat
 to : List Int
 F : List Ot
 lf : Int
 vF : Value
/-- operands lie among the operations -/
theorem opnd_in {C : Co} (hck : checkR C = 0) {k : Nat} {y : Ot} (hy : C.ops[k]? = some y) : (0 ≤ y.a ∧ y.a < C.ops.length) ∧ (0 ≤ y.b ∧ y.b < C.ops.length) ∧ 0 ≤ y.c ∧ y.c < C.ops.length := by
 have hk := (List.getElem?_eq_some_iff.1 hy).1;obtain ⟨_, ya, yb, yc, za, zb, zc⟩ := opnd_iff.1 ((check_ok hck).2.2 k y hy);refine ⟨?_, ?_, ?_⟩
 ·by_cases q : 1 ≤ arN y.code
  ·have := ya q; omega
  ·have := za (by omega); omega
 ·by_cases q : 2 ≤ arN y.code
  ·have := yb q; omega
  ·have := zb (by omega); omega
 ·by_cases q : 3 ≤ arN y.code
  ·have := yc q; omega
  ·have := zc (by omega); omega
end Go.Mi
