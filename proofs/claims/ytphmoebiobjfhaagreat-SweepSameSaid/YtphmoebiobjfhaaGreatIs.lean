/- Cores that are alike but for the order of their operations: what is found in them, tidied cores, the rules that apply. No program's text. -/
import Derived.Test.YtphmoebiobjfhaaGreatTd
set_option linter.all false
namespace Go.Mi
open Go Go.RowKit
theorem opsOf_at0 (t : Int → Int) (x : Ot) : opsOf (at0 t x) = (opsOf x).map t := by
 have h3 := arN_le x.code
 obtain ⟨m, hm⟩ : ∃ m, arN x.code = m := ⟨_, rfl⟩
 have hc : (at0 t x).code = x.code := rfl
 unfold opsOf
 rw [hc, hm]
 unfold opndR at0
 rw [hm];rw [hm] at h3
 match m, h3 with
 | 0, _ => rfl
 | 1, _ => rfl
 | 2, _ => rfl
 | 3, _ => rfl
theorem mem_a {x : Ot} (h : 1 ≤ arN x.code) : x.a ∈ opsOf x := List.mem_of_getElem? (opsOf_get (x := x) (j := 0) (by omega))
theorem mem_b {x : Ot} (h : 2 ≤ arN x.code) : x.b ∈ opsOf x := List.mem_of_getElem? (opsOf_get (x := x) (j := 1) (by omega))
theorem mem_c {x : Ot} (h : 3 ≤ arN x.code) : x.c ∈ opsOf x := List.mem_of_getElem? (opsOf_get (x := x) (j := 2) (by omega))
theorem at0_congr {t t' : Int → Int} {x : Ot} (h : ∀ n ∈ opsOf x, t n = t' n) : at0 t x = at0 t' x := by
 unfold at0
 congr 1
 ·by_cases q : 1 ≤ arN x.code
  ·rw [if_pos q, if_pos q, h _ (mem_a q)]
  ·rw [if_neg q, if_neg q]
 ·by_cases q : 2 ≤ arN x.code
  ·rw [if_pos q, if_pos q, h _ (mem_b q)]
  ·rw [if_neg q, if_neg q]
 ·by_cases q : 3 ≤ arN x.code
  ·rw [if_pos q, if_pos q, h _ (mem_c q)]
  ·rw [if_neg q, if_neg q]
theorem at0_at0 (t g : Int → Int) (x : Ot) : at0 t (at0 g x) = at0 (fun n => t (g n)) x := by
 have hc : (at0 g x).code = x.code := rfl
 unfold at0
 dsimp only
 congr 1 <;> (split <;> rfl)
theorem at0_id (x : Ot) : at0 (fun n => n) x = x := by
 cases x; unfold at0; dsimp only; congr 1 <;> (split <;> rfl)
theorem findIdx_map' {g : Int → Int} {n : Int} : ∀ (l : List Int), (∀ m ∈ l, g m = g n → m = n) → (l.map g).findIdx (fun m => decide (g n = m)) = l.findIdx (fun m => decide (n = m))
 | [], _ => rfl
 | a :: l, h => by
  rw [List.map_cons, List.findIdx_cons, List.findIdx_cons, findIdx_map' l fun m hm => h m (by simp [hm])]
  have : decide (g n = g a) = decide (n = a) := by
   rw [Bool.eq_iff_iff, decide_eq_true_iff, decide_eq_true_iff];exact ⟨fun e => (h a (by simp) e.symm).symm, fun e => by rw [e]⟩
  rw [this]
theorem toR_map {g : Int → Int} {n : Int} {l : List Int} (h : ∀ m ∈ l, g m = g n → m = n) : toR (l.map g) (g n) = toR l n := by
 unfold toR
 rw [findIdx_map' l h]
 by_cases hn : n ∈ l
 ·rw [if_pos hn, if_pos (List.mem_map.2 ⟨n, hn, rfl⟩)]
 ·rw [if_neg hn, if_neg]
  rintro hm;obtain ⟨m, hm, e⟩ := List.mem_map.1 hm;exact hn (h m hm e ▸ hm)
/-- D's operations are some of E's, by other numbers -/
structure Iso (D E : Co) (g : Int → Int) : Prop where
 ch : D.ch = E.ch
 roots : D.roots.map g = E.roots
 ops : ∀ k : Int, 0 ≤ k → k < D.ops.length → (0 ≤ g k ∧ g k < E.ops.length) ∧ getO E.ops (g k) = at0 g (getO D.ops k)
 inj : ∀ j k : Int, 0 ≤ j → j < D.ops.length → 0 ≤ k → k < D.ops.length → g j = g k → j = k
theorem visit_iso {D E : Co} {g : Int → Int} (hD : checkR D = 0) (hE : checkR E = 0) (h : Iso D E g) : ∀ (f f' : Nat) (found : List Int) (i : Int), 0 ≤ i → i < D.ops.length → i < f → g i < f' → (∀ x ∈ found, 0 ≤ x ∧ x < D.ops.length) →
  visitF E.ops f' (found.map g) (g i) = (visitF D.ops f found i).map g ∧ ∀ x ∈ visitF D.ops f found i, 0 ≤ x ∧ x < D.ops.length
 | 0, f', found, i, h0, _, h1, _, _ => by omega
 | f + 1, 0, found, i, h0, hl, _, h2, _ => by have := (h.ops i h0 hl).1; omega
 | f + 1, f' + 1, found, i, h0, hl, h1, h2, hf => by
  obtain ⟨⟨g0, g1⟩, hop⟩ := h.ops i h0 hl
  by_cases hi : i ∈ found
  ·rw [visitF_old hi, visitF_old (List.mem_map.2 ⟨i, hi, rfl⟩)]; exact ⟨rfl, hf⟩
  ·have hni : ¬ g i ∈ found.map g := fun hm => by
    obtain ⟨m, hm, e⟩ := List.mem_map.1 hm;exact hi (h.inj m i (hf m hm).1 (hf m hm).2 h0 hl e ▸ hm)
   rw [visitF_new hi, visitF_new hni, hop, opsOf_at0];have hbd := opsOf_bd hD h0 hl;have hbe := opsOf_bd hE g0 g1;rw [hop, opsOf_at0] at hbe;have hfold : ∀ (l : List Int) (fd : List Int), (∀ n ∈ l, (0 ≤ n ∧ n < i) ∧ g n < g i) → (∀ x ∈ fd, 0 ≤ x ∧ x < D.ops.length) →
     (l.map g).foldl (visitF E.ops f') (fd.map g) = (l.foldl (visitF D.ops f) fd).map g ∧ ∀ x ∈ l.foldl (visitF D.ops f) fd, 0 ≤ x ∧ x < D.ops.length := fun l => by
    induction l with
    | nil => intro fd _ hd; exact ⟨rfl, hd⟩
    | cons n l ih =>
     intro fd hl' hd;have hn := hl' n (by simp);have h9 := visit_iso hD hE h f f' fd n hn.1.1 (by omega) (by omega) (by omega) hd;rw [List.map_cons, List.foldl_cons, List.foldl_cons, h9.1];exact ih _ (fun m hm => hl' m (by simp [hm])) h9.2
   have h9 := hfold (opsOf (getO D.ops i)) found (fun n hn => ⟨hbd n hn, (hbe (g n) (List.mem_map.2 ⟨n, hn, rfl⟩)).2⟩) hf;refine ⟨by rw [h9.1, List.map_append]; rfl, fun x hx => ?_⟩
   rcases List.mem_append.1 hx with hx | hx
   ·exact h9.2 x hx
   ·simp at hx; omega
theorem found_iso {D E : Co} {g : Int → Int} (hD : checkR D = 0) (hE : checkR E = 0) (h : Iso D E g) : foundR E = (foundR D).map g := by
 have hr := (check_ok hD).2.1
 have hfold : ∀ (l : List Int) (fd : List Int), (∀ n ∈ l, 0 ≤ n ∧ n < D.ops.length) → (∀ x ∈ fd, 0 ≤ x ∧ x < D.ops.length) → (l.map g).foldl (visitF E.ops E.ops.length) (fd.map g) = (l.foldl (visitF D.ops D.ops.length) fd).map g := fun l => by
  induction l with
  | nil => intro fd _ _; rfl
  | cons n l ih =>
   intro fd hl hd;have hn := hl n (by simp);have h9 := visit_iso hD hE h D.ops.length E.ops.length fd n hn.1 hn.2 hn.2 (h.ops n hn.1 hn.2).1.2 hd;rw [List.map_cons, List.foldl_cons, List.foldl_cons, h9.1];exact ih _ (fun m hm => hl m (by simp [hm])) h9.2
 unfold foundR
 rw [← h.roots];exact hfold D.roots [] hr (by simp)
/-! the order of what is found -/
def Clo (ops : List Ot) (l : List Int) : Prop := ∀ (k : Nat) (x : Int), l[k]? = some x → ∀ n ∈ opsOf (getO ops x), n ∈ l.take k
theorem Clo.snoc {ops : List Ot} {l : List Int} {i : Int} (h : Clo ops l) (hi : ∀ n ∈ opsOf (getO ops i), n ∈ l) : Clo ops (l ++ [i]) := fun k x hk n hn => by
 have hlt := (List.getElem?_eq_some_iff.1 hk).1
 simp only [List.length_append, List.length_cons, List.length_nil] at hlt
 by_cases hl : k < l.length
 ·rw [List.getElem?_append_left hl] at hk
  rw [List.take_append_of_le_length (by omega)]; exact h k x hk n hn
 ·have : k = l.length := by omega
  subst this;rw [List.getElem?_append_right (Nat.le_refl _)] at hk
  simp at hk; subst hk
  rw [List.take_append_of_le_length (Nat.le_refl _), List.take_length]; exact hi n hn
theorem visit_clo {C : Co} (hck : checkR C = 0) : ∀ (f : Nat) (found : List Int) (i : Int), 0 ≤ i → i < C.ops.length → i < f → Clo C.ops found → Clo C.ops (visitF C.ops f found i) ∧ i ∈ visitF C.ops f found i ∧
  ∀ x ∈ visitF C.ops f found i, x ∈ found ∨ x = i ∨ ∃ y ∈ visitF C.ops f found i, x ∈ opsOf (getO C.ops y)
 | 0, found, i, h0, _, h1, _ => by omega
 | f + 1, found, i, h0, hl, h1, hc => by
  by_cases hi : i ∈ found
  ·rw [visitF_old hi]; exact ⟨hc, hi, fun x hx => .inl hx⟩
  ·rw [visitF_new hi]
   have hbd := opsOf_bd hck h0 hl;have hfold : ∀ (l : List Int) (fd : List Int), (∀ n ∈ l, 0 ≤ n ∧ n < i) → Clo C.ops fd → Clo C.ops (l.foldl (visitF C.ops f) fd) ∧ (∀ n ∈ l, n ∈ l.foldl (visitF C.ops f) fd) ∧
     (∀ x ∈ l.foldl (visitF C.ops f) fd, x ∈ fd ∨ x ∈ l ∨ ∃ y ∈ l.foldl (visitF C.ops f) fd, x ∈ opsOf (getO C.ops y)) := fun l => by
    induction l with
    | nil => intro fd _ hd; exact ⟨hd, by simp, fun x hx => .inl hx⟩
    | cons n l ih =>
     intro fd hl' hd;have hn := hl' n (by simp);have h9 := visit_clo hck f fd n hn.1 (by omega) (by omega) hd;have h8 := ih (visitF C.ops f fd n) (fun m hm => hl' m (by simp [hm])) h9.1;have hpre : visitF C.ops f fd n <+: l.foldl (visitF C.ops f) (visitF C.ops f fd n) := foldl_pre (visitF_pre C.ops f) _ _;rw [List.foldl_cons];refine ⟨h8.1, fun m hm => ?_, fun x hx => ?_⟩
     ·rcases List.mem_cons.1 hm with rfl | hm
      ·exact hpre.subset h9.2.1
      ·exact h8.2.1 m hm
     ·rcases h8.2.2 x hx with hx | hx | hx
      ·rcases h9.2.2 x hx with hx | hx | ⟨y, hy, hx⟩
       ·exact .inl hx
       ·exact .inr (.inl (by simp [hx]))
       ·exact .inr (.inr ⟨y, hpre.subset hy, hx⟩)
      ·exact .inr (.inl (by simp [hx]))
      ·exact .inr (.inr hx)
   have h9 := hfold (opsOf (getO C.ops i)) found hbd hc;refine ⟨h9.1.snoc h9.2.1, by simp, fun x hx => ?_⟩
   rcases List.mem_append.1 hx with hx | hx
   ·rcases h9.2.2 x hx with hx | hx | ⟨y, hy, hx⟩
    ·exact .inl hx
    ·exact .inr (.inr ⟨i, by simp, hx⟩)
    ·exact .inr (.inr ⟨y, by simp [hy], hx⟩)
   ·simp at hx; exact .inr (.inl hx)
theorem found_clo {C : Co} (hck : checkR C = 0) : Clo C.ops (foundR C) ∧ (∀ n ∈ C.roots, n ∈ foundR C) ∧ ∀ x ∈ foundR C, x ∈ C.roots ∨ ∃ y ∈ foundR C, x ∈ opsOf (getO C.ops y) := by
 have hr := (check_ok hck).2.1;have hfold : ∀ (l : List Int) (fd : List Int), (∀ n ∈ l, 0 ≤ n ∧ n < C.ops.length) → Clo C.ops fd → Clo C.ops (l.foldl (visitF C.ops C.ops.length) fd) ∧ (∀ n ∈ l, n ∈ l.foldl (visitF C.ops C.ops.length) fd) ∧
   (∀ x ∈ l.foldl (visitF C.ops C.ops.length) fd, x ∈ fd ∨ x ∈ l ∨ ∃ y ∈ l.foldl (visitF C.ops C.ops.length) fd, x ∈ opsOf (getO C.ops y)) := fun l => by
  induction l with
  | nil => intro fd _ hd; exact ⟨hd, by simp, fun x hx => .inl hx⟩
  | cons n l ih =>
   intro fd hl' hd;have hn := hl' n (by simp);have h9 := visit_clo hck C.ops.length fd n hn.1 hn.2 hn.2 hd;have h8 := ih (visitF C.ops C.ops.length fd n) (fun m hm => hl' m (by simp [hm])) h9.1;have hpre : visitF C.ops C.ops.length fd n <+: l.foldl (visitF C.ops C.ops.length) (visitF C.ops C.ops.length fd n) := foldl_pre (visitF_pre C.ops C.ops.length) _ _;rw [List.foldl_cons];refine ⟨h8.1, fun m hm => ?_, fun x hx => ?_⟩
   ·rcases List.mem_cons.1 hm with rfl | hm
    ·exact hpre.subset h9.2.1
    ·exact h8.2.1 m hm
   ·rcases h8.2.2 x hx with hx | hx | hx
    ·rcases h9.2.2 x hx with hx | hx | ⟨y, hy, hx⟩
     ·exact .inl hx
     ·exact .inr (.inl (by simp [hx]))
     ·exact .inr (.inr ⟨y, hpre.subset hy, hx⟩)
    ·exact .inr (.inl (by simp [hx]))
    ·exact .inr (.inr hx)
 have h9 := hfold C.roots [] hr (fun k x hk => by simp at hk);refine ⟨h9.1, h9.2.1, fun x hx => ?_⟩
 rcases h9.2.2 x hx with h | h | h
 ·cases h
 ·exact .inl h
 ·exact .inr h
/-! tidied cores -/
theorem tidyO_get (ops : List Ot) (l : List Int) : ∀ (k : Nat) (x : Int), l[k]? = some x → (tidyO ops l)[k]? = some (at0 (toR (l.take k)) (getO ops x)) := by
 refine snoc_ind (p := fun l => ∀ (k : Nat) (x : Int), l[k]? = some x → (tidyO ops l)[k]? = some (at0 (toR (l.take k)) (getO ops x))) (fun k x h => by simp at h) (fun l i ih k x h => ?_) l;have hlt := (List.getElem?_eq_some_iff.1 h).1
 simp only [List.length_append, List.length_cons, List.length_nil] at hlt
 rw [tidyO_snoc]
 by_cases hl : k < l.length
 ·rw [List.getElem?_append_left hl] at h
  rw [List.getElem?_append_left (by rw [tidyO_len]; exact hl), ih k x h, List.take_append_of_le_length (by omega)]
 ·have : k = l.length := by omega
  subst this;rw [List.getElem?_append_right (Nat.le_refl _)] at h
  simp at h; subst h
  rw [List.getElem?_append_right (by rw [tidyO_len]; exact Nat.le_refl _), List.take_append_of_le_length (Nat.le_refl _), List.take_length, tidyO_len]; simp
theorem toR_lt {l : List Int} {n : Int} (h : n ∈ l) : 0 ≤ toR l n ∧ toR l n < l.length ∧ l[(toR l n).toNat]? = some n := by
 have hlt : l.findIdx (fun m => decide (n = m)) < l.length := List.findIdx_lt_length_of_exists ⟨n, h, by simp⟩;have he := List.findIdx_getElem (w := hlt)
 simp only [decide_eq_true_eq] at he
 unfold toR; rw [if_pos h]
 refine ⟨by omega, by omega, ?_⟩;rw [Int.toNat_natCast, List.getElem?_eq_getElem hlt]; exact congrArg some he.symm
theorem toR_take {l : List Int} {k : Nat} {n : Int} (h : n ∈ l.take k) : toR (l.take k) n = toR l n := by
 unfold toR
 rw [if_pos h, if_pos (List.mem_of_mem_take h)]
 conv => rhs; rw [← List.take_append_drop k l]
 rw [List.findIdx_append, if_pos (List.findIdx_lt_length_of_exists (p := fun m => decide (n = m)) ⟨n, h, by simp⟩)]
theorem tidy_iso {D E : Co} {g : Int → Int} (hD : checkR D = 0) (hE : checkR E = 0) (h : Iso D E g) : tidyR D = tidyR E := by
 have hf := found_iso hD hE h;obtain ⟨hnd, hrng⟩ := found_nodup hD
 have hinj : ∀ (l : List Int) (n : Int), (∀ m ∈ l, 0 ≤ m ∧ m < D.ops.length) → 0 ≤ n → n < D.ops.length → ∀ m ∈ l, g m = g n → m = n := fun l n hl h0 h1 m hm e => h.inj m n (hl m hm).1 (hl m hm).2 h0 h1 e
 unfold tidyR
 rw [hf, h.ch]
 congr 1
 ·have hfold : ∀ l : List Int, (∀ m ∈ l, 0 ≤ m ∧ m < D.ops.length) → tidyO D.ops l = tidyO E.ops (l.map g) := fun l => by
   refine snoc_ind (p := fun l : List Int => (∀ m ∈ l, 0 ≤ m ∧ m < D.ops.length) → tidyO D.ops l = tidyO E.ops (l.map g)) (fun _ => rfl) (fun l i ih hl => ?_) l;have hi := hl i (by simp);rw [List.map_append, List.map_cons, List.map_nil, tidyO_snoc, tidyO_snoc, ih (fun m hm => hl m (by simp [hm])), (h.ops i hi.1 hi.2).2, at0_at0]
   congr 2
   refine at0_congr fun n hn => ?_
   have hb := opsOf_bd hD hi.1 hi.2 n hn;exact (toR_map (hinj l n (fun m hm => hl m (by simp [hm])) hb.1 (by omega))).symm
  exact hfold _ hrng
 ·rw [← h.roots, List.map_map]
  refine List.map_congr_left fun n hn => ?_
  have hb := (check_ok hD).2.1 n hn;exact (toR_map (hinj _ n hrng hb.1 hb.2)).symm
/-- the number in E of an operation of the tidied core -/
def back (l : List Int) (k : Int) : Int := l.getD k.toNat 0
theorem back_some {l : List Int} {k : Int} (h0 : 0 ≤ k) (h1 : k < l.length) : l[k.toNat]? = some (back l k) := by
 have : k.toNat < l.length := by omega
 simp [back, List.getD, List.getElem?_eq_getElem this]
theorem back_toR {l : List Int} {n : Int} (h : n ∈ l) : back l (toR l n) = n := by
 obtain ⟨h0, h1, h2⟩ := toR_lt h;exact Option.some.inj ((back_some h0 h1).symm.trans h2)
theorem tidyR_at {E : Co} (hE : checkR E = 0) {k : Int} (h0 : 0 ≤ k) (h1 : k < (tidyR E).ops.length) :
  getO (tidyR E).ops k = at0 (toR (foundR E)) (getO E.ops (back (foundR E) k)) ∧ (0 ≤ back (foundR E) k ∧ back (foundR E) k < E.ops.length) ∧ ∀ n ∈ opsOf (getO E.ops (back (foundR E) k)), n ∈ (foundR E).take k.toNat := by
 have hl : k < (foundR E).length := by rw [show (tidyR E).ops = tidyO E.ops (foundR E) from rfl, tidyO_len] at h1; exact h1
 have hb := back_some h0 hl;have hg := tidyO_get E.ops _ _ _ hb;have hc := (found_clo hE).1 _ _ hb;refine ⟨?_, (found_nodup hE).2 _ (List.mem_of_getElem? hb), hc⟩;rw [show (tidyR E).ops = tidyO E.ops (foundR E) from rfl, getO_of hg]
 exact at0_congr fun n hn => toR_take (hc n hn)
theorem tidyR_iso {E : Co} (hE : checkR E = 0) : Iso (tidyR E) E (back (foundR E)) where
 ch := rfl
 roots := by
  show (E.roots.map (toR (foundR E))).map _ = _
  rw [List.map_map]
  conv => rhs; rw [← List.map_id E.roots]
  exact List.map_congr_left fun n hn => back_toR ((found_clo hE).2.1 n hn)
 ops k h0 h1 := by
  obtain ⟨e, hb, hc⟩ := tidyR_at hE h0 h1;refine ⟨hb, ?_⟩;rw [e, at0_at0];exact (at0_id _).symm.trans (at0_congr fun n hn => (back_toR (List.mem_of_mem_take (hc n hn))).symm)
 inj j k hj0 hj1 hk0 hk1 e := by
  have hl : (tidyR E).ops.length = (foundR E).length := tidyO_len _ _;have h1 := back_some (l := foundR E) hj0 (by omega);have h2 := back_some (l := foundR E) hk0 (by omega);rw [← e] at h2;have hnd := (found_nodup hE).1
  have hjl : j.toNat < (foundR E).length := by omega
  have := (List.getElem?_inj (i := j.toNat) (j := k.toNat) hjl hnd).1 (h1.trans h2.symm)
  omega
theorem tidyR_len {E : Co} (hE : checkR E = 0) : (tidyR E).ops.length ≤ E.ops.length := by
 rw [show (tidyR E).ops = tidyO E.ops (foundR E) from rfl, tidyO_len];exact nodup_le (found_nodup hE).1 (found_nodup hE).2
theorem isOpB_at0 {nch i j : Nat} {x : Ot} {t : Int → Int} (h : isOpB nch i x = true) (ht : ∀ n ∈ opsOf x, 0 ≤ t n ∧ t n < (j : Int)) : isOpB nch j (at0 t x) = true := by
 rw [opnd_iff] at h ⊢;obtain ⟨h1, h2, h3, h4, h5, h6, h7⟩ := h;refine ⟨h1, fun q => ?_, fun q => ?_, fun q => ?_, fun q => ?_, fun q => ?_, fun q => ?_⟩
 ·have q' : 1 ≤ arN x.code := q
  simp only [at0, if_pos q']; exact ht _ (mem_a q')
 ·have q' : 2 ≤ arN x.code := q
  simp only [at0, if_pos q']; exact ht _ (mem_b q')
 ·have q' : 3 ≤ arN x.code := q
  simp only [at0, if_pos q']; exact ht _ (mem_c q')
 ·have q' : ¬ 1 ≤ arN x.code := by have : arN x.code < 1 := q; omega
  simp only [at0, if_neg q']; exact h5 q
 ·have q' : ¬ 2 ≤ arN x.code := by have : arN x.code < 2 := q; omega
  simp only [at0, if_neg q']; exact h6 q
 ·have q' : ¬ 3 ≤ arN x.code := by have : arN x.code < 3 := q; omega
  simp only [at0, if_neg q']; exact h7 q
theorem tidyR_check {E : Co} (hE : checkR E = 0) : checkR (tidyR E) = 0 := by
 have hlen := (check_ok hE).1;have hl := tidyR_len hE;refine check_mk ⟨hlen.1, by omega, by show (E.roots.map _).length ≤ _; rw [List.length_map]; exact hlen.2.2⟩ (show E.ch.any noCh = false from check_parts hE) ?_ ?_
 ·intro n hn
  obtain ⟨m, hm, rfl⟩ := List.mem_map.1 (show n ∈ E.roots.map (toR (foundR E)) from hn);have := toR_lt ((found_clo hE).2.1 m hm);rw [show (tidyR E).ops = tidyO E.ops (foundR E) from rfl, tidyO_len]; omega
 ·intro j x hj
  have hlt := (List.getElem?_eq_some_iff.1 hj).1;obtain ⟨e, hb, hc⟩ := tidyR_at hE (k := (j : Int)) (by omega) (by omega);rw [getO_of (by simpa using hj)] at e;rw [e]
  refine isOpB_at0 (ops_at hE hb.1 hb.2) fun n hn => ?_
  have hm := hc n hn;have h9 := toR_lt hm;rw [toR_take hm] at h9;rw [List.length_take] at h9
  simp only [Int.toNat_natCast] at h9
  exact ⟨h9.1, by omega⟩
theorem tidyR_tidy {E : Co} (hE : checkR E = 0) : tidyR (tidyR E) = tidyR E := tidy_iso (tidyR_check hE) hE (tidyR_iso hE)
theorem found_tidy {E : Co} (hE : checkR E = 0) : (foundR (tidyR E)).length = (tidyR E).ops.length := by
 have h := congrArg List.length (found_iso (tidyR_check hE) hE (tidyR_iso hE));rw [List.length_map] at h;rw [← h, show (tidyR E).ops = tidyO E.ops (foundR E) from rfl, tidyO_len]
/-- each operation of a tidied core is a root, or an operand -/
theorem tidy_used {E : Co} (hE : checkR E = 0) {k : Int} (h0 : 0 ≤ k) (h1 : k < (tidyR E).ops.length) : k ∈ (tidyR E).roots ∨ ∃ y ∈ (tidyR E).ops, k ∈ opsOf y := by
 have hA := tidyR_check hE
 have hmem : k ∈ foundR (tidyR E) := by
  obtain ⟨hnd, hrng⟩ := found_nodup hA
  refine Classical.byContradiction fun hn => ?_
  have := nodup_le (n := (tidyR E).ops.length) (l := k :: foundR (tidyR E)) (List.nodup_cons.2 ⟨hn, hnd⟩) (fun x hx => by rcases List.mem_cons.1 hx with rfl | hx; exact ⟨h0, h1⟩; exact hrng x hx);rw [List.length_cons, found_tidy hE] at this; omega
 rcases (found_clo hA).2.2 k hmem with h | ⟨y, hy, hk⟩
 ·exact .inl h
 ·have := (found_nodup hA).2 y hy
  exact .inr ⟨_, List.mem_of_getElem? (getO_some this.1 this.2), hk⟩
end Go.Mi
