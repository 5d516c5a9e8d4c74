/- An append within a region of any order. Any program. -/
import Derived.Test.YtphmoebiobjfhaaGreatRh
set_option linter.all false
namespace Go.Mi
open Go Go.RowKit
def gap (kind : Nat) (deps : List Nat) (R : List Value → Value → World → Nat → Nat → Prop) : GOp := ⟨kind + 1, true, deps, R, noE, true⟩
/-- the slice v, whose own block is written into, still is one -/
def OwE {α : Type} (v : Value) (E k B : Nat) (enc : α → List Value) (xs : List α) (w w' : World) : Prop := Chg (fun b => v.ownBlock = some b) w w' ∧ OS w' v E k enc xs B
def BsO {α : Type} (v : Value) (E k B : Nat) (enc : α → List Value) (xs : List α) (w0 w : World) : Prop := Chg (fun b => v.ownBlock = some b) w0 w ∧ OS w v E k enc xs B
def ApV {α : Type} (v : Value) (E k B : Nat) (enc : α → List Value) (zs : List α) (_ : List Value) (u : Value) (w : World) (lo hi : Nat) : Prop :=
 OS w u E k enc zs B ∧ (∀ b, u.ownBlock = some b → v.ownBlock = some b ∨ lo ≤ b ∧ b < hi) ∧ ∃ a n c, u = .slice a n c
section
variable {α : Type} {v : Value} {E k B : Nat} {enc : α → List Value} {xs ys zs : List α} {w w0 : World}
theorem ow_ok : EfOk [OwE v E k B enc xs] (BsO v E k B enc xs w0) := fun j w w' hb he => by
 match j, he with
 | 0, he => exact ⟨⟨hb.1.trans (Chg.of_below _ he), hb.2.below he⟩, Below.size he⟩
 | 1, he => exact ⟨⟨hb.1.trans he.1, he.2⟩, he.1.size⟩
 | j + 2, he => exact he.elim
theorem BsO.drew (h : BsO v E k B enc xs w0 w) : BsO v E k B enc xs w0 w.drew := ⟨⟨h.1.os, h.1.tape, h.1.output, h.1.size, h.1.block⟩, h.2.below (w' := w.drew) ⟨rfl, rfl, rfl, Nat.le_refl _, fun _ _ => rfl⟩⟩
theorem SlR.ow {β : Type} {Bs : World → Prop} {B' k' : Nat} {enc' : β → List Value} {us : List β} (hv : ∀ b, v.ownBlock = some b → b < B') : ∀ j u w w' (lo hi : Nat), Bs w → Eff [OwE v E k B enc xs] j w w' → hi ≤ w.heap.size → SlR B' k' enc' us u w lo hi → SlR B' k' enc' us u w' lo hi := fun j u w w' lo hi _ he _ ⟨h1, h2, h3⟩ => by
 match j, he with
 | 0, he => exact ⟨h1.below he, h2, h3⟩
 | 1, he => exact ⟨h1.chg he.1 (fun _ e => by have := hv _ e; omega), h2, h3⟩
 | j + 2, he => exact he.elim
theorem ApV.stab {Bs : World → Prop} : ∀ j vs u w w' (lo hi : Nat), (j = 0 ∨ j ≠ 0 + 1) → Bs w → Eff [OwE v E k B enc xs] j w w' → hi ≤ w.heap.size → ApV v E k B enc zs vs u w lo hi → ApV v E k B enc zs vs u w' lo hi := fun j vs u w w' lo hi hj _ he _ ⟨h1, h2, h3⟩ => by
 match j, hj, he with
 | 0, _, he => exact ⟨h1.below he, h2, h3⟩
 | 1, hj, _ => omega
 | j + 2, _, he => exact he.elim
theorem AllSt_gap {Ef : List (World → World → Prop)} {Bs : World → Prop} {j : Nat} {ds : List Nat} {R : List Value → Value → World → Nat → Nat → Prop} {hs : List GOp} (hR : ∀ i vs u w w' (lo hi : Nat), (i = 0 ∨ i ≠ j + 1) → Bs w → Eff Ef i w w' → hi ≤ w.heap.size → R vs u w lo hi → R vs u w' lo hi) (h : AllSt Ef Bs hs) : AllSt Ef Bs (gap j ds R :: hs) :=
 ⟨fun i hi vs u w w' lo hi' hb he hl hr => hR i vs u w w' lo hi' hi hb he hl hr, h⟩
theorem GObl_gap {Ef : List (World → World → Prop)} {os : List Oper} {hs : List GOp} {l : Frm} {P : Program} {o oe : Oper} {g : GOp} {j : Nat} {R' : List Value → Value → World → Nat → Nat → Prop} {e d : Nat} {es ds : List Nat} {acc : List Value} (hh : hs[e]? = some (gap j ds R')) (ho : os[e]? = some oe) (hd : oe.dst = some d)
  (h : ∀ vs v lo hi, hi ≤ w.heap.size → R' vs v w lo hi → GObl P Ef os hs w o g es (acc ++ [v]) ((d, v) :: l)) : GObl P Ef os hs w o g (e :: es) acc l := by
 simp only [GObl, hh, ho, hd]
 intro vs v lo hi hle he;exact h vs v lo hi hle he
theorem GFin_gap {l : Frm} {B j : Nat} {K : Frm → Prop} {o : Oper} {os : List Oper} {ds : List Nat} {R : List Value → Value → World → Nat → Nat → Prop} {hs : List GOp} {vals : List Value} {ivs : List (Nat × Nat)} {d : Nat} (hd : o.dst = some d)
  (h : ∀ v lo hi, R (ds.map (vals.getD · undef)) v w lo hi → B ≤ lo → lo ≤ hi → hi ≤ w.heap.size → (∀ iv ∈ ivs, hi ≤ iv.1 ∨ iv.2 ≤ lo) → GFin B w K os hs (vals ++ [v]) ((lo, hi) :: ivs) ((d, v) :: l)) : GFin B w K (o :: os) (gap j ds R :: hs) vals ivs l := by
 simp only [GFin, hd]
 intro v lo hi e h1 h2 h3 h4
 simpa [gap] using h v lo hi e h1 h2 h3 h4
variable {P : Program}
/-- an append keeps what the old slice reads, and its room -/
theorem run_app_keeps {t ty e size bytes : Nat} {z : Value} {u v' : Value} {w' : World} (ht : P.underlying t = some (.slice e)) (hi : (P.info? e).map (fun i => (i.zero, i.size, i.bytes)) = some (some z, size, bytes)) (hz : z.cells.size = size)
  (h : OS w v e size enc xs B) (hu : SL w u size enc ys) (hone : ∀ y ∈ ys, (enc y).all one1 = true) (hmax : xs.length + ys.length ≤ 9223372036854775807) (hb : (xs.length + ys.length) * bytes ≤ 140737488355328) (hy : 0 < ys.length)
  (hrun : (Builtin.append_ #[t, t] ty #[v, u]).run P w = .ok v' w') : OS w' v e size enc xs B := by
 obtain ⟨i, hi0, hiz, his, hib⟩ : ∃ i, P.info? e = some i ∧ i.zero = some z ∧ i.size = size ∧ i.bytes = bytes := by
  cases hx : P.info? e with
  | none => rw [hx] at hi; cases hi
  | some i => rw [hx] at hi; simp only [Option.map_some, Option.some.injEq, Prod.mk.injEq] at hi; exact ⟨i, rfl, hi.1, hi.2.1, hi.2.2⟩
 have hmx : xs.length + ys.length ≤ maxLen := by unfold maxLen; omega
 rcases hu.shape with ⟨e1, e2⟩ | ⟨e1, hcap⟩
 ·rw [e2] at hy; simp at hy
 ·have hnews : ∀ j u', (ys.flatMap enc)[j]? = some u' → w.cell? ((⟨sb u, so u, none⟩ : Addr).add j) = some u' := fun j u' hj => by
   have hjl := (List.getElem?_eq_some_iff.1 hj).1;rw [ja h.len] at hjl;have hdiv : j / size < ys.length := Nat.div_lt_of_lt_mul (by rw [Nat.mul_comm]; exact hjl);have hm : j % size < size := Nat.mod_lt _ h.pos
   have hd : j / size * size + j % size = j := by have := Nat.div_add_mod j size; rw [Nat.mul_comm]; exact this
   have hg := flat_get h.len ys (j / size) (j % size) _ (List.getElem?_eq_getElem hdiv) hm;rw [hd, hj] at hg;have hcell := hu.cells (j / size) _ (List.getElem?_eq_getElem hdiv) (j % size) (by rw [h.len]; exact hm);rw [jl, ← hd, ← Nat.add_assoc, hcell, ← hg]
  have h1 : ∀ c ∈ ys.flatMap enc, c.oneCell' = true := fun c hc => by
   obtain ⟨y, hy, hcy⟩ := List.mem_flatMap.1 hc;rw [← one1_eq];exact List.all_eq_true.1 (hone y hy) c hcy
  subst his hib;refine ⟨⟨h.own.1, ?_⟩, h.len, h.pos⟩
  rcases h.own.2 with ⟨q, hn⟩ | ⟨g, cap, cur, q, hbg, hg, hnc, hcm, hcs, htake⟩
  ·exact .inl ⟨q, hn⟩
  ·subst q
   refine .inr ?_;have hl := ja h.len ys;have hlx := ja h.len xs;rw [e1] at hrun
   by_cases hroom : xs.length + ys.length ≤ cap
   ·have hfit : xs.length * i.size + (ys.flatMap enc).length ≤ cur.size := by rw [hl, hcs, ← Nat.add_mul]; exact Nat.mul_le_mul_right _ hroom
    have hr := run_append_room (P := P) w t ty e i ht hi0 g xs.length cap cur hg ⟨sb u, so u, none⟩ ys.length (scap u) (ys.flatMap enc) hl hnews h1 hroom hfit;rw [hr] at hrun; cases hrun;refine ⟨g, cap, _, rfl, hbg, setRow_heap w g cur _ e _ hg, hnc, hcm, ?_, ?_⟩
    ·simp only [List.size_toArray, List.length_append, List.length_take, List.length_drop, Array.length_toList]
     omega
    ·rw [htake, List.append_assoc]
     rw [← hlx]; exact List.take_left
   ·have holds : ∀ j u, (xs.flatMap enc)[j]? = some u → w.cell? ((⟨g, 0, none⟩ : Addr).add j) = some u := h.own.cells (g := g) rfl
    have hr := run_append_grow (P := P) w t ty e i z ht hi0 hiz ⟨g, 0, none⟩ xs.length cap (xs.flatMap enc) hlx holds ⟨sb u, so u, none⟩ ys.length (scap u) (ys.flatMap enc) hl hnews (by omega) (by omega) (growslice_fits (by omega) hb);rw [hr] at hrun; cases hrun;have hlt : g < w.heap.size := (Array.getElem?_eq_some_iff.1 hg).1;exact ⟨g, cap, cur, rfl, hbg, (heap_alloc_old w.drew _ g hlt).trans hg, hnc, hcm, hcs, htake⟩
theorem GEx_app {l : Frm} {d : Option Nat} {s x : Operand} {t e size bytes : Nat} {z : Value} {ty : TypeId} {pos : String} {af : Array Edge} {g : Option (Nat × Bool)} {u : Value} {ds : List Nat} {acc : List Value} (ht : P.underlying t = some (.slice e)) (hi : (P.info? e).map (fun i => (i.zero, i.size, i.bytes)) = some (some z, size, bytes)) (hz : z.cells.size = size)
  (h : OS w v e size enc xs B) (hB : B ≤ w.heap.size) (hu : SL w u size enc ys) (hone : ∀ y ∈ ys, (enc y).all one1 = true) (hmax : xs.length + ys.length ≤ 9223372036854775807) (hb : (xs.length + ys.length) * bytes ≤ 140737488355328) (hy : 0 < ys.length) (hs : ev l s = some v) (hx : ev l x = some u) :
  GEx P { dst := d, op := .call { callee := .builtin .append, args := #[s, x], argTypes := #[t, t] }, type := ty, pos := pos, after := af, guard := g } l w (GEff [OwE v e size B enc xs] (gap 0 ds (ApV v e size B enc (xs ++ ys))) acc) (fun u w' => (gap 0 ds (ApV v e size B enc (xs ++ ys))).R acc u w' w.heap.size w'.heap.size) := by
 obtain ⟨v', w', hrun, ho, hc, hsn⟩ := run_app (P := P) (ty := ty) ht hi hz h hu hone hmax hb hB;have hk := run_app_keeps ht hi hz h hu hone hmax hb hy hrun;intro X a hP ha;refine .inl ⟨v', w', ?_, ⟨⟨hc, hk⟩, trivial⟩, ho, fun b e9 => (hsn b e9).imp id fun h2 => ⟨h2, (ho.lt e9).2⟩, by obtain ⟨a, c, h⟩ := ho.sl.len; exact ⟨_, _, _, h⟩⟩;subst hP;exact run_appOp ha rfl hs hx hrun
end
/-! heads of which one writes a slot that others read before it -/
def GOblsL (P : Program) (Ef : List (World → World → Prop)) (Bs : World → Prop) (os : List Oper) (hs : List GOp) (l0 : Frm) (s : Nat) (u : Value) (Ks : List Nat) (w0 : World) : Nat → List Oper → List GOp → Prop
 | i, o :: os', h :: hs' => (h.on = true → ∀ w, Bs w → w0.heap.size ≤ w.heap.size → GObl P Ef os hs w o h h.deps [] (if i ∈ Ks then (s, u) :: l0 else l0)) ∧ GOblsL P Ef Bs os hs l0 s u Ks w0 (i + 1) os' hs'
 | _, _, _ => True
theorem GOblsL.get {P : Program} {Ef : List (World → World → Prop)} {Bs : World → Prop} {os : List Oper} {hs : List GOp} {l0 : Frm} {s : Nat} {u : Value} {Ks : List Nat} {w0 : World} : ∀ {os' : List Oper} {hs' : List GOp} {b i : Nat} {o : Oper} {h : GOp}, GOblsL P Ef Bs os hs l0 s u Ks w0 b os' hs' → os'[i]? = some o → hs'[i]? = some h → h.on = true → ∀ w, Bs w → w0.heap.size ≤ w.heap.size → GObl P Ef os hs w o h h.deps [] (if b + i ∈ Ks then (s, u) :: l0 else l0)
 | [], _, _, i, o, h, _, ho, _ => by simp at ho
 | _ :: _, [], _, i, o, h, _, _, hh => by simp at hh
 | x :: os', g :: hs', b, 0, o, h, hob, ho, hh => by simp at ho hh; subst ho; subst hh; exact hob.1
 | x :: os', g :: hs', b, i + 1, o, h, hob, ho, hh => by
  have := GOblsL.get (b := b + 1) (i := i) hob.2 (by simpa using ho) (by simpa using hh);rw [show b + (i + 1) = b + 1 + i by omega]; exact this
section
variable {X : Cx} {Q : Exit → Act → World → Prop} {l : Frm} {w w' : World}
theorem head_runL {q s : Nat} {u : Value} {Ks : List Nat} {Ef : List (World → World → Prop)} {Bs : World → Prop} {os : List Oper} {hs : List GOp} {n : Nat} {l0 : Frm} {w0 : World} (hc : GChk X.N os hs n l0) (hEf : EfOk Ef Bs) (hst : GStab Ef Bs hs) (hqn : q < n) (hqs : (os[q]?).bind (·.dst) = some s) (hK : ∀ i ∈ Ks, ∀ o, os[q]? = some o → waits o i = true)
  (hob : ∀ (i : Nat) (o : Oper) (h : GOp), os[i]? = some o → hs[i]? = some h → h.on = true → ∀ w, Bs w → w0.heap.size ≤ w.heap.size → GObl X.P Ef os hs w o h h.deps [] (if i ∈ Ks then (s, u) :: l0 else l0))
  (hend : ∀ listed a w val lo hi, GSt X Bs os hs n l0 w0 listed a w val lo hi → (∀ i, i < n → listed.getD i false = true) → segL X os.toArray Q (os.drop n) a w) :
  ∀ (m : Nat) (listed : Array Bool) (a : Act) (w : World) (val : Nat → Value) (lo hi : Nat → Nat), listed.toList.count false = m + (os.length - n) → listed.size = os.length → (∀ i, n ≤ i → i < os.length → listed.getD i true = false) →
   GSt X Bs os hs n l0 w0 listed a w val lo hi → (listed.getD q false = false → a.tmps[s]? = some u) → wpAnyIn (Fw X.r) 0 X.P .any os.toArray Q (m + (os.length - n)) listed a w := by
 intro m
 induction m with
 | zero =>
  intro listed a w val lo hi hcnt hsz0 htl H HL
  -- all heads are listed
  have hall : ∀ i, i < n → listed.getD i false = true := by
   intro i hi';have hsplit : listed.toList = listed.toList.take n ++ listed.toList.drop n := (List.take_append_drop _ _).symm;rw [hsplit, List.count_append] at hcnt
   have hdrop : (listed.toList.drop n).count false = os.length - n := by
    rw [List.count_eq_length.2]
    ·simp [hsz0]
    ·intro b hb
     obtain ⟨j, hj⟩ := List.getElem?_of_mem hb;rw [List.getElem?_drop] at hj
     have hlt : n + j < os.length := by have := (List.getElem?_eq_some_iff.1 hj).1; simp [hsz0] at this; exact this
     have := j7 (htl (n + j) (by omega) hlt);rw [this] at hj; cases hj; rfl
   have htake : (listed.toList.take n).count false = 0 := by omega
   rw [List.count_eq_zero] at htake
   have hlt : i < listed.size := by have := hc.le; omega
   have hget : listed.getD i false = listed[i] := by simp [Array.getD_eq_getD_getElem?, hlt]
   rw [hget]
   cases hb : listed[i] with
   | true => rfl
   | false =>
    exfalso; apply htake
    rw [List.mem_take_iff_getElem];exact ⟨i, by simp; omega, by simpa using hb⟩
  have hs' := hend listed a w val lo hi H hall;rw [Nat.zero_add];exact tail_run hc.tail (os.length - n) n listed a w H.closed rfl (Nat.le_refl _) hc.le hsz0 hall htl hs'
 | succ m ih =>
  intro listed a w val lo hi hcnt hsz0 htl H HL;rw [show m + 1 + (os.length - n) = (m + (os.length - n)) + 1 by omega]
  -- some head is not listed
  have hex : ∃ i, i < n ∧ listed.getD i true = false := by
   refine Classical.byContradiction fun hno => ?_
   have hall : ∀ i, i < n → listed.getD i true = true := fun i hi' => by
    cases hb : listed.getD i true with
    | true => rfl
    | false => exact absurd ⟨i, hi', hb⟩ hno
   have hsplit : listed.toList = listed.toList.take n ++ listed.toList.drop n := (List.take_append_drop _ _).symm;rw [hsplit, List.count_append] at hcnt
   have h1 : (listed.toList.take n).count false = 0 := by
    rw [List.count_eq_zero];intro hm;obtain ⟨i, hi', hb⟩ := List.mem_take_iff_getElem.1 hm
    have hlt : i < listed.size := by simp at hi'; omega
    have := hall i (by simp at hi'; omega);rw [Array.getD_eq_getD_getElem?, Array.getElem?_eq_getElem hlt] at this
    simp at this hb; rw [this] at hb; cases hb
   have h2 : (listed.toList.drop n).count false ≤ os.length - n := by
    refine Nat.le_trans List.count_le_length ?_
    simp [hsz0]
   omega
  obtain ⟨i0, ⟨hi0, hu0⟩, hleast⟩ := least hex;have hlt0 : i0 < os.length := Nat.lt_of_lt_of_le hi0 hc.le;have ho0 : os[i0]? = some os[i0] := List.getElem?_eq_getElem hlt0
  have hr0 : i0 ∈ Region.ready .any os.toArray listed := by
   refine mem_ready.2 ⟨hu0, os[i0], by simpa using ho0, fun e he hb => ?_⟩;have hlt := jB (hc.head i0 _ hi0 ho0).2.1 e he hb
   have hle : e.on < listed.size := by omega
   cases hv : listed.getD e.on true with
   | true => rw [Array.getD_eq_getD_getElem?, Array.getElem?_eq_getElem hle] at hv ⊢; simpa using hv
   | false => have := hleast e.on ⟨by omega, hv⟩; omega
  refine ⟨fun h0 => by rw [h0] at hr0; simp at hr0, fun i hi' => ?_⟩;obtain ⟨hun, o, ho, hall⟩ := mem_ready.1 hi'
  have ho' : os[i]? = some o := by simpa using ho
  have hil : i < os.length := (List.getElem?_eq_some_iff.1 ho').1
  have hin : i < n := by
   refine Nat.lt_of_not_le fun hge => ?_
   obtain ⟨_, _, c3⟩ := hc.tail i o hge ho';have h1 := waitsT_spec H.closed ho' hall (c3 i0 (by omega))
   have hle : i0 < listed.size := by omega
   rw [Array.getD_eq_getD_getElem?, Array.getElem?_eq_getElem hle] at h1 hu0
   simp at h1 hu0; rw [h1] at hu0; cases hu0
  obtain ⟨c1, c2, c4⟩ := hc.head i o hin ho'
  have hhl : i < hs.length := by rw [hc.len]; exact hin
  have hh : hs[i]? = some hs[i] := List.getElem?_eq_getElem hhl
  have hdl : ∀ e ∈ hs[i].deps, listed.getD e false = true := fun e he => by
   have hw := (hc.deps i o _ ho' hh e he).2;obtain ⟨e', he', hb', hon⟩ := qS hw;have := hall e' he' hb';rw [hon] at this; exact this
  have key : ∀ v w', Eff Ef hs[i].kind w w' → hs[i].E (hs[i].deps.map val) w w' → hs[i].R (hs[i].deps.map val) v w' w.heap.size w'.heap.size →
    wpAnyIn (Fw X.r) 0 X.P .any os.toArray Q (m + (os.length - n)) (listed.setIfInBounds i true) (a.put o.dst v) w' := by
   intro v w' hE hE2 hR;have hbs := (hEf _ _ _ H.bs hE).1;have hsz := (hEf _ _ _ H.bs hE).2;have hfalse : listed.toList[i]? = some false := j7 hun;refine ih _ _ w' (fun j => if j = i then v else val j) (fun j => if j = i then w.heap.size else lo j) (fun j => if j = i then w'.heap.size else hi j) ?_ (by simp [hsz0]) ?_ ?_ ?_
   ·have := cnt_set _ _ hfalse
    simp only [Array.toList_setIfInBounds]
    omega
   ·intro j hj hjl
    rw [getD_set_ne true (by omega)]; exact htl j hj hjl
   ·refine ⟨?_, hbs, Nat.le_trans H.size hsz, ?_, ?_, ?_, H.closed.set ho' hall⟩
    ·cases hd : o.dst with
     | none => exact H.ok
     | some d =>
      obtain ⟨hlk, hdN⟩ := c4 d hd;refine ⟨by simp [Act.put, H.ok.1], by simp [Act.put, H.ok.2.1], fun t u ht => ?_⟩
      have hne : d ≠ t := fun e => by subst e; rw [hlk] at ht; cases ht
      simp only [Act.put, Array.getElem?_setIfInBounds, hne, if_false]
      exact H.ok.2.2 t u ht
    ·intro j h hj hhj
     by_cases hji : j = i
     ·subst hji
      rw [hh] at hhj; cases hhj
      simp only [if_true]
      have hself : hs[j].deps.map (fun k => if k = j then v else val k) = hs[j].deps.map val := List.map_congr_left fun e he => by
       have hw := (hc.deps j o _ ho' hh e he).2;obtain ⟨e', he', hb', hon⟩ := qS hw;have := jB c2 e' he' hb';rw [if_neg (by omega)]
      rw [hself];refine ⟨fun d' hd' => ?_, hR, H.size, hsz, Nat.le_refl _⟩;rw [ho'] at hd';have hd : o.dst = some d' := hd'
      simp [Act.put, hd, Array.getElem?_setIfInBounds, H.ok.2.1, (c4 d' hd).2]
     ·simp only [hji, if_false]
      rw [getD_set_ne false (fun e => hji e.symm)] at hj;obtain ⟨g1, g2, g3, g4, g5⟩ := H.got j h hj hhj;have hjl : j < hs.length := (List.getElem?_eq_some_iff.1 hhj).1
      have hjo : j < os.length := by have := hc.len; have := hc.le; have := (List.getElem?_eq_some_iff.1 hhj).1; omega
      have hoj : os[j]? = some os[j] := List.getElem?_eq_getElem hjo
      have hself : h.deps.map (fun k => if k = i then v else val k) = h.deps.map val := List.map_congr_left fun e he => by
       have hw := (hc.deps j _ _ hoj hhj e he).2;obtain ⟨e', he', hb', hon⟩ := qS hw;have hlist := H.closed j _ hj hoj e' he' hb'
       rw [if_neg (fun ee => by rw [hon, ee] at hlist; rw [Array.getD_eq_getD_getElem?] at hlist hun; cases hx : listed[i]? with
        | none => rw [hx] at hlist; simp at hlist
        | some b => rw [hx] at hlist hun; simp at hlist hun; rw [hlist] at hun; cases hun)]
      rw [hself]
      have hdj2 : ∀ e, e ∈ h.deps ∨ e ∈ hs[i].deps → listed.getD e false = true := fun e he => by
       rcases he with he | he
       ·have hw := (hc.deps j _ _ hoj hhj e he).2
        obtain ⟨e', he', hb', hon⟩ := qS hw;rw [← hon]; exact H.closed j _ hj hoj e' he' hb'
       ·exact hdl e he
      refine ⟨fun d' hd' => ?_, hst _ _ j i hhj hh hji val lo hi w w' ⟨fun e he x hx => (H.got e x (hdj2 e he) hx).2.1, fun e e' he he' hne => H.apart e e' (hdj2 e he) (hdj2 e' he') hne⟩ H.bs hE hE2 g5 g2, g3, g4, Nat.le_trans g5 hsz⟩;have g1' := g1 d' hd'
      cases hd : o.dst with
      | none => simpa [Act.put] using g1'
      | some d =>
       have hdi : (os[i]?).bind (·.dst) = some d := by rw [ho']; exact hd
       have hne : d ≠ d' := fun e => by subst e; exact hji (hc.distinct j i d (by rw [← hc.len]; exact hjl) hin hd' hdi)
       simp only [Act.put, Array.getElem?_setIfInBounds, hne, if_false]; exact g1'
    ·intro j k hj hk hjk
     by_cases hji : j = i
     ·subst hji
      have hki : ¬ k = j := fun e => hjk e.symm
      simp only [if_true, hki, if_false]
      rw [getD_set_ne false (fun e => hki e.symm)] at hk;exact .inr (H.top k hk)
     ·by_cases hki : k = i
      ·subst hki
       simp only [if_true, hji, if_false]
       rw [getD_set_ne false (fun e => hji e.symm)] at hj;exact .inl (H.top j hj)
      ·simp only [hji, hki, if_false]
       rw [getD_set_ne false (fun e => hji e.symm)] at hj;rw [getD_set_ne false (fun e => hki e.symm)] at hk;exact H.apart j k hj hk hjk
    ·intro j hj
     by_cases hji : j = i
     ·simp only [hji, if_true]; exact Nat.le_refl _
     ·simp only [hji, if_false]
      rw [getD_set_ne false (fun e => hji e.symm)] at hj;exact Nat.le_trans (H.top j hj) hsz
   ·intro hq
    by_cases hqi : q = i
    ·exfalso
     subst hqi
     have hlt : q < listed.size := by omega
     simp [Array.getD_eq_getD_getElem?, hlt] at hq
    ·rw [getD_set_ne false (fun e => hqi e.symm)] at hq
     have h1 := HL hq
     cases hd : o.dst with
     | none => simpa [Act.put] using h1
     | some d =>
      have hdi : (os[i]?).bind (·.dst) = some d := by rw [ho']; exact hd
      have hne : d ≠ s := fun e => by subst e; exact hqi (hc.distinct q i d hqn hin hqs hdi)
      simp only [Act.put, Array.getElem?_setIfInBounds, hne, if_false]; exact h1
  have hokL : Ok X (if i ∈ Ks then (s, u) :: l0 else l0) a := by
   split
   ·rename_i hiK
    have hql : q < os.length := Nat.lt_of_lt_of_le hqn hc.le;have hqo : os[q]? = some os[q] := List.getElem?_eq_getElem hql
    have hnq : listed.getD q false = false := by
     cases hb : listed.getD q false with
     | false => rfl
     | true =>
      obtain ⟨e', he', hb', hon⟩ := qS (hK i hiK _ hqo);have := H.closed q _ hb hqo e' he' hb';rw [hon] at this;rw [Array.getD_eq_getD_getElem?] at this hun
      cases hx : listed[i]? with
      | none => rw [hx] at this; simp at this
      | some b => rw [hx] at this hun; simp at this hun; rw [this] at hun; cases hun
    have h1 := HL hnq;refine ⟨H.ok.1, H.ok.2.1, fun t v ht => ?_⟩
    simp only [look] at ht
    by_cases q' : s = t
    ·subst q'; rw [show Nat.beq s s = true from Nat.beq_refl s] at ht; simp only [cond_true, Option.some.injEq] at ht; rw [← ht]; exact h1
    ·rw [jG q'] at ht; exact H.ok.2.2 t v ht
   ·exact H.ok
  unfold wpOpIn
  simp only [ho]
  have run : hs[i].on = true → Region.wanted o (yielded os.toArray a.tmps) = true → (if Region.wanted o (yielded os.toArray a.tmps) = true then o.wpIn (Fw X.r) 0 X.P a w (wpAnyIn (Fw X.r) 0 X.P .any os.toArray Q (m + (os.length - n)) (listed.setIfInBounds i true)) Q else (∀ f, o.about X.P w a.eval = some f → (Fw X.r).fn f) ∧ wpAnyIn (Fw X.r) 0 X.P .any os.toArray Q (m + (os.length - n)) (listed.setIfInBounds i true) (a.put o.dst undef) w) := fun hon hwt => by
   simp only [hwt, if_true]
   obtain ⟨l', hok', hex'⟩ := GObl.run (hob i o _ ho' hh hon w H.bs H.size) hokL (val := val) (lo := lo) (hi := hi) fun e he h hh' => by
    obtain ⟨g1, g2, _, _, g5⟩ := H.got e h (hdl e he) hh';exact ⟨g1, g2, g5⟩
   rw [List.nil_append] at hex'
   exact hex'.wp hok' fun v w' hE hR => key v w' hE.1 hE.2 hR
  rcases c1 with ⟨c1, hon⟩ | ⟨j, want, b, c, dsj, dsi, vi, dj, hg, hhj, hhi, hdj, hw⟩
  ·have hg : o.guard = none := by unfold noSel at c1; split at c1 <;> simp_all
   exact run (by rw [hh] at hon; exact hon) (by unfold Region.wanted; rw [hg])
  ·obtain ⟨e', he', hb', hon⟩ := qS hw
   have hl := hall e' he' hb';rw [hon] at hl;obtain ⟨g1, g2, _⟩ := H.got j _ hl hhj;have hv : val j = bif c then .bool b else undef := g2
   have hhi' : hs[i] = gop (c && (b == want)) dsi vi := by rw [hh] at hhi; exact Option.some.inj hhi
   have hy : yielded os.toArray a.tmps j = if c = true then some b else none := by
    unfold yielded
    rw [show (os.toArray[j]?).bind (·.dst) = some dj by simpa using hdj]
    cases c <;> simp [g1 dj hdj, hv, undef]
   have hwd : Region.wanted o (yielded os.toArray a.tmps) = (c && (b == want)) := by
    unfold Region.wanted; rw [hg]
    simp only [hy]
    cases c <;> cases b <;> cases want <;> rfl
   cases hcb : c && (b == want) with
   | true => exact run (by rw [hhi']; exact hcb) (by rw [hwd, hcb])
   | false =>
    simp only [hwd, hcb, Bool.false_eq_true, if_false]
    exact ⟨fun _ _ => trivial, key undef w (by rw [hhi']; exact Below.refl _ _) (by rw [hhi']; trivial) (by rw [hhi', hcb]; rfl)⟩
def dropS (s : Nat) (l : Frm) : Frm := l.filter fun p => !Nat.beq p.1 s
theorem dropS_sub (s : Nat) : ∀ l : Frm, Sub l (dropS s l)
 | [], t, v, h => by simp [dropS, look] at h
 | (d, x) :: l, t, v, h => by
  have ih := dropS_sub s l t v
  simp only [dropS, List.filter_cons] at h ih
  by_cases e : d = s
  ·subst e
   rw [show Nat.beq d d = true from Nat.beq_refl d] at h
   simp only [Bool.not_true, Bool.false_eq_true, if_false] at h
   have h2 := ih h
   simp only [look]
   by_cases q : d = t
   ·exfalso
    subst q
    have : ∀ m : Frm, look (m.filter fun p => !Nat.beq p.1 d) d = none := fun m => by
     induction m with
     | nil => rfl
     | cons y m ihm =>
      simp only [List.filter_cons]
      by_cases e2 : y.1 = d
      ·rw [show Nat.beq y.1 d = true by rw [e2]; exact Nat.beq_refl d]; simpa using ihm
      ·rw [jG e2]; simp only [Bool.not_false, if_true, look, jG e2, cond_false]; exact ihm
    rw [this l] at h; cases h
   ·rw [jG q]; exact h2
  ·rw [jG e] at h
   simp only [Bool.not_false, if_true, look] at h ⊢
   by_cases q : d = t
   ·subst q; rw [show Nat.beq d d = true from Nat.beq_refl d] at h ⊢; exact h
   ·rw [jG q] at h ⊢; exact ih h
theorem W_anyGL {q s : Nat} {u : Value} {Ks : List Nat} {l1 : Frm} {id : Nat} {os : List Oper} (n : Nat) (dss : List (List Nat)) (Ef : List (World → World → Prop)) (Bs : World → Prop) (hs : List GOp) (hm : X.P.follows .mixedOrders = true) (hchk' : gChk anySel X.N n (dropS s l1) os dss = true) (hdss : hs.map (·.deps) = dss) (hsel : GSels os hs os 0 n) (hEf : EfOk Ef Bs) (hst : GStab Ef Bs hs)
  (hBs : Bs w) (hdr : Bs w → Bs w.drew) (hqn : q < n) (hqs : (os[q]?).bind (·.dst) = some s) (hK : ∀ i ∈ Ks, ∀ o, os[q]? = some o → waits o i = true) (hls : look l1 s = some u)
  (hob : GOblsL X.P Ef Bs os hs (dropS s l1) s u Ks w 0 os hs)
  (htail : ∀ w', Bs w' → w.heap.size ≤ w'.heap.size → GFin w.heap.size w' (fun l' => SG X os.toArray Q (os.drop n) l' w') os hs [] [] (dropS s l1)) : W X (.region id os.toArray true) Q l1 w := fun a ha1 => by
 have ha : Ok X (dropS s l1) a := ⟨ha1.1, ha1.2.1, fun t v ht => ha1.2.2 t v (dropS_sub s l1 t v ht)⟩
 have hau : a.tmps[s]? = some u := ha1.2.2 s u hls
 have hc := gChk_sound (hs := hs) (by rw [hdss]; exact hchk') fun i o hi ho _ => by have := hsel.get hi ho; rw [Nat.zero_add] at this; exact this
 refine wpIn_region_any hm ?_
 have := head_runL (X := X) (Q := Q) hc hEf hst hqn hqs hK (fun i o h ho hh hon w' hb hz => by have := hob.get ho hh hon w' hb hz; rw [Nat.zero_add] at this; exact this) (fun listed a w' val lo hi H hall => by
  obtain ⟨l', hok', hK⟩ := fin_runG (X := X) (w := w') (K := fun l' => SG X os.toArray Q (os.drop n) l' w') hc H hall hs os 0 [] [] (dropS s l1) rfl rfl rfl (by simpa using hc.len) H.ok (fun _ h => by simp at h) (htail w' H.bs H.size)
  exact hK a hok') n (Array.replicate os.toArray.size false) a w.drew (fun _ => undef) (fun _ => 0) (fun _ => 0) (by simp; have := hc.le; omega) (by simp)
  (fun i hn hi => by simp [Array.getD_eq_getD_getElem?, hi])
  ⟨ha, hdr hBs, Nat.le_refl _, fun i h hl => by simp only [Array.getD_eq_getD_getElem?] at hl; rw [Array.getElem?_replicate] at hl; split at hl <;> simp at hl,
   fun i j hl => by simp only [Array.getD_eq_getD_getElem?] at hl; rw [Array.getElem?_replicate] at hl; split at hl <;> simp at hl,
   fun i hl => by simp only [Array.getD_eq_getD_getElem?] at hl; rw [Array.getElem?_replicate] at hl; split at hl <;> simp at hl,
   fun i o hl => by simp only [Array.getD_eq_getD_getElem?] at hl; rw [Array.getElem?_replicate] at hl; split at hl <;> simp at hl⟩ (fun _ => hau)
 have e : n + (os.length - n) = os.toArray.size := by have := hc.le; simp; omega
 rw [e] at this;exact this
end
section
variable {P : Program} {Ef : List (World → World → Prop)} {Bs : World → Prop} {os : List Oper} {hs : List GOp} {l0 : Frm} {w0 : World} {s i : Nat} {u : Value} {Ks : List Nat}
theorem jY {o : Oper} {os' : List Oper} {h : GOp} {hs' : List GOp} (hi : Ks.contains i = false) (h1 : ∀ w, Bs w → w0.heap.size ≤ w.heap.size → GObl P Ef os hs w o h h.deps [] l0) (h2 : GOblsL P Ef Bs os hs l0 s u Ks w0 (i + 1) os' hs') : GOblsL P Ef Bs os hs l0 s u Ks w0 i (o :: os') (h :: hs') :=
 ⟨fun _ w hb hz => by rw [if_neg (by simpa using hi)]; exact h1 w hb hz, h2⟩
theorem GOblsL_late {o : Oper} {os' : List Oper} {h : GOp} {hs' : List GOp} (hi : Ks.contains i = true) (h1 : ∀ w, Bs w → w0.heap.size ≤ w.heap.size → GObl P Ef os hs w o h h.deps [] ((s, u) :: l0)) (h2 : GOblsL P Ef Bs os hs l0 s u Ks w0 (i + 1) os' hs') : GOblsL P Ef Bs os hs l0 s u Ks w0 i (o :: os') (h :: hs') :=
 ⟨fun _ w hb hz => by rw [if_pos (by simpa using hi)]; exact h1 w hb hz, h2⟩
theorem GOblsL_nil {os' : List Oper} : GOblsL P Ef Bs os hs l0 s u Ks w0 i os' [] := by cases os' <;> trivial
end
/-! the steps -/
/-- what is done and what is left are the steps -/
def StepsI (C : Co) (l : List Rw) (D : Co) : Prop := (stepsR C).1 = l ++ (stepsR D).1 ∧ (stepsR C).2 = (stepsR D).2
theorem StepsI.next {C D : Co} {l : List Rw} (h : StepsI C l D) (hck : checkR D = 0) {r : Rw} (hr : nextR D = some r) : StepsI C (l ++ [r]) (appR D r) := by
 have := steps_some hck hr;obtain ⟨h1, h2⟩ := h;rw [this] at h1 h2;exact ⟨by rw [h1]; simp, h2⟩
theorem StepsI.done {C D : Co} {l : List Rw} (h : StepsI C l D) (hn : nextR D = none) : (stepsR C).1 = l ∧ (stepsR C).2 = D := by
 obtain ⟨h1, h2⟩ := h;rw [show stepsR D = ([], D) from jQ hn _] at h1 h2;exact ⟨by simpa using h1, h2⟩
theorem StepsI.len {C D : Co} {l : List Rw} (h : StepsI C l D) (hck : checkR C = 0) : l.length ≤ 50000000 := by
 have h1 := (steps_len hck).1;have h2 := refs_bound hck;rw [h.1, List.length_append] at h1; omega
structure Sy where
 l : List Rw
 C : Co
 f : Nat
 v1 : Value
 v2 : Value
 v3 : Value
 u : Value
theorem next_from {D : Co} {f : Nat} (h : ∀ j : Nat, j < f → rulesC D j = []) : nextF D f = nextR D := nextF_eq h
end Go.Mi
