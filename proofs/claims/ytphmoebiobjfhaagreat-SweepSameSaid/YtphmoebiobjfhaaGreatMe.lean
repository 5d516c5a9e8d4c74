/- Regions of any order in which old variables are stored into, too: my law of the heads, once more, with the effect of each. Any program. -/
import Derived.Test.YtphmoebiobjfhaaGreatMr
set_option linter.all false
namespace Go.Mi
open Go Go.RowKit
structure GOp where
 kind : Nat
 fr : Bool
 deps : List Nat
 R : List Value → Value → World → Nat → Nat → Prop
 E : List Value → World → World → Prop
 on : Bool
def noE (_ : List Value) (_ _ : World) : Prop := True
def gdet (deps : List Nat) (v : Value) : GOp := ⟨0, false, deps, fun _ u _ _ _ => u = v, noE, true⟩
def gfrs (deps : List Nat) (R : Value → World → Nat → Nat → Prop) : GOp := ⟨0, true, deps, fun _ => R, noE, true⟩
def gst (kind : Nat) (deps : List Nat) (R : List Value → World → Prop) : GOp := ⟨kind + 1, false, deps, fun vs _ w _ _ => R vs w, noE, true⟩
/-- a store whose target another operation of the region makes: what it turns hangs on what came before it -/
def gsv (kind : Nat) (deps : List Nat) (R : List Value → World → Prop) (E : List Value → World → World → Prop) : GOp := ⟨kind + 1, false, deps, fun vs _ w _ _ => R vs w, E, true⟩
/-- an operation that runs where c holds -/
def gop (c : Bool) (deps : List Nat) (v : Value) : GOp := ⟨0, false, deps, fun _ u _ _ _ => u = bif c then v else undef, noE, c⟩
/-- what an operation of a kind may turn -/
def Eff (Ef : List (World → World → Prop)) : Nat → World → World → Prop
 | 0, w, w' => Below w.heap.size w w'
 | k + 1, w, w' => match Ef[k]? with | some E => E w w' | none => False
def EfOk (Ef : List (World → World → Prop)) (Bs : World → Prop) : Prop := ∀ k w w', Bs w → Eff Ef k w w' → Bs w' ∧ w.heap.size ≤ w'.heap.size
/-- what two operations that are done, or about to be, lean on -/
def AP (hs : List GOp) (val : Nat → Value) (lo hi : Nat → Nat) (w : World) (h g : GOp) : Prop :=
 (∀ e, e ∈ h.deps ∨ e ∈ g.deps → ∀ x, hs[e]? = some x → x.R (x.deps.map val) (val e) w (lo e) (hi e)) ∧ ∀ e e', (e ∈ h.deps ∨ e ∈ g.deps) → (e' ∈ h.deps ∨ e' ∈ g.deps) → e ≠ e' → hi e ≤ lo e' ∨ hi e' ≤ lo e
def GStab (Ef : List (World → World → Prop)) (Bs : World → Prop) (hs : List GOp) : Prop :=
 ∀ (h g : GOp) (i j : Nat), hs[i]? = some h → hs[j]? = some g → i ≠ j → ∀ (val : Nat → Value) (lo hi : Nat → Nat) (w w' : World), AP hs val lo hi w h g → Bs w → Eff Ef g.kind w w' → g.E (g.deps.map val) w w' → hi i ≤ w.heap.size →
  h.R (h.deps.map val) (val i) w (lo i) (hi i) → h.R (h.deps.map val) (val i) w' (lo i) (hi i)
def GEff (Ef : List (World → World → Prop)) (g : GOp) (acc : List Value) (w w' : World) : Prop := Eff Ef g.kind w w' ∧ g.E acc w w'
def GEx (P : Program) (o : Oper) (l : Frm) (w : World) (E : World → World → Prop) (Post : Value → World → Prop) : Prop :=
 ∀ (X : Cx) (a : Act), X.P = P → Ok X l a → (∃ v w', (execOp a.eval o).run P w = .ok (.value v) w' ∧ E w w' ∧ Post v w') ∨ (∃ w', (execOp a.eval o).run P w = .ok .skip w' ∧ E w w' ∧ Post undef w') ∨
  (∃ f vs, (execOp a.eval o).run P w = .ok (.enter f vs) w ∧ Calls P f vs w fun e w' => ∃ v, e = .returned v ∧ E w w' ∧ Post v w')
theorem GEx.of {P : Program} {o : Oper} {l : Frm} {w : World} {Ef : List (World → World → Prop)} {Post : Value → World → Prop} {fr : Bool} {ds : List Nat} {R : List Value → Value → World → Nat → Nat → Prop} {acc : List Value} {on : Bool} (h : ExH P o l w Post) : GEx P o l w (GEff Ef ⟨0, fr, ds, R, noE, on⟩ acc) Post := fun X a hP ha => by
 rcases h X a hP ha with ⟨v, w', h1, h2, h3⟩ | ⟨f, vs, h1, h2⟩
 ·exact .inl ⟨v, w', h1, ⟨h2, trivial⟩, h3⟩
 ·exact .inr (.inr ⟨f, vs, h1, Calls.mono h2 fun e w' ⟨v, a, b, c⟩ => ⟨v, a, ⟨b, trivial⟩, c⟩⟩)
def GObl (P : Program) (Ef : List (World → World → Prop)) (os : List Oper) (hs : List GOp) (w : World) (o : Oper) (g : GOp) : List Nat → List Value → Frm → Prop
 | [], acc, l => GEx P o l w (GEff Ef g acc) (fun v w' => g.R acc v w' w.heap.size w'.heap.size)
 | e :: es, acc, l => match hs[e]?, os[e]? with
  | some h, some oe => match oe.dst with
   | some d => ∀ vs v lo hi, hi ≤ w.heap.size → h.R vs v w lo hi → GObl P Ef os hs w o g es (acc ++ [v]) ((d, v) :: l)
   | none => ∀ vs v lo hi, hi ≤ w.heap.size → h.R vs v w lo hi → GObl P Ef os hs w o g es (acc ++ [v]) l
  | _, _ => False
def GObls (P : Program) (Ef : List (World → World → Prop)) (Bs : World → Prop) (os : List Oper) (hs : List GOp) (l0 : Frm) (w0 : World) : List Oper → List GOp → Prop
 | o :: os', h :: hs' => (h.on = true → ∀ w, Bs w → w0.heap.size ≤ w.heap.size → GObl P Ef os hs w o h h.deps [] l0) ∧ GObls P Ef Bs os hs l0 w0 os' hs'
 | _, _ => True
def GFin (B : Nat) (w : World) (K : Frm → Prop) : List Oper → List GOp → List Value → List (Nat × Nat) → Frm → Prop
 | o :: os, h :: hs, vals, ivs, l => match o.dst with
  | some d => ∀ v lo hi, h.R (h.deps.map (vals.getD · undef)) v w lo hi → B ≤ lo → lo ≤ hi → hi ≤ w.heap.size → (∀ iv ∈ ivs, hi ≤ iv.1 ∨ iv.2 ≤ lo) → GFin B w K os hs (vals ++ [v]) (if h.fr then (lo, hi) :: ivs else ivs) ((d, v) :: l)
  | none => ∀ v lo hi, h.R (h.deps.map (vals.getD · undef)) v w lo hi → GFin B w K os hs (vals ++ [v]) ivs l
 | _, _, _, _, l => K l
section
variable {X : Cx} {Q : Exit → Act → World → Prop} {l : Frm} {w w' : World}
structure GSt (X : Cx) (Bs : World → Prop) (os : List Oper) (hs : List GOp) (n : Nat) (l0 : Frm) (w0 : World) (listed : Array Bool) (a : Act) (w : World) (val : Nat → Value) (lo hi : Nat → Nat) : Prop where
 ok : Ok X l0 a
 bs : Bs w
 size : w0.heap.size ≤ w.heap.size
 got : ∀ (i : Nat) (h : GOp), listed.getD i false = true → hs[i]? = some h → (∀ d, (os[i]?).bind (·.dst) = some d → a.tmps[d]? = some (val i)) ∧ h.R (h.deps.map val) (val i) w (lo i) (hi i) ∧ w0.heap.size ≤ lo i ∧ lo i ≤ hi i ∧ hi i ≤ w.heap.size
 apart : ∀ i j, listed.getD i false = true → listed.getD j false = true → i ≠ j → hi i ≤ lo j ∨ hi j ≤ lo i
 top : ∀ i, listed.getD i false = true → hi i ≤ w.heap.size
 closed : Closed os listed
/-- a guard: the head that it names yields a bool; where it is off, nothing is done -/
def GOk2 (os : List Oper) (hs : List GOp) (i : Nat) (o : Oper) : Prop := ∃ j want b c ds ds' v d, o.guard = some (j, want) ∧ hs[j]? = some (gop c ds (.bool b)) ∧ hs[i]? = some (gop (c && (b == want)) ds' v) ∧ (os[j]?).bind (·.dst) = some d ∧ waits o j = true
/-- an operation that nothing guards runs -/
def GSel (os : List Oper) (hs : List GOp) (i : Nat) (o : Oper) : Prop := (noSel o = true ∧ (hs[i]?).all (·.on) = true) ∨ GOk2 os hs i o
structure GChk (N : Nat) (os : List Oper) (hs : List GOp) (n : Nat) (l0 : Frm) : Prop where
 len : hs.length = n
 le : n ≤ os.length
 head : ∀ (i : Nat) (o : Oper), i < n → os[i]? = some o → GSel os hs i o ∧ backOk o i = true ∧ ∀ d, o.dst = some d → look l0 d = none ∧ d < N
 distinct : ∀ (i j d : Nat), i < n → j < n → (os[i]?).bind (·.dst) = some d → (os[j]?).bind (·.dst) = some d → i = j
 deps : ∀ (i : Nat) (o : Oper) (h : GOp), os[i]? = some o → hs[i]? = some h → ∀ e ∈ h.deps, e < n ∧ waits o e = true
 tail : ∀ (k : Nat) (o : Oper), n ≤ k → os[k]? = some o → noSel o = true ∧ backOk o k = true ∧ ∀ j, j < k → waitsT os k j = true
theorem GObls.get {P : Program} {Ef : List (World → World → Prop)} {Bs : World → Prop} {os : List Oper} {hs : List GOp} {l0 : Frm} {w0 : World} : ∀ {os' : List Oper} {hs' : List GOp} {i : Nat} {o : Oper} {h : GOp}, GObls P Ef Bs os hs l0 w0 os' hs' → os'[i]? = some o → hs'[i]? = some h → h.on = true → ∀ w, Bs w → w0.heap.size ≤ w.heap.size → GObl P Ef os hs w o h h.deps [] l0
 | [], _, i, o, h, _, ho, _ => by simp at ho
 | _ :: _, [], i, o, h, _, _, hh => by simp at hh
 | x :: os', g :: hs', 0, o, h, hob, ho, hh => by simp at ho hh; subst ho; subst hh; exact hob.1
 | x :: os', g :: hs', i + 1, o, h, hob, ho, hh => GObls.get hob.2 (by simpa using ho) (by simpa using hh)
theorem GObl.run {Ef : List (World → World → Prop)} {os : List Oper} {hs : List GOp} {w : World} {o : Oper} {g : GOp} {a : Act} {val : Nat → Value} {lo hi : Nat → Nat} : ∀ {ds : List Nat} {acc : List Value} {l : Frm}, GObl X.P Ef os hs w o g ds acc l → Ok X l a →
  (∀ e ∈ ds, ∀ h, hs[e]? = some h → (∀ d, (os[e]?).bind (·.dst) = some d → a.tmps[d]? = some (val e)) ∧ h.R (h.deps.map val) (val e) w (lo e) (hi e) ∧ hi e ≤ w.heap.size) →
  ∃ l', Ok X l' a ∧ GEx X.P o l' w (GEff Ef g (acc ++ ds.map val)) (fun v w' => g.R (acc ++ ds.map val) v w' w.heap.size w'.heap.size)
 | [], acc, l, h, hok, _ => ⟨l, hok, by rw [List.map_nil, List.append_nil]; exact h⟩
 | e :: ds, acc, l, h, hok, hd => by
  have hassoc : acc ++ (e :: ds).map val = (acc ++ [val e]) ++ ds.map val := by simp
  rw [hassoc]
  simp only [GObl] at h
  split at h
  ·rename_i g' oe hg hoe
   obtain ⟨h1, h2, h3⟩ := hd e (by simp) g' hg
   split at h
   ·rename_i d hdst
    refine GObl.run (h _ (val e) (lo e) (hi e) h3 h2) ⟨hok.1, hok.2.1, fun t v ht => ?_⟩ (fun e' he' => hd e' (by simp [he']))
    simp only [look] at ht
    by_cases q : d = t
    ·subst q; rw [show Nat.beq d d = true from Nat.beq_refl d] at ht; simp only [cond_true, Option.some.injEq] at ht; rw [← ht]; exact h1 d (by rw [hoe]; exact hdst)
    ·rw [beq_ne q] at ht; exact hok.2.2 t v ht
   ·exact GObl.run (h _ (val e) (lo e) (hi e) h3 h2) hok (fun e' he' => hd e' (by simp [he']))
  ·exact h.elim
theorem GEx.wp {o : Oper} {w : World} {a : Act} {E : World → World → Prop} {Post : Value → World → Prop} {K : Act → World → Prop} {Q' : Exit → Act → World → Prop} (h : GEx X.P o l w E Post) (ha : Ok X l a)
  (k : ∀ v w', E w w' → Post v w' → K (a.put o.dst v) w') : o.wpIn (Fw X.r) 0 X.P a w K Q' := by
 refine ⟨fun _ _ => trivial, ?_⟩
 rcases h X a rfl ha with ⟨v, w', hr, hb, hp⟩ | ⟨w', hr, hb, hp⟩ | ⟨f, vs, hr, hc⟩
 ·rw [semAt_of hr (by intro d h; cases h)]
  exact k v w' hb hp
 ·rw [semAt_of hr (by intro d h; cases h)]
  exact k undef w' hb hp
 ·rw [semAt_of hr (by intro d h; cases h)]
  refine ⟨(fun h => by cases h), callsIn_of (Calls.mono hc ?_)⟩;rintro e w' ⟨v, rfl, hb, hp⟩;exact k v w' hb hp
theorem head_runG {Ef : List (World → World → Prop)} {Bs : World → Prop} {os : List Oper} {hs : List GOp} {n : Nat} {l0 : Frm} {w0 : World} (hc : GChk X.N os hs n l0) (hEf : EfOk Ef Bs) (hst : GStab Ef Bs hs) (hob : GObls X.P Ef Bs os hs l0 w0 os hs)
  (hend : ∀ listed a w val lo hi, GSt X Bs os hs n l0 w0 listed a w val lo hi → (∀ i, i < n → listed.getD i false = true) → segL X os.toArray Q (os.drop n) a w) :
  ∀ (m : Nat) (listed : Array Bool) (a : Act) (w : World) (val : Nat → Value) (lo hi : Nat → Nat), listed.toList.count false = m + (os.length - n) → listed.size = os.length → (∀ i, n ≤ i → i < os.length → listed.getD i true = false) →
   GSt X Bs os hs n l0 w0 listed a w val lo hi → wpAnyIn (Fw X.r) 0 X.P .any os.toArray Q (m + (os.length - n)) listed a w := by
 intro m
 induction m with
 | zero =>
  intro listed a w val lo hi hcnt hsz0 htl H
  -- all heads are listed
  have hall : ∀ i, i < n → listed.getD i false = true := by
   intro i hi';have hsplit : listed.toList = listed.toList.take n ++ listed.toList.drop n := (List.take_append_drop _ _).symm;rw [hsplit, List.count_append] at hcnt
   have hdrop : (listed.toList.drop n).count false = os.length - n := by
    rw [List.count_eq_length.2]
    ·simp [hsz0]
    ·intro b hb
     obtain ⟨j, hj⟩ := List.getElem?_of_mem hb;rw [List.getElem?_drop] at hj
     have hlt : n + j < os.length := by have := (List.getElem?_eq_some_iff.1 hj).1; simp [hsz0] at this; exact this
     have := listed_get (htl (n + j) (by omega) hlt);rw [this] at hj; cases hj; rfl
   have htake : (listed.toList.take n).count false = 0 := by omega
   rw [List.count_eq_zero] at htake
   have hlt : i < listed.size := by have := hc.le; omega
   have hget : listed.getD i false = listed[i] := by simp [Array.getD_eq_getD_getElem?, hlt]
   rw [hget]
   cases hb : listed[i] with
   | true => rfl
   | false =>
    exfalso; apply htake
    rw [List.mem_take_iff_getElem];exact ⟨i, by simp; omega, by simpa using hb⟩
  have hs' := hend listed a w val lo hi H hall;rw [Nat.zero_add];exact tail_run hc.tail (os.length - n) n listed a w H.closed rfl (Nat.le_refl _) hc.le hsz0 hall htl hs'
 | succ m ih =>
  intro listed a w val lo hi hcnt hsz0 htl H;rw [show m + 1 + (os.length - n) = (m + (os.length - n)) + 1 by omega]
  -- some head is not listed
  have hex : ∃ i, i < n ∧ listed.getD i true = false := by
   refine Classical.byContradiction fun hno => ?_
   have hall : ∀ i, i < n → listed.getD i true = true := fun i hi' => by
    cases hb : listed.getD i true with
    | true => rfl
    | false => exact absurd ⟨i, hi', hb⟩ hno
   have hsplit : listed.toList = listed.toList.take n ++ listed.toList.drop n := (List.take_append_drop _ _).symm;rw [hsplit, List.count_append] at hcnt
   have h1 : (listed.toList.take n).count false = 0 := by
    rw [List.count_eq_zero];intro hm;obtain ⟨i, hi', hb⟩ := List.mem_take_iff_getElem.1 hm
    have hlt : i < listed.size := by simp at hi'; omega
    have := hall i (by simp at hi'; omega);rw [Array.getD_eq_getD_getElem?, Array.getElem?_eq_getElem hlt] at this
    simp at this hb; rw [this] at hb; cases hb
   have h2 : (listed.toList.drop n).count false ≤ os.length - n := by
    refine Nat.le_trans List.count_le_length ?_
    simp [hsz0]
   omega
  obtain ⟨i0, ⟨hi0, hu0⟩, hleast⟩ := least hex;have hlt0 : i0 < os.length := Nat.lt_of_lt_of_le hi0 hc.le;have ho0 : os[i0]? = some os[i0] := List.getElem?_eq_getElem hlt0
  have hr0 : i0 ∈ Region.ready .any os.toArray listed := by
   refine mem_ready.2 ⟨hu0, os[i0], by simpa using ho0, fun e he hb => ?_⟩;have hlt := backOk_spec (hc.head i0 _ hi0 ho0).2.1 e he hb
   have hle : e.on < listed.size := by omega
   cases hv : listed.getD e.on true with
   | true => rw [Array.getD_eq_getD_getElem?, Array.getElem?_eq_getElem hle] at hv ⊢; simpa using hv
   | false => have := hleast e.on ⟨by omega, hv⟩; omega
  refine ⟨fun h0 => by rw [h0] at hr0; simp at hr0, fun i hi' => ?_⟩;obtain ⟨hun, o, ho, hall⟩ := mem_ready.1 hi'
  have ho' : os[i]? = some o := by simpa using ho
  have hil : i < os.length := (List.getElem?_eq_some_iff.1 ho').1
  have hin : i < n := by
   refine Nat.lt_of_not_le fun hge => ?_
   obtain ⟨_, _, c3⟩ := hc.tail i o hge ho';have h1 := waitsT_spec H.closed ho' hall (c3 i0 (by omega))
   have hle : i0 < listed.size := by omega
   rw [Array.getD_eq_getD_getElem?, Array.getElem?_eq_getElem hle] at h1 hu0
   simp at h1 hu0; rw [h1] at hu0; cases hu0
  obtain ⟨c1, c2, c4⟩ := hc.head i o hin ho'
  have hhl : i < hs.length := by rw [hc.len]; exact hin
  have hh : hs[i]? = some hs[i] := List.getElem?_eq_getElem hhl
  have hdl : ∀ e ∈ hs[i].deps, listed.getD e false = true := fun e he => by
   have hw := (hc.deps i o _ ho' hh e he).2;obtain ⟨e', he', hb', hon⟩ := waits_spec hw;have := hall e' he' hb';rw [hon] at this; exact this
  have key : ∀ v w', Eff Ef hs[i].kind w w' → hs[i].E (hs[i].deps.map val) w w' → hs[i].R (hs[i].deps.map val) v w' w.heap.size w'.heap.size →
    wpAnyIn (Fw X.r) 0 X.P .any os.toArray Q (m + (os.length - n)) (listed.setIfInBounds i true) (a.put o.dst v) w' := by
   intro v w' hE hE2 hR;have hbs := (hEf _ _ _ H.bs hE).1;have hsz := (hEf _ _ _ H.bs hE).2;have hfalse : listed.toList[i]? = some false := listed_get hun;refine ih _ _ w' (fun j => if j = i then v else val j) (fun j => if j = i then w.heap.size else lo j) (fun j => if j = i then w'.heap.size else hi j) ?_ (by simp [hsz0]) ?_ ?_
   ·have := cnt_set _ _ hfalse
    simp only [Array.toList_setIfInBounds]
    omega
   ·intro j hj hjl
    rw [getD_set_ne true (by omega)]; exact htl j hj hjl
   ·refine ⟨?_, hbs, Nat.le_trans H.size hsz, ?_, ?_, ?_, H.closed.set ho' hall⟩
    ·cases hd : o.dst with
     | none => exact H.ok
     | some d =>
      obtain ⟨hlk, hdN⟩ := c4 d hd;refine ⟨by simp [Act.put, H.ok.1], by simp [Act.put, H.ok.2.1], fun t u ht => ?_⟩
      have hne : d ≠ t := fun e => by subst e; rw [hlk] at ht; cases ht
      simp only [Act.put, Array.getElem?_setIfInBounds, hne, if_false]
      exact H.ok.2.2 t u ht
    ·intro j h hj hhj
     by_cases hji : j = i
     ·subst hji
      rw [hh] at hhj; cases hhj
      simp only [if_true]
      have hself : hs[j].deps.map (fun k => if k = j then v else val k) = hs[j].deps.map val := List.map_congr_left fun e he => by
       have hw := (hc.deps j o _ ho' hh e he).2;obtain ⟨e', he', hb', hon⟩ := waits_spec hw;have := backOk_spec c2 e' he' hb';rw [if_neg (by omega)]
      rw [hself];refine ⟨fun d' hd' => ?_, hR, H.size, hsz, Nat.le_refl _⟩;rw [ho'] at hd';have hd : o.dst = some d' := hd'
      simp [Act.put, hd, Array.getElem?_setIfInBounds, H.ok.2.1, (c4 d' hd).2]
     ·simp only [hji, if_false]
      rw [getD_set_ne false (fun e => hji e.symm)] at hj;obtain ⟨g1, g2, g3, g4, g5⟩ := H.got j h hj hhj;have hjl : j < hs.length := (List.getElem?_eq_some_iff.1 hhj).1
      have hjo : j < os.length := by have := hc.len; have := hc.le; have := (List.getElem?_eq_some_iff.1 hhj).1; omega
      have hoj : os[j]? = some os[j] := List.getElem?_eq_getElem hjo
      have hself : h.deps.map (fun k => if k = i then v else val k) = h.deps.map val := List.map_congr_left fun e he => by
       have hw := (hc.deps j _ _ hoj hhj e he).2;obtain ⟨e', he', hb', hon⟩ := waits_spec hw;have hlist := H.closed j _ hj hoj e' he' hb'
       rw [if_neg (fun ee => by rw [hon, ee] at hlist; rw [Array.getD_eq_getD_getElem?] at hlist hun; cases hx : listed[i]? with
        | none => rw [hx] at hlist; simp at hlist
        | some b => rw [hx] at hlist hun; simp at hlist hun; rw [hlist] at hun; cases hun)]
      rw [hself]
      have hdj2 : ∀ e, e ∈ h.deps ∨ e ∈ hs[i].deps → listed.getD e false = true := fun e he => by
       rcases he with he | he
       ·have hw := (hc.deps j _ _ hoj hhj e he).2
        obtain ⟨e', he', hb', hon⟩ := waits_spec hw;rw [← hon]; exact H.closed j _ hj hoj e' he' hb'
       ·exact hdl e he
      refine ⟨fun d' hd' => ?_, hst _ _ j i hhj hh hji val lo hi w w' ⟨fun e he x hx => (H.got e x (hdj2 e he) hx).2.1, fun e e' he he' hne => H.apart e e' (hdj2 e he) (hdj2 e' he') hne⟩ H.bs hE hE2 g5 g2, g3, g4, Nat.le_trans g5 hsz⟩;have g1' := g1 d' hd'
      cases hd : o.dst with
      | none => simpa [Act.put] using g1'
      | some d =>
       have hdi : (os[i]?).bind (·.dst) = some d := by rw [ho']; exact hd
       have hne : d ≠ d' := fun e => by subst e; exact hji (hc.distinct j i d (by rw [← hc.len]; exact hjl) hin hd' hdi)
       simp only [Act.put, Array.getElem?_setIfInBounds, hne, if_false]; exact g1'
    ·intro j k hj hk hjk
     by_cases hji : j = i
     ·subst hji
      have hki : ¬ k = j := fun e => hjk e.symm
      simp only [if_true, hki, if_false]
      rw [getD_set_ne false (fun e => hki e.symm)] at hk;exact .inr (H.top k hk)
     ·by_cases hki : k = i
      ·subst hki
       simp only [if_true, hji, if_false]
       rw [getD_set_ne false (fun e => hji e.symm)] at hj;exact .inl (H.top j hj)
      ·simp only [hji, hki, if_false]
       rw [getD_set_ne false (fun e => hji e.symm)] at hj;rw [getD_set_ne false (fun e => hki e.symm)] at hk;exact H.apart j k hj hk hjk
    ·intro j hj
     by_cases hji : j = i
     ·simp only [hji, if_true]; exact Nat.le_refl _
     ·simp only [hji, if_false]
      rw [getD_set_ne false (fun e => hji e.symm)] at hj;exact Nat.le_trans (H.top j hj) hsz
  unfold wpOpIn
  simp only [ho]
  have run : hs[i].on = true → Region.wanted o (yielded os.toArray a.tmps) = true → (if Region.wanted o (yielded os.toArray a.tmps) = true then o.wpIn (Fw X.r) 0 X.P a w (wpAnyIn (Fw X.r) 0 X.P .any os.toArray Q (m + (os.length - n)) (listed.setIfInBounds i true)) Q else (∀ f, o.about X.P w a.eval = some f → (Fw X.r).fn f) ∧ wpAnyIn (Fw X.r) 0 X.P .any os.toArray Q (m + (os.length - n)) (listed.setIfInBounds i true) (a.put o.dst undef) w) := fun hon hwt => by
   simp only [hwt, if_true]
   obtain ⟨l', hok', hex'⟩ := GObl.run (hob.get ho' hh hon w H.bs H.size) H.ok (val := val) (lo := lo) (hi := hi) fun e he h hh' => by
    obtain ⟨g1, g2, _, _, g5⟩ := H.got e h (hdl e he) hh';exact ⟨g1, g2, g5⟩
   rw [List.nil_append] at hex'
   exact hex'.wp hok' fun v w' hE hR => key v w' hE.1 hE.2 hR
  rcases c1 with ⟨c1, hon⟩ | ⟨j, want, b, c, dsj, dsi, vi, dj, hg, hhj, hhi, hdj, hw⟩
  ·have hg : o.guard = none := by unfold noSel at c1; split at c1 <;> simp_all
   exact run (by rw [hh] at hon; exact hon) (by unfold Region.wanted; rw [hg])
  ·obtain ⟨e', he', hb', hon⟩ := waits_spec hw
   have hl := hall e' he' hb';rw [hon] at hl;obtain ⟨g1, g2, _⟩ := H.got j _ hl hhj;have hv : val j = bif c then .bool b else undef := g2
   have hhi' : hs[i] = gop (c && (b == want)) dsi vi := by rw [hh] at hhi; exact Option.some.inj hhi
   have hy : yielded os.toArray a.tmps j = if c = true then some b else none := by
    unfold yielded
    rw [show (os.toArray[j]?).bind (·.dst) = some dj by simpa using hdj]
    cases c <;> simp [g1 dj hdj, hv, undef]
   have hwd : Region.wanted o (yielded os.toArray a.tmps) = (c && (b == want)) := by
    unfold Region.wanted; rw [hg]
    simp only [hy]
    cases c <;> cases b <;> cases want <;> rfl
   cases hcb : c && (b == want) with
   | true => exact run (by rw [hhi']; exact hcb) (by rw [hwd, hcb])
   | false =>
    simp only [hwd, hcb, Bool.false_eq_true, if_false]
    exact ⟨fun _ _ => trivial, key undef w (by rw [hhi']; exact Below.refl _ _) (by rw [hhi']; trivial) (by rw [hhi', hcb]; rfl)⟩
def gChkM (sel : Oper → Bool) (N n : Nat) (l0 : Frm) (os : List Oper) (dss : List (List Nat)) (ms : List Nat) : Bool :=
 Nat.beq dss.length n && Nat.ble n os.length && (os.take n).zipIdx.all (fun (o, i) => sel o && backOk o i && (match o.dst with | some d => (look l0 d).isNone && Nat.blt d N && ((os.take n).zipIdx.all fun (o', j) => Nat.beq i j || (match o'.dst with | some d' => !Nat.beq d d' | none => true)) | none => true)) &&
 (os.zip dss).all (fun (o, ds) => ds.all fun e => Nat.blt e n && waits o e) && os.zipIdx.all (fun (o, k) => Nat.blt k n || (noSel o && backOk o k && (List.range k).all fun j => (ms.getD k 0).testBit j))
def gChk (sel : Oper → Bool) (N n : Nat) (l0 : Frm) (os : List Oper) (dss : List (List Nat)) : Bool := gChkM sel N n l0 os dss (masks os [])
theorem gChk_sound {sel : Oper → Bool} {N n : Nat} {l0 : Frm} {os : List Oper} {hs : List GOp} (h : gChk sel N n l0 os (hs.map (·.deps)) = true) (hsel : ∀ (i : Nat) (o : Oper), i < n → os[i]? = some o → sel o = true → GSel os hs i o) : GChk N os hs n l0 := by
 simp only [gChk, gChkM, Bool.and_eq_true] at h
 obtain ⟨⟨⟨⟨h1, h2⟩, h3⟩, h4⟩, h5⟩ := h;have hle : n ≤ os.length := Nat.le_of_ble_eq_true h2
 have hh : ∀ (i : Nat) (o : Oper), i < n → os[i]? = some o → GSel os hs i o ∧ backOk o i = true ∧ ∀ d, o.dst = some d → look l0 d = none ∧ d < N ∧ ∀ (j : Nat) (o' : Oper) (d' : Nat), j < n → os[j]? = some o' → o'.dst = some d' → d = d' → i = j := fun i o hi ho => by
  rw [List.all_eq_true] at h3
  have hm : (o, i) ∈ (os.take n).zipIdx := by
   rw [List.mem_zipIdx_iff_getElem?]; simp [List.getElem?_take, hi, ho]
  have := h3 _ hm
  simp only [Bool.and_eq_true] at this
  obtain ⟨⟨a1, a2⟩, a3⟩ := this;refine ⟨hsel i o hi ho a1, a2, fun d hd => ?_⟩;rw [hd] at a3
  simp only [Bool.and_eq_true, Option.isNone_iff_eq_none] at a3
  obtain ⟨⟨b1, b2⟩, b3⟩ := a3;refine ⟨b1, by simpa [Nat.blt_eq] using b2, fun j o' d' hj ho' hd' he => ?_⟩;rw [List.all_eq_true] at b3
  have hm' : (o', j) ∈ (os.take n).zipIdx := by
   rw [List.mem_zipIdx_iff_getElem?]; simp [List.getElem?_take, hj, ho']
  have := b3 _ hm'
  simp only [hd', Bool.or_eq_true] at this
  rcases this with q | q
  ·exact Nat.eq_of_beq_eq_true q
  ·subst he; rw [show Nat.beq d d = true from Nat.beq_refl d] at q; simp at q
 refine ⟨by simpa using Nat.eq_of_beq_eq_true h1, hle, fun i o hi ho => ?_, fun i j d hi hj hdi hdj => ?_, fun i o g ho hg e he => ?_, fun k o hk ho => ?_⟩
 ·obtain ⟨a, b, c⟩ := hh i o hi ho
  exact ⟨a, b, fun d hd => ⟨(c d hd).1, (c d hd).2.1⟩⟩
 ·obtain ⟨oi, hoi, hdi'⟩ := Option.bind_eq_some_iff.1 hdi
  obtain ⟨oj, hoj, hdj'⟩ := Option.bind_eq_some_iff.1 hdj;obtain ⟨_, _, c⟩ := hh i oi hi hoi;exact (c d hdi').2.2 j oj d hj hoj hdj' rfl
 ·rw [List.all_eq_true] at h4
  have hm : (o, g.deps) ∈ os.zip (hs.map (·.deps)) := by
   rw [List.mem_iff_getElem?];exact ⟨i, by simp [List.getElem?_zip_eq_some, ho, hg]⟩
  have := h4 _ hm
  simp only at this
  rw [List.all_eq_true] at this;have := this e he
  simp only [Bool.and_eq_true] at this
  exact ⟨by simpa [Nat.blt_eq] using this.1, this.2⟩
 ·rw [List.all_eq_true] at h5
  have hm : (o, k) ∈ os.zipIdx := by rw [List.mem_zipIdx_iff_getElem?]; exact ho
  have := h5 _ hm
  simp only [Bool.or_eq_true, Bool.and_eq_true] at this
  rcases this with q | ⟨⟨q1, q2⟩, q3⟩
  ·simp [Nat.blt_eq] at q; omega
  ·rw [List.all_eq_true] at q3
   exact ⟨q1, q2, fun j hj => q3 j (by simp [hj])⟩
theorem fin_runG {Bs : World → Prop} {os0 : List Oper} {hs0 : List GOp} {l0 : Frm} {w0 : World} {listed : Array Bool} {a : Act} {val : Nat → Value} {lo hi : Nat → Nat} {n : Nat} {K : Frm → Prop} {N : Nat} (_hc : GChk N os0 hs0 n l0)
  (H : GSt X Bs os0 hs0 n l0 w0 listed a w val lo hi) (hall : ∀ i, i < n → listed.getD i false = true) : ∀ (hs : List GOp) (os : List Oper) (i : Nat) (vals : List Value) (ivs : List (Nat × Nat)) (l : Frm), vals = (List.range i).map val → hs0.drop i = hs → os0.drop i = os → i + hs.length = n → Ok X l a →
  (∀ iv ∈ ivs, ∃ j, j < i ∧ iv = (lo j, hi j)) → GFin w0.heap.size w K os hs vals ivs l → ∃ l', Ok X l' a ∧ K l'
 | [], os, i, vals, ivs, l, hvals, hhs, hos, hn, hok, _, hF => by
  cases os <;> exact ⟨l, hok, hF⟩
 | h :: hs, [], i, vals, ivs, l, hvals, hhs, hos, hn, hok, _, hF => ⟨l, hok, hF⟩
 | h :: hs, o :: os, i, vals, ivs, l, hvals, hhs, hos, hn, hok, hiv, hF => by
  have hvals' : vals ++ [val i] = (List.range (i + 1)).map val := by rw [hvals, List.range_succ]; simp
  have hh : hs0[i]? = some h := by have := congrArg (·[0]?) hhs; simpa using this
  have ho : os0[i]? = some o := by have := congrArg (·[0]?) hos; simpa using this
  simp only [GFin] at hF
  have hdeps : h.deps.map (vals.getD · undef) = h.deps.map val := List.map_congr_left fun e he => by
   have hin : i < n := by simp at hn; omega
   have hw := (_hc.deps i o h ho hh e he).2;obtain ⟨e', he', hb', hon⟩ := waits_spec hw;have := backOk_spec (_hc.head i o hin ho).2.1 e' he' hb';rw [hvals]
   have hlt : e < i := by omega
   simp [List.getD, hlt]
  rw [hdeps] at hF
  split at hF
  ·rename_i d hd
   have hin : i < n := by simp at hn; omega
   obtain ⟨g1', g2, g3, g4, g5⟩ := H.got i h (hall i hin) hh;have g1 := g1' d (by rw [ho]; exact hd);refine fin_runG _hc H hall hs os (i + 1) _ _ _ hvals' (by rw [← List.drop_drop, hhs]; rfl) (by rw [← List.drop_drop, hos]; rfl) (by simp at hn; omega) ⟨hok.1, hok.2.1, fun t v ht => ?_⟩ ?_ (hF (val i) (lo i) (hi i) g2 g3 g4 g5 fun iv hm => ?_)
   ·simp only [look] at ht
    by_cases q : d = t
    ·subst q; rw [show Nat.beq d d = true from Nat.beq_refl d] at ht; simp only [cond_true, Option.some.injEq] at ht; rw [← ht]; exact g1
    ·rw [beq_ne q] at ht; exact hok.2.2 t v ht
   ·intro iv hm
    split at hm
    ·simp only [List.mem_cons] at hm
     rcases hm with rfl | hm
     ·exact ⟨i, by omega, rfl⟩
     ·obtain ⟨j, hj, e⟩ := hiv iv hm; exact ⟨j, by omega, e⟩
    ·obtain ⟨j, hj, e⟩ := hiv iv hm; exact ⟨j, by omega, e⟩
   ·obtain ⟨j, hj, rfl⟩ := hiv iv hm
    exact H.apart i j (hall i hin) (hall j (by omega)) (by omega)
  ·rename_i hd
   have hin : i < n := by simp at hn; omega
   obtain ⟨g1', g2, g3, g4, g5⟩ := H.got i h (hall i hin) hh;refine fin_runG _hc H hall hs os (i + 1) _ _ _ hvals' (by rw [← List.drop_drop, hhs]; rfl) (by rw [← List.drop_drop, hos]; rfl) (by simp at hn; omega) hok (fun iv hm => ?_) (hF (val i) (lo i) (hi i) g2);obtain ⟨j, hj, e⟩ := hiv iv hm; exact ⟨j, by omega, e⟩
def GSels (os : List Oper) (hs : List GOp) : List Oper → Nat → Nat → Prop
 | o :: os', i, m + 1 => GSel os hs i o ∧ GSels os hs os' (i + 1) m
 | _, _, _ => True
theorem GSels.get {os : List Oper} {hs : List GOp} : ∀ {os' : List Oper} {i m j : Nat} {o : Oper}, GSels os hs os' i m → j < m → os'[j]? = some o → GSel os hs (i + j) o
 | [], _, _, _, _, _, _, ho => by simp at ho
 | _ :: _, _, 0, _, _, _, hj, _ => by omega
 | x :: os', i, m + 1, 0, o, h, _, ho => by simp at ho; subst ho; exact h.1
 | x :: os', i, m + 1, j + 1, o, h, hj, ho => by
  have := GSels.get (m := m) (j := j) h.2 (Nat.lt_of_succ_lt_succ hj) (by simpa using ho);rw [show i + (j + 1) = i + 1 + j by omega]; exact this
theorem GSels.none {os : List Oper} {hs : List GOp} (hall : hs.all (·.on) = true) : ∀ {os' : List Oper} {i m : Nat}, (os'.take m).all noSel = true → GSels os hs os' i m
 | [], _, _, _ => trivial
 | _ :: _, _, 0, _ => trivial
 | o :: os', i, m + 1, h => by
  simp only [List.take_succ_cons, List.all_cons, Bool.and_eq_true] at h
  exact ⟨.inl ⟨h.1, by cases hg : hs[i]? with | none => rfl | some g => exact List.all_eq_true.1 hall g (List.mem_of_getElem? hg)⟩, GSels.none hall h.2⟩
theorem W_anyGT {id : Nat} {os : List Oper} (n : Nat) (dss : List (List Nat)) (Ef : List (World → World → Prop)) (Bs : World → Prop) (hs : List GOp) (hm : X.P.follows .mixedOrders = true) (hchk' : gChk anySel X.N n l os dss = true) (hdss : hs.map (·.deps) = dss) (hsel : GSels os hs os 0 n) (hEf : EfOk Ef Bs) (hst : GStab Ef Bs hs)
  (hBs : Bs w) (hdr : Bs w → Bs w.drew) (hob : GObls X.P Ef Bs os hs l w os hs)
  (htail : ∀ w', Bs w' → w.heap.size ≤ w'.heap.size → GFin w.heap.size w' (fun l' => SG X os.toArray Q (os.drop n) l' w') os hs [] [] l) : W X (.region id os.toArray true) Q l w := fun a ha => by
 have hc := gChk_sound (hs := hs) (by rw [hdss]; exact hchk') fun i o hi ho _ => by have := hsel.get hi ho; rw [Nat.zero_add] at this; exact this
 refine wpIn_region_any hm ?_
 have := head_runG (X := X) (Q := Q) hc hEf hst hob (fun listed a w' val lo hi H hall => by
  obtain ⟨l', hok', hK⟩ := fin_runG (X := X) (w := w') (K := fun l' => SG X os.toArray Q (os.drop n) l' w') hc H hall hs os 0 [] [] l rfl rfl rfl (by simpa using hc.len) H.ok (fun _ h => by simp at h) (htail w' H.bs H.size)
  exact hK a hok') n (Array.replicate os.toArray.size false) a w.drew (fun _ => undef) (fun _ => 0) (fun _ => 0) (by simp; have := hc.le; omega) (by simp)
  (fun i hn hi => by simp [Array.getD_eq_getD_getElem?, hi])
  ⟨ha, hdr hBs, Nat.le_refl _, fun i h hl => by simp only [Array.getD_eq_getD_getElem?] at hl; rw [Array.getElem?_replicate] at hl; split at hl <;> simp at hl,
   fun i j hl => by simp only [Array.getD_eq_getD_getElem?] at hl; rw [Array.getElem?_replicate] at hl; split at hl <;> simp at hl,
   fun i hl => by simp only [Array.getD_eq_getD_getElem?] at hl; rw [Array.getElem?_replicate] at hl; split at hl <;> simp at hl,
   fun i o hl => by simp only [Array.getD_eq_getD_getElem?] at hl; rw [Array.getElem?_replicate] at hl; split at hl <;> simp at hl⟩
 have e : n + (os.length - n) = os.toArray.size := by have := hc.le; simp; omega
 rw [e] at this;exact this
theorem W_anyG {id : Nat} {os : List Oper} (n : Nat) (dss : List (List Nat)) (Ef : List (World → World → Prop)) (Bs : World → Prop) (hs : List GOp) (hm : X.P.follows .mixedOrders = true) (hchk' : gChk anySel X.N n l os dss = true) (hno : (os.take n).all noSel = true) (hon : hs.all (·.on) = true) (hdss : hs.map (·.deps) = dss) (hEf : EfOk Ef Bs) (hst : GStab Ef Bs hs)
  (hBs : Bs w) (hdr : Bs w → Bs w.drew) (hob : GObls X.P Ef Bs os hs l w os hs)
  (htail : ∀ w', Bs w' → w.heap.size ≤ w'.heap.size → GFin w.heap.size w' (fun l' => SG X os.toArray Q (os.drop n) l' w') os hs [] [] l) : W X (.region id os.toArray true) Q l w :=
 W_anyGT n dss Ef Bs hs hm hchk' hdss (GSels.none hon hno) hEf hst hBs hdr hob htail
end
section
variable {P : Program} {Ef : List (World → World → Prop)} {Bs : World → Prop} {os : List Oper} {hs : List GOp} {l l0 : Frm} {w w0 : World}
theorem GObls_cons {o : Oper} {os' : List Oper} {h : GOp} {hs' : List GOp} (h1 : ∀ w, Bs w → w0.heap.size ≤ w.heap.size → GObl P Ef os hs w o h h.deps [] l0) (h2 : GObls P Ef Bs os hs l0 w0 os' hs') : GObls P Ef Bs os hs l0 w0 (o :: os') (h :: hs') := ⟨fun _ => h1, h2⟩
theorem GObls_on {o : Oper} {os' : List Oper} {h : GOp} {hs' : List GOp} (h1 : h.on = true → ∀ w, Bs w → w0.heap.size ≤ w.heap.size → GObl P Ef os hs w o h h.deps [] l0) (h2 : GObls P Ef Bs os hs l0 w0 os' hs') : GObls P Ef Bs os hs l0 w0 (o :: os') (h :: hs') := ⟨h1, h2⟩
theorem GObls_nil {os' : List Oper} : GObls P Ef Bs os hs l0 w0 os' [] := by cases os' <;> trivial
theorem GObl_nil {o : Oper} {g : GOp} {acc : List Value} (h : GEx P o l w (GEff Ef g acc) (fun v w' => g.R acc v w' w.heap.size w'.heap.size)) : GObl P Ef os hs w o g [] acc l := h
theorem GObl_det {o oe : Oper} {g : GOp} {e d : Nat} {es ds : List Nat} {acc : List Value} {v : Value} (hh : hs[e]? = some (gdet ds v)) (ho : os[e]? = some oe) (hd : oe.dst = some d)
  (h : GObl P Ef os hs w o g es (acc ++ [v]) ((d, v) :: l)) : GObl P Ef os hs w o g (e :: es) acc l := by
 simp only [GObl, hh, ho, hd]
 intro vs u lo hi _ he
 simp only [gdet] at he
 subst he; exact h
theorem GObl_frs {o oe : Oper} {g : GOp} {R' : Value → World → Nat → Nat → Prop} {e d : Nat} {es ds : List Nat} {acc : List Value} (hh : hs[e]? = some (gfrs ds R')) (ho : os[e]? = some oe) (hd : oe.dst = some d)
  (h : ∀ v lo hi, hi ≤ w.heap.size → R' v w lo hi → GObl P Ef os hs w o g es (acc ++ [v]) ((d, v) :: l)) : GObl P Ef os hs w o g (e :: es) acc l := by
 simp only [GObl, hh, ho, hd]
 intro vs v lo hi hle he;exact h v lo hi hle he
theorem GFin_det {B : Nat} {K : Frm → Prop} {o : Oper} {os : List Oper} {ds : List Nat} {v : Value} {hs : List GOp} {vals : List Value} {ivs : List (Nat × Nat)} {d : Nat} (hd : o.dst = some d) (h : GFin B w K os hs (vals ++ [v]) ivs ((d, v) :: l)) : GFin B w K (o :: os) (gdet ds v :: hs) vals ivs l := by
 simp only [GFin, hd]
 intro u lo hi e _ _ _ _
 simp only [gdet] at e
 subst e
 simpa [gdet] using h
theorem GFin_frs {B : Nat} {K : Frm → Prop} {o : Oper} {os : List Oper} {ds : List Nat} {R : Value → World → Nat → Nat → Prop} {hs : List GOp} {vals : List Value} {ivs : List (Nat × Nat)} {d : Nat} (hd : o.dst = some d)
  (h : ∀ v lo hi, R v w lo hi → B ≤ lo → lo ≤ hi → hi ≤ w.heap.size → (∀ iv ∈ ivs, hi ≤ iv.1 ∨ iv.2 ≤ lo) → GFin B w K os hs (vals ++ [v]) ((lo, hi) :: ivs) ((d, v) :: l)) : GFin B w K (o :: os) (gfrs ds R :: hs) vals ivs l := by
 simp only [GFin, hd]
 intro v lo hi e h1 h2 h3 h4
 simpa [gfrs] using h v lo hi e h1 h2 h3 h4
theorem GFin_st {B k : Nat} {K : Frm → Prop} {o : Oper} {os : List Oper} {ds : List Nat} {R : List Value → World → Prop} {hs : List GOp} {vals : List Value} {ivs : List (Nat × Nat)} (hd : o.dst = none)
  (h : R (ds.map (vals.getD · undef)) w → ∀ v, GFin B w K os hs (vals ++ [v]) ivs l) : GFin B w K (o :: os) (gst k ds R :: hs) vals ivs l := by
 simp only [GFin, hd]
 intro v lo hi e;exact h e v
theorem GFin_nil {B : Nat} {K : Frm → Prop} {os : List Oper} {vals : List Value} {ivs : List (Nat × Nat)} (h : K l) : GFin B w K os [] vals ivs l := by
 cases os <;> exact h
theorem GEx_q2 {d : Option Nat} {op : Op} {ty : TypeId} {pos : String} {af : Array Edge} {g : Option (Nat × Bool)} {v v' : Value} {ds : List Nat} {acc : List Value} (h : Rq P op ty l w v) (e : v' = v) :
  GEx P { dst := d, op := op, type := ty, pos := pos, after := af, guard := g } l w (GEff Ef (gdet ds v') acc) (fun u w' => (gdet ds v').R acc u w' w.heap.size w'.heap.size) := GEx.of (Ex_q2 (ds := ds) h e)
theorem GEx_call {acc : List Value} {d : Option Nat} {f : FuncId} {args : List Operand} {tys : Array TypeId} {ty : TypeId} {pos : String} {af : Array Edge} {g : Option (Nat × Bool)} {vs : List Value} {v v' : Value} {ds : List Nat} (hargs : evs l args = some vs)
  (hf : ∀ args w, (callFunc f args).run P w = .ok (.enter f args) w) (h : Pure P f vs.toArray w v) (e : v' = v) :
  GEx P { dst := d, op := .call { callee := .value (.func f), args := args.toArray, argTypes := tys }, type := ty, pos := pos, after := af, guard := g } l w (GEff Ef (gdet ds v') acc) (fun u w' => (gdet ds v').R acc u w' w.heap.size w'.heap.size) :=
 GEx.of (Ex_call hargs hf (fn_det2 (ds := ds) h e))
theorem GEx_st {op : Op} {ty : TypeId} {pos : String} {af : Array Edge} {g : Option (Nat × Bool)} {k : Nat} {ds : List Nat} {acc : List Value} {R : List Value → World → Prop} {E : World → World → Prop} {w' : World} (h : RunS P op ty l w w') (hE : Ef[k]? = some E) (he : E w w') (hr : R acc w') :
  GEx P { dst := none, op := op, type := ty, pos := pos, after := af, guard := g } l w (GEff Ef (gst k ds R) acc) (fun u w' => (gst k ds R).R acc u w' w.heap.size w'.heap.size) := fun X a hP ha =>
 .inr (.inl ⟨w', h X a _ hP ha rfl rfl, ⟨(by show (match Ef[k]? with | some E => E w w' | none => False); rw [hE]; exact he), trivial⟩, hr⟩)
theorem run_storeCellsZ {P : Program} {b : Nat} {T : TypeId} {o : Nat} : ∀ (vs : List Value) (i : Nat) (cs : List Value) (w : World), Blk w b cs T → (∀ v ∈ vs, one1 v = true) → o + i + vs.length ≤ cs.length →
  ∃ w', (storeCells ⟨b, o, none⟩ vs i).run P w = .ok () w' ∧ Chg (· = b) w w' ∧ w'.heap.size = w.heap.size ∧ Blk w' b (setAll cs (o + i) vs) T
 | [], i, cs, w, hB, _, _ => ⟨w, by simp [storeCells], Chg.refl _ _, rfl, hB⟩
 | v :: vs, i, cs, w, hB, hone, hle => by
  simp only [List.length_cons] at hle
  have hv := hone v (by simp)
  have hc : w.cell? ⟨b, o + i, none⟩ = some cs[o + i] := by rw [hB.cell]; exact List.getElem?_eq_getElem (by omega)
  obtain ⟨w', h1, h2, hz, h3⟩ := run_storeCellsZ (P := P) (o := o) vs (i + 1) (cs.set (o + i) v) (w.setCell ⟨b, o + i, none⟩ v) hB.setCell (fun u hu => hone u (by simp [hu])) (by simp; omega);refine ⟨w', ?_, (setCell_chg w ⟨b, o + i, none⟩ v).trans h2, hz.trans (by simp [World.setCell]), h3⟩
  have hst : (Go.store ⟨b, o + i, none⟩ v).run P w = .ok () (w.setCell ⟨b, o + i, none⟩ v) := by
   cases v <;> simp [one1] at hv <;> simp [Go.store, Sem.run, hc, hB.frozen]
  unfold storeCells
  simp only [Sem.run_bind, addr_add, hst, Result.andThen, h1]
/-- a store, as it runs -/
theorem runS_store {T T' n : Nat} {x y : Operand} {ty : TypeId} {b o : Nat} {cs vs : List Value} {v : Value} (hB : Blk w b cs T') (hx : ev l x = some (.pointer (some ⟨b, o, none⟩))) (hy : ev l y = some v)
  (hvs : v.cells = vs.toArray) (hone : vs.all one1 = true) (hn : ∀ w, (sizeOf T).run P w = .ok n w) (hl : vs.length = n) (hle : Nat.ble (o + vs.length) cs.length = true) :
  ∃ w', RunS P (.store T x y) ty l w w' ∧ Chg (· = b) w w' ∧ w'.heap.size = w.heap.size ∧ Blk w' b (setAll cs o vs) T' := by
 obtain ⟨w', h1, h2, hsz, h3⟩ := run_storeCellsZ (P := P) (o := o) vs 0 cs w hB (fun u hu => List.all_eq_true.1 hone u hu) (by have := Nat.le_of_ble_eq_true hle; omega);refine ⟨w', ?_, h2, hsz, by simpa using h3⟩;intro X' a op hP ha ho _
 unfold execOp; rw [ho]
 simp [ha.ev hx, ha.ev hy, Instr.storeAt, Instr.sureAddr, storeVar, hn, hvs, hl, Sem.run_bind, Result.andThen, h1]
end
/-! ### stability, by kinds -/
def Stb (Ef : List (World → World → Prop)) (Bs : World → Prop) (h : GOp) (k : Nat) : Prop := ∀ vs u w w' lo hi, Bs w → Eff Ef k w w' → hi ≤ w.heap.size → h.R vs u w lo hi → h.R vs u w' lo hi
def AllSt (Ef : List (World → World → Prop)) (Bs : World → Prop) : List GOp → Prop
 | [] => True
 | h :: hs => (∀ k, (k = 0 ∨ k ≠ h.kind) → Stb Ef Bs h k) ∧ AllSt Ef Bs hs
def kindsOk : List Nat → Bool
 | [] => true
 | k :: ks => (Nat.beq k 0 || !ks.contains k) && kindsOk ks
theorem kindsOk_spec : ∀ (ks : List Nat), kindsOk ks = true → ∀ (i j k : Nat), ks[i]? = some k → ks[j]? = some k → i ≠ j → k = 0
 | [], _, i, j, k, hi, _, _ => by simp at hi
 | a :: ks, h, 0, 0, k, _, _, hne => absurd rfl hne
 | a :: ks, h, 0, j + 1, k, hi, hj, _ => by
  simp only [kindsOk, Bool.and_eq_true, Bool.or_eq_true] at h
  simp at hi; subst hi
  have hm : a ∈ ks := List.mem_of_getElem? (by simpa using hj)
  rcases h.1 with h1 | h1
  ·exact Nat.eq_of_beq_eq_true h1
  ·simp at h1; exact absurd hm h1
 | a :: ks, h, i + 1, 0, k, hi, hj, _ => by
  simp only [kindsOk, Bool.and_eq_true, Bool.or_eq_true] at h
  simp at hj; subst hj
  have hm : a ∈ ks := List.mem_of_getElem? (by simpa using hi)
  rcases h.1 with h1 | h1
  ·exact Nat.eq_of_beq_eq_true h1
  ·simp at h1; exact absurd hm h1
 | a :: ks, h, i + 1, j + 1, k, hi, hj, hne => by
  simp only [kindsOk, Bool.and_eq_true] at h
  exact kindsOk_spec ks h.2 i j k (by simpa using hi) (by simpa using hj) (by omega)
theorem AllSt.get {Ef : List (World → World → Prop)} {Bs : World → Prop} : ∀ {hs : List GOp} {i : Nat} {h : GOp}, AllSt Ef Bs hs → hs[i]? = some h → ∀ k, (k = 0 ∨ k ≠ h.kind) → Stb Ef Bs h k
 | [], i, h, _, hi => by simp at hi
 | g :: hs, 0, h, hs', hi => by simp at hi; subst hi; exact hs'.1
 | g :: hs, i + 1, h, hs', hi => AllSt.get hs'.2 (by simpa using hi)
theorem GStab.of {Ef : List (World → World → Prop)} {Bs : World → Prop} {hs : List GOp} (hk : kindsOk (hs.map (·.kind)) = true) (h : AllSt Ef Bs hs) : GStab Ef Bs hs := fun a g i j ha hg hne val lo hi w w' _ hb he _ hl hr => by
 refine h.get ha g.kind ?_ _ _ _ _ _ _ hb he hl hr
 refine Classical.byContradiction fun hn => ?_
 have h1 : g.kind ≠ 0 := fun e => hn (.inl e)
 have h2 : g.kind = a.kind := Classical.byContradiction fun e => hn (.inr e)
 exact h1 (kindsOk_spec _ hk i j g.kind (by simp [ha, h2]) (by simp [hg]) hne)
theorem AllSt_nil {Ef : List (World → World → Prop)} {Bs : World → Prop} : AllSt Ef Bs [] := trivial
theorem AllSt_det {Ef : List (World → World → Prop)} {Bs : World → Prop} {ds : List Nat} {v : Value} {hs : List GOp} (h : AllSt Ef Bs hs) : AllSt Ef Bs (gdet ds v :: hs) := ⟨fun k _ vs u w w' lo hi _ _ _ hr => hr, h⟩
theorem AllSt_frs {Ef : List (World → World → Prop)} {Bs : World → Prop} {ds : List Nat} {R : Value → World → Nat → Nat → Prop} {hs : List GOp} (hR : ∀ k u w w' lo hi, Bs w → Eff Ef k w w' → hi ≤ w.heap.size → R u w lo hi → R u w' lo hi) (h : AllSt Ef Bs hs) : AllSt Ef Bs (gfrs ds R :: hs) :=
 ⟨fun k _ vs u w w' lo hi hb he hl hr => hR k u w w' lo hi hb he hl hr, h⟩
theorem AllSt_st {Ef : List (World → World → Prop)} {Bs : World → Prop} {j : Nat} {ds : List Nat} {R : List Value → World → Prop} {hs : List GOp} (hR : ∀ k vs w w', (k = 0 ∨ k ≠ j + 1) → Bs w → Eff Ef k w w' → R vs w → R vs w') (h : AllSt Ef Bs hs) : AllSt Ef Bs (gst j ds R :: hs) :=
 ⟨fun k hk vs u w w' lo hi hb he _ hr => hR k vs w w' hk hb he hr, h⟩
/-- one cell of a block is stored into -/
def StE (b o T : Nat) (w w' : World) : Prop := Chg (· = b) w w' ∧ w'.heap.size = w.heap.size ∧ ∃ cs v, Blk w b cs T ∧ Blk w' b (cs.set o v) T
theorem StE.cell {b o o' T : Nat} {w w' : World} {v : Option Value} (h : StE b o T w w') (hne : o' ≠ o) (hc : w.cell? ⟨b, o', none⟩ = v) : w'.cell? ⟨b, o', none⟩ = v := by
 obtain ⟨_, _, cs, u, h1, h2⟩ := h;rw [h2.cell, List.getElem?_set_ne (fun e => hne e.symm), ← h1.cell, hc]
def OsR {α : Type} (B E k : Nat) (enc : α → List Value) (xs : List α) (v : Value) (w : World) (lo hi : Nat) : Prop := OS w v E k enc xs B ∧ (∀ b, v.ownBlock = some b → lo ≤ b ∧ b < hi) ∧ ∃ a n c, v = .slice a n c
def MpR {K V : Type} [DecidableEq K] (key : K → Value) (val : V → Value) (kv : List (K × V)) (v : Value) (w : World) (lo hi : Nat) : Prop := ∃ r, v = .map (some r) ∧ Mp w r key val kv ∧ lo ≤ r ∧ r < hi
theorem Ex_make1 {α : Type} {P : Program} {l : Frm} {w : World} {enc : α → List Value} {B : Nat} {d : Option Nat} {t e n bytes : Nat} {z : Value} {x : Operand} {ty : TypeId} {pos : String} {af : Array Edge} {g : Option (Nat × Bool)} {K : IntKind} {ds : List Nat} (hB : B ≤ w.heap.size) (ht : P.underlying t = some (.slice e)) (hi : (P.info? e).map (fun i => (i.zero, i.size, i.bytes)) = some (some z, 1, bytes)) (hz : z.cells = #[z])
  (hx : ev l x = some (.int K (n : Int))) (hb : bytes * n ≤ 281474976710656) (h63 : n ≤ 9223372036854775807) {x0 : α} (henc : enc x0 = [z]) (hl : ∀ x, (enc x).length = 1) :
  ExH P { dst := d, op := .makeSlice t x x, type := ty, pos := pos, after := af, guard := g } l w (fun u w' => (frs ds (OsR B e 1 enc (List.replicate n x0))).R u w' w.heap.size w'.heap.size) := by
 obtain ⟨i, hi0, hiz, his, hib⟩ : ∃ i, P.info? e = some i ∧ i.zero = some z ∧ i.size = 1 ∧ i.bytes = bytes := by
  cases hx : P.info? e with
  | none => rw [hx] at hi; cases hi
  | some i => rw [hx] at hi; simp only [Option.map_some, Option.some.injEq, Prod.mk.injEq] at hi; exact ⟨i, rfl, hi.1, hi.2.1, hi.2.2⟩
 have hr := run_make (P := P) w t e i z ht hi0 hiz K K n n (by omega) (Int.le_refl _) (by have h := Int.ofNat_le.2 hb; rw [Int.natCast_mul] at h; rw [hib]; exact h) (by omega)
 have hrep : ∀ m : Nat, List.replicate m z = (List.replicate m x0).flatMap enc := fun m => by
  induction m with
  | zero => rfl
  | succ m ih => rw [List.replicate_succ, List.replicate_succ, List.flatMap_cons, henc, ← ih]; rfl
 have hcs : madeCells z.cells (n * 1) = ((List.replicate n x0).flatMap enc).toArray := by
  apply Array.toList_inj.1
  rw [Nat.mul_one, hz, toList_madeCells_one, hrep]
 simp only [Int.toNat_natCast, his, hcs] at hr
 have ho : OS (w.alloc (.cells ((List.replicate n x0).flatMap enc).toArray e)) (.slice (some ⟨w.heap.size, 0, none⟩) n n) e 1 enc (List.replicate n x0) w.heap.size := OS.made hl (by omega) rfl (by simp) h63;refine Ex_run (v := .slice (some ⟨w.heap.size, 0, none⟩) n n) (w' := w.alloc (.cells ((List.replicate n x0).flatMap enc).toArray e)) ?_ (alloc_below _ _) ⟨ho.le hB, fun b hb => ?_, _, _, _, rfl⟩
 ·intro X' a o hP ha ho' hty
  subst hP
  unfold execOp; rw [ho']
  simp [ha.ev hx, hr, Sem.run_bind, Result.andThen]
 ·simp only [Value.ownBlock, Option.some.injEq] at hb
  subst hb; simp
theorem Ex_makeMap {K V : Type} [DecidableEq K] {P : Program} {l : Frm} {w : World} {key : K → Value} {val : V → Value} {d : Option Nat} {t : TypeId} {ty : TypeId} {pos : String} {af : Array Edge} {g : Option (Nat × Bool)} {ds : List Nat} :
  ExH P { dst := d, op := .makeMap t none, type := ty, pos := pos, after := af, guard := g } l w (fun u w' => (frs ds (MpR key val ([] : List (K × V)))).R u w' w.heap.size w'.heap.size) := by
 refine Ex_run (v := .map (some w.heap.size)) (w' := w.alloc (.map #[] 0)) ?_ (alloc_below _ _) ⟨_, rfl, ⟨#[], 0, World.alloc_heap_new w _, rfl⟩, Nat.le_refl _, by simp⟩;intro X' a o hP ha ho' hty
 unfold execOp; rw [ho']
 simp [Instr.makeMap, newObj, Sem.run_bind, Sem.run, Result.andThen]
theorem Blk.inj {w : World} {b : Nat} {cs cs' : List Value} {T T' : TypeId} (h : Blk w b cs T) (h' : Blk w b cs' T') : cs = cs' := by
 have := h.symm.trans h'
 simp at this; exact this.1
theorem GEx_st1 {P : Program} {Ef : List (World → World → Prop)} {l : Frm} {w : World} {T T' : TypeId} {x y : Operand} {ty : TypeId} {pos : String} {af : Array Edge} {g : Option (Nat × Bool)} {k b o : Nat} {cs : List Value} {v : Value} {ds : List Nat} {acc : List Value} {R : List Value → World → Prop}
  (hB : Blk w b cs T') (hx : ev l x = some (.pointer (some ⟨b, o, none⟩))) (hy : ev l y = some v) (ho : one1 v = true) (hn : ∀ w, (sizeOf T).run P w = .ok 1 w) (hlt : Nat.blt o cs.length = true) (hE : Ef[k]? = some (StE b o T')) (hR : ∀ w', Blk w' b (cs.set o v) T' → R acc w') :
  GEx P { dst := none, op := .store T x y, type := ty, pos := pos, after := af, guard := g } l w (GEff Ef (gst k ds R) acc) (fun u w' => (gst k ds R).R acc u w' w.heap.size w'.heap.size) := by
 have hlt' : o < cs.length := by simpa [Nat.blt_eq] using hlt
 obtain ⟨w', h1, h2, h3, h4⟩ := runS_store (P := P) (T := T) (ty := ty) (vs := [v]) hB hx hy (by rw [cells_one ho]) (by simp [ho]) hn rfl (by simp; omega);exact GEx_st h1 hE ⟨h2, h3, _, _, hB, h4⟩ (hR w' h4)
/-! ### values that are made of other operations' values -/
def gfun (deps : List Nat) (F : List Value → Value) : GOp := ⟨0, false, deps, fun vs u _ _ _ => u = F vs, noE, true⟩
def gfrv (deps : List Nat) (R : List Value → Value → World → Nat → Nat → Prop) : GOp := ⟨0, true, deps, R, noE, true⟩
section
variable {P : Program} {Ef : List (World → World → Prop)} {Bs : World → Prop} {os : List Oper} {hs : List GOp} {l : Frm} {w : World}
theorem GObl_fun {o oe : Oper} {g : GOp} {F : List Value → Value} {e d : Nat} {es ds : List Nat} {acc : List Value} (hh : hs[e]? = some (gfun ds F)) (ho : os[e]? = some oe) (hd : oe.dst = some d)
  (h : ∀ vs, GObl P Ef os hs w o g es (acc ++ [F vs]) ((d, F vs) :: l)) : GObl P Ef os hs w o g (e :: es) acc l := by
 simp only [GObl, hh, ho, hd]
 intro vs u lo hi _ he
 simp only [gfun] at he
 subst he; exact h vs
theorem GObl_frv {o oe : Oper} {g : GOp} {R' : List Value → Value → World → Nat → Nat → Prop} {e d : Nat} {es ds : List Nat} {acc : List Value} (hh : hs[e]? = some (gfrv ds R')) (ho : os[e]? = some oe) (hd : oe.dst = some d)
  (h : ∀ vs v lo hi, hi ≤ w.heap.size → R' vs v w lo hi → GObl P Ef os hs w o g es (acc ++ [v]) ((d, v) :: l)) : GObl P Ef os hs w o g (e :: es) acc l := by
 simp only [GObl, hh, ho, hd]
 intro vs v lo hi hle he;exact h vs v lo hi hle he
theorem GFin_fun {B : Nat} {K : Frm → Prop} {o : Oper} {os : List Oper} {ds : List Nat} {F : List Value → Value} {hs : List GOp} {vals : List Value} {ivs : List (Nat × Nat)} {d : Nat} (hd : o.dst = some d)
  (h : ∀ v, v = F (ds.map (vals.getD · undef)) → GFin B w K os hs (vals ++ [v]) ivs ((d, v) :: l)) : GFin B w K (o :: os) (gfun ds F :: hs) vals ivs l := by
 simp only [GFin, hd]
 intro u lo hi e _ _ _ _
 simpa [gfun] using h u e
theorem GFin_frv {B : Nat} {K : Frm → Prop} {o : Oper} {os : List Oper} {ds : List Nat} {R : List Value → Value → World → Nat → Nat → Prop} {hs : List GOp} {vals : List Value} {ivs : List (Nat × Nat)} {d : Nat} (hd : o.dst = some d)
  (h : ∀ v lo hi, R (ds.map (vals.getD · undef)) v w lo hi → B ≤ lo → lo ≤ hi → hi ≤ w.heap.size → (∀ iv ∈ ivs, hi ≤ iv.1 ∨ iv.2 ≤ lo) → GFin B w K os hs (vals ++ [v]) ((lo, hi) :: ivs) ((d, v) :: l)) : GFin B w K (o :: os) (gfrv ds R :: hs) vals ivs l := by
 simp only [GFin, hd]
 intro v lo hi e h1 h2 h3 h4
 simpa [gfrv] using h v lo hi e h1 h2 h3 h4
theorem AllSt_fun {ds : List Nat} {F : List Value → Value} {hs : List GOp} (h : AllSt Ef Bs hs) : AllSt Ef Bs (gfun ds F :: hs) := ⟨fun _ _ _ _ _ _ _ _ _ _ _ hr => hr, h⟩
theorem AllSt_frv {ds : List Nat} {R : List Value → Value → World → Nat → Nat → Prop} {hs : List GOp} (hR : ∀ k vs u w w' lo hi, Bs w → Eff Ef k w w' → hi ≤ w.heap.size → R vs u w lo hi → R vs u w' lo hi) (h : AllSt Ef Bs hs) : AllSt Ef Bs (gfrv ds R :: hs) :=
 ⟨fun k _ vs u w w' lo hi hb he hl hr => hR k vs u w w' lo hi hb he hl hr, h⟩
end
theorem GEx_fun {P : Program} {Ef : List (World → World → Prop)} {l : Frm} {w : World} {d : Option Nat} {op : Op} {ty : TypeId} {pos : String} {af : Array Edge} {g : Option (Nat × Bool)} {v : Value} {ds : List Nat} {acc : List Value} {F : List Value → Value} (h : Rq P op ty l w v) (e : v = F acc) :
  GEx P { dst := d, op := op, type := ty, pos := pos, after := af, guard := g } l w (GEff Ef (gfun ds F) acc) (fun u w' => (gfun ds F).R acc u w' w.heap.size w'.heap.size) := GEx.of (Ex_q2 (ds := ds) h e.symm)
theorem GEx_box {P : Program} {Ef : List (World → World → Prop)} {l : Frm} {w : World} {d : Option Nat} {T : TypeId} {x : Operand} {ty : TypeId} {pos : String} {af : Array Edge} {g : Option (Nat × Bool)} {v : Value} {ds : List Nat} {acc : List Value} (hx : ev l x = some v) (ha : acc.getD 0 undef = v) :
  GEx P { dst := d, op := .box T x, type := ty, pos := pos, after := af, guard := g } l w (GEff Ef (gfrv ds (fun vs => AllocR (vs.getD 0 undef).cells.toList T)) acc) (fun u w' => (gfrv ds (fun vs => AllocR (vs.getD 0 undef).cells.toList T)).R acc u w' w.heap.size w'.heap.size) := by
 subst ha;refine GEx.of (Ex_run (v := .pointer (some ⟨w.heap.size, 0, none⟩)) (w' := w.alloc (.cells (acc.getD 0 undef).cells.toList.toArray T)) ?_ (alloc_below _ _) ⟨_, rfl, alloc_blk _ _ _, Nat.le_refl _, by simp⟩);intro X a o hP ha ho _
 unfold execOp; rw [ho]; simp only [ha.ev hx]
 simp [Instr.box, newVar, newRow, newObj, Sem.run_bind, Sem.run, Result.andThen]
/-! ### operations with guards, where no store comes between: values alone -/
section
variable {P : Program} {Ef : List (World → World → Prop)} {Bs : World → Prop} {os : List Oper} {hs : List GOp} {l : Frm} {w : World}
/-- what another operation yields, where it runs -/
theorem GObl_on {o oe : Oper} {g : GOp} {c : Bool} {v : Value} {e d : Nat} {es ds : List Nat} {acc : List Value} (hh : hs[e]? = some (gop c ds v)) (ho : os[e]? = some oe) (hd : oe.dst = some d) (hc : c = true)
  (h : ∀ u, GObl P Ef os hs w o g es (acc ++ [u]) ((d, v) :: l)) : GObl P Ef os hs w o g (e :: es) acc l := by
 subst hc
 simp only [GObl, hh, ho, hd]
 intro vs u lo hi _ he
 simp only [gop, cond_true] at he
 subst he; exact h _
/-- what another operation yields, if it runs -/
theorem GObl_if {o oe : Oper} {g : GOp} {c : Bool} {v : Value} {e d : Nat} {es ds : List Nat} {acc : List Value} (hh : hs[e]? = some (gop c ds v)) (ho : os[e]? = some oe) (hd : oe.dst = some d)
  (h : ∀ u, GObl P Ef os hs w o g es (acc ++ [u]) ((d, bif c then v else undef) :: l)) : GObl P Ef os hs w o g (e :: es) acc l := by
 simp only [GObl, hh, ho, hd]
 intro vs u lo hi _ he
 simp only [gop] at he
 subst he; exact h _
theorem GEx_on {d : Option Nat} {op : Op} {ty : TypeId} {pos : String} {af : Array Edge} {g : Option (Nat × Bool)} {c : Bool} {v v' : Value} {ds : List Nat} {acc : List Value} (h : Rq P op ty l w v) (hc : c = true) (e : v' = v) :
  GEx P { dst := d, op := op, type := ty, pos := pos, after := af, guard := g } l w (GEff Ef (gop c ds v') acc) (fun u w' => (gop c ds v').R acc u w' w.heap.size w'.heap.size) := by
 subst hc; exact GEx.of (Ex_q2 (ds := ds) h e)
theorem GEx_onCall {acc : List Value} {d : Option Nat} {f : FuncId} {args : List Operand} {tys : Array TypeId} {ty : TypeId} {pos : String} {af : Array Edge} {g : Option (Nat × Bool)} {c : Bool} {vs : List Value} {v v' : Value} {ds : List Nat} (hargs : evs l args = some vs)
  (hf : ∀ args w, (callFunc f args).run P w = .ok (.enter f args) w) (h : Pure P f vs.toArray w v) (hc : c = true) (e : v' = v) :
  GEx P { dst := d, op := .call { callee := .value (.func f), args := args.toArray, argTypes := tys }, type := ty, pos := pos, after := af, guard := g } l w (GEff Ef (gop c ds v') acc) (fun u w' => (gop c ds v').R acc u w' w.heap.size w'.heap.size) := by
 subst hc; exact GEx.of (Ex_call hargs hf (fn_det2 (ds := ds) h e))
theorem GFin_op {B : Nat} {K : Frm → Prop} {o : Oper} {os : List Oper} {c : Bool} {ds : List Nat} {v : Value} {hs : List GOp} {vals : List Value} {ivs : List (Nat × Nat)} {d : Nat} (hd : o.dst = some d) (h : ∀ u, GFin B w K os hs (vals ++ [u]) ivs ((d, bif c then v else undef) :: l)) : GFin B w K (o :: os) (gop c ds v :: hs) vals ivs l := by
 simp only [GFin, hd]
 intro u lo hi e _ _ _ _
 simp only [gop] at e
 subst e
 simpa [gop] using h _
theorem AllSt_op {c : Bool} {ds : List Nat} {v : Value} {hs : List GOp} (h : AllSt Ef Bs hs) : AllSt Ef Bs (gop c ds v :: hs) := ⟨fun _ _ _ _ _ _ _ _ _ _ _ hr => hr, h⟩
/-- 'or', 'and', as they are read: the second operand where the first one does not tell -/
theorem Rq_or {c y : Operand} {ty : TypeId} {b b2 k : Bool} (hc : ev l c = some (.bool b)) (hy : ev l y = some (bif k then .bool b2 else undef)) (hk : b = false → k = true) : Rq P (.pick c (.const (.bool true)) y) ty l w (.bool (b || b2)) :=
 Rq_pick (b := b) hc (fun e => by rw [e]; rfl) fun e => by rw [hy, hk e, e]; rfl
theorem Rq_and {c y : Operand} {ty : TypeId} {b b2 k : Bool} (hc : ev l c = some (.bool b)) (hy : ev l y = some (bif k then .bool b2 else undef)) (hk : b = true → k = true) : Rq P (.pick c y (.const (.bool false))) ty l w (.bool (b && b2)) :=
 Rq_pick (b := b) hc (fun e => by rw [hy, hk e, e]; rfl) fun e => by rw [e]; rfl
theorem on_up {c : Bool} {b : Bool} (h : (c && b) = true) : c = true := by cases c; cases h; rfl
theorem on_eq {c b want : Bool} (hc : c = true) (hb : b = want) : (c && (b == want)) = true := by subst hc hb; cases b <;> rfl
end
theorem GFin_sv {w : World} {l : Frm} {B k : Nat} {K : Frm → Prop} {o : Oper} {os : List Oper} {ds : List Nat} {R : List Value → World → Prop} {E : List Value → World → World → Prop} {hs : List GOp} {vals : List Value} {ivs : List (Nat × Nat)} (hd : o.dst = none)
  (h : R (ds.map (vals.getD · undef)) w → ∀ v, GFin B w K os hs (vals ++ [v]) ivs l) : GFin B w K (o :: os) (gsv k ds R E :: hs) vals ivs l := by
 simp only [GFin, hd]
 intro v lo hi e;exact h e v
/-! ### one old block is stored into, whole -/
def StBE (b T m : Nat) (w w' : World) : Prop := Chg (· = b) w w' ∧ w'.heap.size = w.heap.size ∧ ∃ cs, Blk w' b cs T ∧ cs.length = m
def BsB (b T m : Nat) (w0 w : World) : Prop := Chg (· = b) w0 w ∧ ∃ cs, Blk w b cs T ∧ cs.length = m
theorem stB_ok {b T m : Nat} {w0 : World} : EfOk [StBE b T m] (BsB b T m w0) := fun k w w' hb he => by
 obtain ⟨hc, cs, h1, h2⟩ := hb
 match k, he with
 | 0, he => exact ⟨⟨hc.trans (Chg.of_below _ he), cs, h1.below he, h2⟩, Below.size he⟩
 | 1, he => exact ⟨⟨hc.trans he.1, he.2.2⟩, Nat.le_of_eq he.2.1.symm⟩
 | k + 2, he => exact he.elim
theorem stB_stab {b T m : Nat} {Bs : World → Prop} {us : List Value} : ∀ (k : Nat) (vs : List Value) (w w' : World), (k = 0 ∨ k ≠ 0 + 1) → Bs w → Eff [StBE b T m] k w w' → (fun (_ : List Value) w => Blk w b us T) vs w → (fun (_ : List Value) w => Blk w b us T) vs w' := fun k vs w w' hk _ he h => by
 match k, hk, he with
 | 0, _, he => exact h.below he
 | 1, hk, _ => omega
 | k + 2, _, he => exact he.elim
theorem BsB.of {b T m : Nat} {w : World} {cs : List Value} (h : Blk w b cs T) (hl : cs.length = m) : BsB b T m w w := ⟨Chg.refl _ _, cs, h, hl⟩
theorem BsB.drew {b T m : Nat} {w0 w : World} (h : BsB b T m w0 w) : BsB b T m w0 w.drew := ⟨⟨h.1.os, h.1.tape, h.1.output, h.1.size, h.1.block⟩, h.2⟩
theorem GEx_stB {P : Program} {l : Frm} {w : World} {Tt T m n b : Nat} {x y : Operand} {ty : TypeId} {pos : String} {af : Array Edge} {g : Option (Nat × Bool)} {v : Value} {vs : List Value} {ds : List Nat} {acc : List Value}
  (hB : ∃ cs, Blk w b cs T ∧ cs.length = m) (hx : ev l x = some (.pointer (some ⟨b, 0, none⟩))) (hy : ev l y = some v) (hvs : v.cells = vs.toArray) (hone : vs.all one1 = true) (hn : ∀ w, (sizeOf Tt).run P w = .ok n w) (hl : vs.length = n) (hm : n = m) :
  GEx P { dst := none, op := .store Tt x y, type := ty, pos := pos, after := af, guard := g } l w (GEff [StBE b T m] (gst 0 ds (fun _ w => Blk w b vs T)) acc) (fun u w' => (gst 0 ds (fun _ w => Blk w b vs T)).R acc u w' w.heap.size w'.heap.size) := by
 obtain ⟨cs, hcs, hlen⟩ := hB;obtain ⟨w', h1, h2, h3, h4⟩ := runS_store (P := P) (T := Tt) (ty := ty) hcs hx hy hvs hone hn hl (by simp; omega)
 have hset : setAll cs 0 vs = vs := by
  rw [setAll_eq _ _ _ (by omega)]; simp; omega
 rw [hset] at h4;exact GEx_st h1 rfl ⟨h2, h3, vs, h4, by omega⟩ h4
/-! ### stores into variables that the region itself makes -/
def AllocL (B T m : Nat) (u : Value) (w : World) (lo hi : Nat) : Prop := ∃ b, u = .pointer (some ⟨b, 0, none⟩) ∧ B ≤ b ∧ lo ≤ b ∧ b < hi ∧ ∃ cs, Blk w b cs T ∧ cs.length = m
def StR (T : Nat) (cs : List Value) (vs : List Value) (w : World) : Prop := ∃ b, vs.getD 0 undef = .pointer (some ⟨b, 0, none⟩) ∧ Blk w b cs T
def StV (vs : List Value) (w w' : World) : Prop := ∃ b, vs.getD 0 undef = .pointer (some ⟨b, 0, none⟩) ∧ Chg (· = b) w w'
def FrE (B T m : Nat) (w w' : World) : Prop := Chg (B ≤ ·) w w' ∧ w'.heap.size = w.heap.size ∧ ∀ b, (∃ cs, Blk w b cs T ∧ cs.length = m) → ∃ cs, Blk w' b cs T ∧ cs.length = m
theorem fr_below {B : Nat} {w w' : World} (h : Chg (B ≤ ·) w w') (hB : B ≤ w.heap.size) : Below B w w' := ⟨h.os, h.tape, h.output, h.size, fun k hk => h.block k (Nat.lt_of_lt_of_le hk hB) (Nat.not_le.2 hk)⟩
theorem fr_ok {B T m n : Nat} {w0 : World} (hB : B = w0.heap.size) : EfOk (List.replicate n (FrE B T m)) (Below w0.heap.size w0) := fun k w w' hb he => by
 match k, he with
 | 0, he => exact ⟨btr hb he, Below.size he⟩
 | k + 1, he =>
  have he' : FrE B T m w w' := by
   simp only [Eff] at he
   split at he
   ·rename_i E hE
    rw [List.getElem?_replicate] at hE; split at hE
    ·cases hE; exact he
    ·cases hE
   ·exact he.elim
  subst hB;exact ⟨hb.trans (fr_below he'.1 hb.size), Nat.le_of_eq he'.2.1.symm⟩
/-- the forms of such a region's operations -/
def FrOk (B T m : Nat) (tg : List Nat) (hs : List GOp) (h : GOp) : Prop :=
 (∃ c ds v, h = gop c ds v) ∨ (∃ ds, h = gfrs ds (AllocL B T m)) ∨ ∃ k e es cs, h = gsv k (e :: es) (StR T cs) StV ∧ tg[k]? = some e ∧ ∃ ds', hs[e]? = some (gfrs ds' (AllocL B T m))
def FrAll (B T m : Nat) (tg : List Nat) (hs : List GOp) : List GOp → Prop
 | [] => True
 | h :: t => FrOk B T m tg hs h ∧ FrAll B T m tg hs t
theorem FrAll.get {B T m : Nat} {tg : List Nat} {hs : List GOp} : ∀ {t : List GOp} {i : Nat} {h : GOp}, FrAll B T m tg hs t → t[i]? = some h → FrOk B T m tg hs h
 | [], i, h, _, hi => by simp at hi
 | g :: t, 0, h, hf, hi => by simp at hi; subst hi; exact hf.1
 | g :: t, i + 1, h, hf, hi => FrAll.get hf.2 (by simpa using hi)
theorem fr_stab {B T m n : Nat} {tg : List Nat} {hs : List GOp} {w0 : World} (hk : kindsOk (hs.map (·.kind)) = true) (htg : tg.Nodup) (hall : FrAll B T m tg hs hs) : GStab (List.replicate n (FrE B T m)) (Below w0.heap.size w0) hs := by
 intro h g i j hi hj hne val lo hi' w w' hap _ he hE hle hr
 have hlen : ∀ b, (∃ cs, Blk w b cs T ∧ cs.length = m) → ∃ cs, Blk w' b cs T ∧ cs.length = m := by
  cases hgk : g.kind with
  | zero => rw [hgk] at he; exact fun b ⟨cs, h1, h2⟩ => ⟨cs, h1.below he, h2⟩
  | succ k =>
   rw [hgk] at he
   simp only [Eff] at he
   split at he
   ·rename_i E hE'
    rw [List.getElem?_replicate] at hE'; split at hE'
    ·cases hE'; exact he.2.2
    ·cases hE'
   ·exact he.elim
 rcases hall.get hi with ⟨c, ds, v, rfl⟩ | ⟨ds, rfl⟩ | ⟨k, e, es, cs, rfl, htk, ds', hse⟩
 ·exact hr
 ·obtain ⟨b, h1, h2, h3, h4, h5⟩ := hr
  exact ⟨b, h1, h2, h3, h4, hlen b h5⟩
 ·obtain ⟨b, h1, h2⟩ := hr
  have h1' : val e = .pointer (some ⟨b, 0, none⟩) := h1
  rcases hall.get hj with ⟨c, ds, v, rfl⟩ | ⟨ds, rfl⟩ | ⟨k', e', es', cs', rfl, htk', ds2, hse'⟩
  ·exact ⟨b, h1, h2.below he⟩
  ·exact ⟨b, h1, h2.below he⟩
  ·obtain ⟨b', g1, g2⟩ := hE
   have g1' : val e' = .pointer (some ⟨b', 0, none⟩) := g1
   have hkk : k ≠ k' := fun q => by
    have := kindsOk_spec _ hk i j (k + 1) (by simp [hi, gsv]) (by simp [hj, gsv, q]) hne
    omega
   have hee : e ≠ e' := fun q => hkk (by
    have a1 := (List.getElem?_eq_some_iff.1 htk); have a2 := (List.getElem?_eq_some_iff.1 htk')
    obtain ⟨l1, x1⟩ := a1; obtain ⟨l2, x2⟩ := a2
    exact (List.getElem_inj htg).1 (x1.trans (q.trans x2.symm)))
   obtain ⟨c1, q1, _, q2, q3, _⟩ := hap.1 e (.inl (by simp [gsv])) _ hse;obtain ⟨c2, p1, _, p2, p3, _⟩ := hap.1 e' (.inr (by simp [gsv])) _ hse';rw [h1'] at q1; rw [g1'] at p1;cases q1; cases p1;have := hap.2 e e' (.inl (by simp [gsv])) (.inr (by simp [gsv])) hee;exact ⟨b, h1, h2.chg g2 (by omega)⟩
theorem GEx_stF {P : Program} {l : Frm} {w : World} {Tt T m n : Nat} {x y : Operand} {ty : TypeId} {pos : String} {af : Array Edge} {g : Option (Nat × Bool)} {k e B lo hi N : Nat} {u v : Value} {vs : List Value} {es : List Nat} {acc : List Value}
  (hA : AllocL B T m u w lo hi) (hx : ev l x = some u) (hy : ev l y = some v) (hvs : v.cells = vs.toArray) (hone : vs.all one1 = true) (hn : ∀ w, (sizeOf Tt).run P w = .ok n w) (hl : vs.length = n) (hm : n = m) (hacc : acc.getD 0 undef = u) (hk : k < N) :
  GEx P { dst := none, op := .store Tt x y, type := ty, pos := pos, after := af, guard := g } l w (GEff (List.replicate N (FrE B T m)) (gsv k (e :: es) (StR T vs) StV) acc) (fun u w' => (gsv k (e :: es) (StR T vs) StV).R acc u w' w.heap.size w'.heap.size) := by
 obtain ⟨b, rfl, hB, _, _, cs, hcs, hlen⟩ := hA;obtain ⟨w', h1, h2, h3, h4⟩ := runS_store (P := P) (T := Tt) (ty := ty) hcs hx hy hvs hone hn hl (by simp; omega)
 have hset : setAll cs 0 vs = vs := by
  rw [setAll_eq _ _ _ (by omega)]; simp; omega
 rw [hset] at h4
 refine fun X a hP ha => .inr (.inl ⟨w', h1 X a _ hP ha rfl rfl, ⟨?_, b, hacc, h2⟩, b, hacc, h4⟩)
 show Eff _ (k + 1) w w'
 simp only [Eff, List.getElem?_replicate, hk, if_true]
 refine ⟨⟨h2.os, h2.tape, h2.output, h2.size, fun q hq hn => h2.block q hq (fun e => hn (by omega))⟩, h3, fun b' hb' => ?_⟩
 by_cases hbb : b' = b
 ·subst hbb; exact ⟨vs, h4, by omega⟩
 ·obtain ⟨cs', q1, q2⟩ := hb'; exact ⟨cs', q1.chg h2 hbb, q2⟩
theorem GEx_allocL {P : Program} {Ef : List (World → World → Prop)} {l : Frm} {w : World} {d : Option Nat} {T : TypeId} {ty : TypeId} {pos : String} {af : Array Edge} {g : Option (Nat × Bool)} {cs : List Value} {v : Value} {ds : List Nat} {acc : List Value} {B : Nat} (hB : B ≤ w.heap.size)
  (h : ExH P { dst := d, op := .alloc T, type := ty, pos := pos, after := af, guard := g } l w (fun u w' => (frs ds (AllocR cs T)).R u w' w.heap.size w'.heap.size)) :
  GEx P { dst := d, op := .alloc T, type := ty, pos := pos, after := af, guard := g } l w (GEff Ef (gfrs ds (AllocL B T cs.length)) acc) (fun u w' => (gfrs ds (AllocL B T cs.length)).R acc u w' w.heap.size w'.heap.size) :=
 GEx.of fun X a hP ha => by
  rcases h X a hP ha with ⟨v, w', h1, h2, b, h3, h4, h5, h6⟩ | ⟨f, vs, h1, h2⟩
  ·exact .inl ⟨v, w', h1, h2, b, h3, by omega, h5, h6, cs, h4, rfl⟩
  ·exact .inr ⟨f, vs, h1, Calls.mono h2 fun e w' ⟨v, a1, a2, b, h3, h4, h5, h6⟩ => ⟨v, a1, a2, b, h3, by omega, h5, h6, cs, h4, rfl⟩⟩
end Go.Mi
