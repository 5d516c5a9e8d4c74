/- What tidy has made so far. No program's text. -/
import Derived.Test.YtphmoebiobjfhaaGreatVi
set_option linter.all false
namespace Go.Mi
open Go Go.RowKit
theorem tidyO_fst (ops : List Ot) : ∀ (l : List Int) (st : List Int × List Ot), (l.foldl (fun (st : List Int × List Ot) i => (st.1 ++ [i], st.2 ++ [at0 (toR st.1) (getO ops i)])) st).1 = st.1 ++ l
 | [], st => by simp
 | i :: l, st => by rw [List.foldl_cons, tidyO_fst ops l]; simp
theorem tidyO_snoc (ops : List Ot) (l : List Int) (i : Int) : tidyO ops (l ++ [i]) = tidyO ops l ++ [at0 (toR l) (getO ops i)] := by
 unfold tidyO
 rw [List.foldl_append, List.foldl_cons, List.foldl_nil, tidyO_fst]; rfl
theorem tidyO_len (ops : List Ot) (l : List Int) : (tidyO ops l).length = l.length :=
 snoc_ind (p := fun l => (tidyO ops l).length = l.length) rfl (fun l i h => by rw [tidyO_snoc]; simp [h]) l
/-- the map from old numbers to new ones -/
def toKV (l : List Int) : List (Int × Int) := l.zipIdx.map fun p => (p.1, (p.2 : Int))
theorem toKV_snoc (l : List Int) (i : Int) : toKV (l ++ [i]) = toKV l ++ [(i, (l.length : Int))] := by
 unfold toKV; rw [List.zipIdx_append, List.map_append]; simp [List.zipIdx]
theorem mget_toKV : ∀ (l : List Int) (n : Int), l.Nodup → mget (toKV l) n = if n ∈ l then some ((l.findIdx (fun m => decide (n = m)) : Nat) : Int) else none := fun l => by
 refine snoc_ind (p := fun l => ∀ n : Int, l.Nodup → mget (toKV l) n = if n ∈ l then some ((l.findIdx (fun m => decide (n = m)) : Nat) : Int) else none) ?_ ?_ l
 ·intro n _; simp [toKV, mget]
 ·intro l i ih n hd
  rw [List.nodup_append] at hd;rw [toKV_snoc, mget_snoc, ih n hd.1]
  by_cases hn : n ∈ l
  ·rw [if_pos hn, if_pos (show n ∈ l ++ [i] by simp [hn])]
   show some _ = some _
   congr 2
   rw [List.findIdx_append, if_pos (List.findIdx_lt_length_of_exists (p := fun m => decide (n = m)) ⟨n, hn, by simp⟩)]
  ·rw [if_neg hn]
   by_cases e : n = i
   ·subst e
    rw [if_pos rfl, if_pos (by simp)]
    show some _ = some _
    congr 1
    rw [List.findIdx_append, if_neg]
    ·simp
    ·simp only [Nat.not_lt]
     refine Nat.le_of_not_lt fun hlt => hn ?_
     have := List.findIdx_getElem (w := hlt)
     simp only [decide_eq_true_eq] at this
     rw [this]; exact List.getElem_mem _
   ·rw [if_neg e, if_neg (by simp [hn, e])]; rfl
theorem mget_toR {l : List Int} (hd : l.Nodup) (n : Int) : (mget (toKV l) n).getD 0 = toR l n := by
 rw [mget_toKV l n hd, toR]
 split <;> rfl
theorem mget_new {l : List Int} {i : Int} (hd : (l ++ [i]).Nodup) : mget (toKV l) i = none := by
 rw [List.nodup_append] at hd;rw [mget_toKV l i hd.1, if_neg];intro h; exact hd.2.2 i h i (by simp) rfl
/-! what is found is found once -/
theorem visitF_nodup {C : Co} (hck : checkR C = 0) : ∀ (f : Nat) (found : List Int) (i : Int), f ≤ C.ops.length → 0 ≤ i → i < f → found.Nodup → (visitF C.ops f found i).Nodup ∧ ∀ x ∈ visitF C.ops f found i, x ∈ found ∨ x ≤ i
 | 0, found, i, _, h0, h1, _ => by omega
 | f + 1, found, i, hf, h0, h1, hd => by
  by_cases h : i ∈ found
  ·rw [visitF_old h]; exact ⟨hd, fun x hx => .inl hx⟩
  ·rw [visitF_new h]
   have hbd := opsOf_bd hck h0 (by omega)
   have hfold : ∀ (l : List Int) (fd : List Int), (∀ n ∈ l, 0 ≤ n ∧ n < i) → fd.Nodup → (l.foldl (visitF C.ops f) fd).Nodup ∧ ∀ x ∈ l.foldl (visitF C.ops f) fd, x ∈ fd ∨ x < i := fun l => by
    induction l with
    | nil => intro fd _ hd; exact ⟨hd, fun x hx => .inl hx⟩
    | cons n l ih =>
     intro fd hl hd;have hn := hl n (by simp);have h1 := visitF_nodup hck f fd n (by omega) hn.1 (by omega) hd;have h2 := ih _ (fun m hm => hl m (by simp [hm])) h1.1;refine ⟨h2.1, fun x hx => ?_⟩
     rcases h2.2 x hx with hx | hx
     ·rcases h1.2 x hx with hx | hx
      ·exact .inl hx
      ·exact .inr (by omega)
     ·exact .inr hx
   obtain ⟨h2, h3⟩ := hfold _ found hbd hd;refine ⟨List.nodup_append.2 ⟨h2, by simp, fun a ha b hb => ?_⟩, fun x hx => ?_⟩
   ·simp only [List.mem_cons, List.mem_nil_iff, or_false] at hb
    subst hb;intro e; subst e
    rcases h3 a ha with h' | h'
    ·exact h h'
    ·omega
   ·rcases List.mem_append.1 hx with hx | hx
    ·rcases h3 x hx with hx | hx
     ·exact .inl hx
     ·exact .inr (by omega)
    ·simp at hx; exact .inr (by omega)
theorem found_nodup {C : Co} (hck : checkR C = 0) : (foundR C).Nodup ∧ ∀ x ∈ foundR C, 0 ≤ x ∧ x < C.ops.length := by
 obtain ⟨_, hr, _⟩ := check_ok hck
 have hnn : ∀ (f : Nat) (found : List Int) (i : Int), f ≤ C.ops.length → 0 ≤ i → i < f → (∀ x ∈ found, 0 ≤ x) → ∀ x ∈ visitF C.ops f found i, 0 ≤ x := fun f => by
  induction f with
  | zero => intro found i _ h0 h1; omega
  | succ f ih =>
   intro found i hf h0 h1 hx
   by_cases h : i ∈ found
   ·rw [visitF_old h]; exact hx
   ·rw [visitF_new h]
    have hbd := opsOf_bd hck h0 (by omega)
    have hfold : ∀ (l : List Int) (fd : List Int), (∀ n ∈ l, 0 ≤ n ∧ n < i) → (∀ x ∈ fd, 0 ≤ x) → ∀ x ∈ l.foldl (visitF C.ops f) fd, 0 ≤ x := fun l => by
     induction l with
     | nil => intro fd _ hd; exact hd
     | cons n l ih2 => intro fd hl hd; have hn := hl n (by simp); exact ih2 _ (fun m hm => hl m (by simp [hm])) (ih fd n (by omega) hn.1 (by omega) hd)
    intro x hx'
    rcases List.mem_append.1 hx' with hx' | hx'
    ·exact hfold _ found hbd hx x hx'
    ·simp at hx'; omega
 have hfold : ∀ (l : List Int) (fd : List Int), (∀ n ∈ l, 0 ≤ n ∧ n < C.ops.length) → fd.Nodup → (∀ x ∈ fd, 0 ≤ x ∧ x < C.ops.length) → (l.foldl (visitF C.ops C.ops.length) fd).Nodup ∧ ∀ x ∈ l.foldl (visitF C.ops C.ops.length) fd, 0 ≤ x ∧ x < C.ops.length := fun l => by
  induction l with
  | nil => intro fd _ h1 h2; exact ⟨h1, h2⟩
  | cons n l ih =>
   intro fd hl h1 h2;have hn := hl n (by simp);have h3 := visitF_nodup hck C.ops.length fd n (Nat.le_refl _) hn.1 hn.2 h1
   refine ih _ (fun m hm => hl m (by simp [hm])) h3.1 fun x hx => ⟨hnn _ fd n (Nat.le_refl _) hn.1 hn.2 (fun x hx => (h2 x hx).1) x hx, ?_⟩
   rcases h3.2 x hx with h | h
   ·exact (h2 x h).2
   ·omega
 exact hfold _ [] hr (by simp) (by simp)
theorem nodup_le : ∀ {n : Nat} {l : List Int}, l.Nodup → (∀ x ∈ l, 0 ≤ x ∧ x < (n : Int)) → l.length ≤ n
 | 0, l, _, hb => by
  cases l with
  | nil => simp
  | cons a l => have := hb a (by simp); omega
 | n + 1, l, hd, hb => by
  have h1 : (l.erase (n : Int)).length ≤ n := nodup_le (hd.erase _) fun x hx => by
   have h2 := hd.mem_erase_iff.1 hx;have := hb x h2.2; have := h2.1; omega
  have h3 := List.length_erase (a := (n : Int)) (l := l)
  split at h3 <;> omega
/-! operands one after another -/
def atK (to : Int → Int) (m : Nat) (x : Ot) : Ot := { x with a := if 1 ≤ m then to x.a else x.a, b := if 2 ≤ m then to x.b else x.b, c := if 3 ≤ m then to x.c else x.c }
theorem atK_zero (to : Int → Int) (x : Ot) : atK to 0 x = x := by simp [atK]
theorem atK_all (to : Int → Int) (x : Ot) : atK to (arN x.code) x = at0 to x := rfl
theorem atK_get (to : Int → Int) (x : Ot) {j : Nat} (hj : j < 3) : (opndR (atK to j x)).getD j 0 = (opndR x).getD j 0 := by
 match j, hj with
 | 0, _ => simp [atK, opndR]
 | 1, _ => simp [atK, opndR]
 | 2, _ => simp [atK, opndR]
theorem atK_set (to : Int → Int) (x : Ot) {j : Nat} (hj : j < 3) : setAll (encO (atK to j x)) (1 + j) [.int .i64 (to ((opndR x).getD j 0))] = encO (atK to (j + 1) x) := by
 match j, hj with
 | 0, _ => simp [atK, opndR, encO, setAll]
 | 1, _ => simp [atK, opndR, encO, setAll]
 | 2, _ => simp [atK, opndR, encO, setAll]
/-! a loop's record -/
def LoopAt (w : World) (l : Nat) : Prop := ∃ r, w.heap[l]? = some (.loop r)
theorem LoopAt.chg {S : Nat → Prop} {w w' : World} {l : Nat} (h : LoopAt w l) (hc : Chg S w w') (hn : ¬ S l) : LoopAt w' l := by
 obtain ⟨r, h⟩ := h; exact ⟨r, chg_get hc h hn⟩
theorem LoopAt.below {w w' : World} {l : Nat} (h : LoopAt w l) (hb : Below w.heap.size w w') : LoopAt w' l := h.chg (S := fun _ => False) (Chg.of_below _ hb) (fun h => h)
theorem LoopAt.lt {w : World} {l : Nat} (h : LoopAt w l) : l < w.heap.size := by obtain ⟨r, h⟩ := h; exact (Array.getElem?_eq_some_iff.1 h).1
theorem SG_makeMap {K V : Type} [DecidableEq K] {X : Cx} {Q : Exit → Act → World → Prop} {l : Frm} {w : World} {ops : Array Oper} {rest : List Oper} {key : K → Value} {val : V → Value} {d : Nat} {t : TypeId} {ty : TypeId} {pos : String} {af : Array Edge} (hd : Nat.blt d X.N = true)
  (k : ∀ w' r, r = w.heap.size → Below w.heap.size w w' → w'.heap.size = r + 1 → Mp w' r key val ([] : List (K × V)) → SG X ops Q rest ((d, .map (some r)) :: l) w') :
  SG X ops Q ({ dst := some d, op := .makeMap t none, type := ty, pos := pos, after := af, guard := none } :: rest) l w := by
 refine SG_val (v := .map (some w.heap.size)) (w' := w.alloc (.map #[] 0)) ?_ hd (k _ _ rfl (alloc_below _ _) (by simp) ⟨#[], 0, World.alloc_heap_new w _, rfl⟩);intro X' a o hP ha ho' hty
 unfold execOp; rw [ho']
 simp [Instr.makeMap, newObj, Sem.run_bind, Sem.run, Result.andThen]
theorem Rq_makeFuncB {P : Program} {l : Frm} {w : World} {ty : TypeId} {fn : Go.Fn} {bnd : List Operand} {vs : List Value} (hx : evs l bnd = some vs) : Rq P (.makeFunc fn bnd.toArray #[]) ty l w (.func fn vs.toArray #[]) := fun w' _ X a o _ ha ho _ => by
 unfold execOp; rw [ho]; simp [ha.evs hx, Instr.makeFunc, Sem.run_bind, Result.andThen]
/-! cores as values -/
def noCo : Co := ⟨[], [], []⟩
structure CoV (lo hi : Nat) (w : World) (v : Value) (C : Co) : Prop where
 ex : ∃ uC uO uR, v = .agg [uC, uO, uR].toArray ∧ (SL w uC 3 encC C.ch ∧ SL w uO 5 encO C.ops ∧ SL w uR 1 encI C.roots) ∧
  (0 < C.ch.length → lo ≤ sb uC ∧ sb uC < hi) ∧ (0 < C.ops.length → lo ≤ sb uO ∧ sb uO < hi) ∧ (0 < C.roots.length → lo ≤ sb uR ∧ sb uR < hi)
theorem CoV.os {lo t1 t2 t3 : Nat} {w : World} {uC uO uR : Value} {C : Co} (h1 : OS w uC t1 3 encC C.ch lo) (h2 : OS w uO t2 5 encO C.ops lo) (h3 : OS w uR t3 1 encI C.roots lo) : CoV lo w.heap.size w (.agg [uC, uO, uR].toArray) C :=
 ⟨_, _, _, rfl, ⟨h1.sl, h2.sl, h3.sl⟩, fun hp => h1.lt (sb_own h1.sl hp), fun hp => h2.lt (sb_own h2.sl hp), fun hp => h3.lt (sb_own h3.sl hp)⟩
theorem CoV.no (lo hi : Nat) (w : World) : CoV lo hi w (.agg [.slice none 0 0, .slice none 0 0, .slice none 0 0].toArray) noCo :=
 ⟨_, _, _, rfl, ⟨SL.nil fun _ => by simp [encC], SL.nil fun _ => by simp [encO], SL.nil fun _ => by simp [encI]⟩, fun h => by simp [noCo] at h, fun h => by simp [noCo] at h, fun h => by simp [noCo] at h⟩
theorem CoV.chg {S : Nat → Prop} {lo hi : Nat} {w w' : World} {v : Value} {C : Co} (h : CoV lo hi w v C) (hc : Chg S w w') (hn : ∀ k, lo ≤ k → k < hi → ¬ S k) : CoV lo hi w' v C := by
 obtain ⟨uC, uO, uR, rfl, ⟨h1, h2, h3⟩, h4, h5, h6⟩ := h.ex;exact ⟨_, _, _, rfl, ⟨h1.chg hc (fun hp => hn _ (h4 hp).1 (h4 hp).2), h2.chg hc (fun hp => hn _ (h5 hp).1 (h5 hp).2), h3.chg hc (fun hp => hn _ (h6 hp).1 (h6 hp).2)⟩, h4, h5, h6⟩
theorem CoV.below {lo hi : Nat} {w w' : World} {v : Value} {C : Co} (h : CoV lo hi w v C) (hb : Below w.heap.size w w') : CoV lo hi w' v C := h.chg (S := fun _ => False) (Chg.of_below _ hb) (fun _ _ _ h => h)
theorem CoV.wide {lo hi lo' hi' : Nat} {w : World} {v : Value} {C : Co} (h : CoV lo hi w v C) (h1 : lo' ≤ lo) (h2 : hi ≤ hi') : CoV lo' hi' w v C := by
 obtain ⟨uC, uO, uR, rfl, hs, h4, h5, h6⟩ := h.ex;exact ⟨_, _, _, rfl, hs, fun hp => ⟨Nat.le_trans h1 (h4 hp).1, Nat.lt_of_lt_of_le (h4 hp).2 h2⟩, fun hp => ⟨Nat.le_trans h1 (h5 hp).1, Nat.lt_of_lt_of_le (h5 hp).2 h2⟩, fun hp => ⟨Nat.le_trans h1 (h6 hp).1, Nat.lt_of_lt_of_le (h6 hp).2 h2⟩⟩
/-- a core whose slices are its owner's, of these types -/
def CoO (EC EO ER lo : Nat) (w : World) (v : Value) (C : Co) : Prop := ∃ uC uO uR, v = .agg [uC, uO, uR].toArray ∧ OS w uC EC 3 encC C.ch lo ∧ OS w uO EO 5 encO C.ops lo ∧ OS w uR ER 1 encI C.roots lo
theorem CoO.cv {EC EO ER lo : Nat} {w : World} {v : Value} {C : Co} (h : CoO EC EO ER lo w v C) : CoV lo w.heap.size w v C := by
 obtain ⟨_, _, _, rfl, h1, h2, h3⟩ := h; exact CoV.os h1 h2 h3
theorem CoO.no {EC EO ER lo : Nat} {w : World} : CoO EC EO ER lo w (.agg [.slice none 0 0, .slice none 0 0, .slice none 0 0].toArray) noCo :=
 ⟨_, _, _, rfl, OS.nil (fun _ => rfl) (by decide), OS.nil (fun _ => rfl) (by decide), OS.nil (fun _ => rfl) (by decide)⟩
/-- a core that can be read -/
structure CoS (w : World) (v : Value) (C : Co) : Prop where
 ex : ∃ uC uO uR, v = .agg [uC, uO, uR].toArray ∧ SL w uC 3 encC C.ch ∧ SL w uO 5 encO C.ops ∧ SL w uR 1 encI C.roots
theorem CoS.below {w w' : World} {v : Value} {C : Co} (h : CoS w v C) (hb : Below w.heap.size w w') : CoS w' v C := by
 obtain ⟨uC, uO, uR, rfl, h1, h2, h3⟩ := h.ex;exact ⟨_, _, _, rfl, h1.below hb, h2.below hb, h3.below hb⟩
theorem CoV.s {lo hi : Nat} {w : World} {v : Value} {C : Co} (h : CoV lo hi w v C) : CoS w v C := by
 obtain ⟨uC, uO, uR, rfl, h1, _⟩ := h.ex;exact ⟨_, _, _, rfl, h1⟩
theorem same_list {α : Type} {xs ys : List α} (hl : xs.length = ys.length) (h : ∀ j : Nat, j < xs.length → xs[j]? = ys[j]?) : xs = ys := by
 apply List.ext_getElem?; intro j
 by_cases hj : j < xs.length
 ·exact h j hj
 ·rw [List.getElem?_eq_none (by omega), List.getElem?_eq_none (by omega)]
theorem same_not {α : Type} {xs ys : List α} {j : Nat} {x y : α} (hx : xs[j]? = some x) (hy : ys[j]? = some y) (hne : x ≠ y) : xs ≠ ys := fun e => by
 subst e; rw [hx] at hy; cases hy; exact hne rfl
def dCh : Ch := ⟨⟨#[100]⟩, 1, 6⟩
def ofR (l : List Ot) : Co := ⟨[dCh], l, [(l.length : Int) - 1]⟩
def replayF (C : Co) (k : Int) : List Rw → Co × Int × Int
 | [] => (C, k, 0)
 | r :: l => if (applyR C r).2 ≠ 0 then (noCo, k, (applyR C r).2) else replayF (applyR C r).1 (k + 1) l
def replayR (C : Co) (l : List Rw) : Co × Int × Int := if checkR C ≠ 0 then (noCo, 0, checkR C) else if 9000 < l.length then (noCo, 0, 5) else replayF C 0 l
structure Rx where
 n : Nat
 C : Co
 rM : Nat
 vU : Value
 vT : Value
theorem applyR_check {C : Co} (hck : checkR C = 0) (r : Rw) : checkR (applyR C r).1 = 0 := by
 unfold applyR
 split
 ·exact hck
 ·split
  ·exact hck
  ·rename_i h1 h2
   exact app_check hck (by omega) (by omega) (by simpa using h2)
theorem replay_step {C C' : Co} {l : List Rw} {n : Nat} {r : Rw} (h : replayR C l = replayF C' n (l.drop n)) (hr : l[n]? = some r) : ((applyR C' r).2 ≠ 0 → replayR C l = (noCo, (n : Int), (applyR C' r).2)) ∧ ((applyR C' r).2 = 0 → replayR C l = replayF (applyR C' r).1 ((n + 1 : Nat) : Int) (l.drop (n + 1))) := by
 have hn := (List.getElem?_eq_some_iff.1 hr).1;rw [List.drop_eq_getElem_cons hn, (List.getElem?_eq_some_iff.1 hr).2] at h;rw [h]
 constructor
 ·intro hne; rw [replayF, if_pos hne]
 ·intro he; rw [replayF, if_neg (by simpa using he)]; rfl
theorem Mp.ne' {K V : Type} [DecidableEq K] {w : World} {r b : Nat} {key : K → Value} {val : V → Value} {kv : List (K × V)} {cs : List Value} {T : TypeId} (h : Mp w r key val kv) (hB : Blk w b cs T) : r ≠ b := fun e => h.ne hB e
end Go.Mi
