/- The words of package sweep: rewrites, steps, search, tidy; and their plain laws. No program. -/
import Derived.Test.YtphmoebiobjfhaaGreatSt
set_option linter.all false
namespace Go.Mi
open Go
structure Rw where
 rule : Int
 op : Int
deriving DecidableEq
def encR (x : Rw) : List Value := [.int .u8 x.rule, .int .i64 x.op]
def valR (x : Rw) : Value := .agg (encR x).toArray
def rw0 : Rw := ⟨0, 0⟩
/-- the blocks of a state are different ones -/
theorem dis7 {bs rM B : Nat} {vC vO vR vU vT : Value} (hbs : bs < B) (hrM : B ≤ rM) (hC : ∀ k, vC.ownBlock = some k → k < B ∧ k ≠ bs) (hO : ∀ k, vO.ownBlock = some k → k < B ∧ k ≠ bs) (hR : ∀ k, vR.ownBlock = some k → k < B ∧ k ≠ bs)
  (hCO : ∀ k, vC.ownBlock = some k → vO.ownBlock ≠ some k) (hCR : ∀ k, vC.ownBlock = some k → vR.ownBlock ≠ some k) (hOR : ∀ k, vO.ownBlock = some k → vR.ownBlock ≠ some k)
  (hU : ∀ k, vU.ownBlock = some k → B ≤ k ∧ rM ≠ k) (hT : ∀ k, vT.ownBlock = some k → B ≤ k ∧ rM ≠ k) (hUT : ∀ k, vU.ownBlock = some k → vT.ownBlock ≠ some k) : (ids bs rM vC vO vR vU vT).Pairwise fun a b => ∀ k, a = some k → b ≠ some k := by
 unfold ids
 refine List.pairwise_cons.2 ⟨fun b hb k e e2 => ?_, List.pairwise_cons.2 ⟨fun b hb k e e2 => ?_, List.pairwise_cons.2 ⟨fun b hb k e e2 => ?_, List.pairwise_cons.2 ⟨fun b hb k e e2 => ?_, List.pairwise_cons.2 ⟨fun b hb k e e2 => ?_, List.pairwise_cons.2 ⟨fun b hb k e e2 => ?_, List.pairwise_cons.2 ⟨fun b hb k e e2 => ?_, List.Pairwise.nil⟩⟩⟩⟩⟩⟩⟩
 ·cases e
  simp only [List.mem_cons, List.mem_nil_iff, or_false] at hb
  rcases hb with rfl | rfl | rfl | rfl | rfl | rfl
  ·cases e2; omega
  ·exact (hC _ e2).2 rfl
  ·exact (hO _ e2).2 rfl
  ·exact (hR _ e2).2 rfl
  ·have := hU _ e2; omega
  ·have := hT _ e2; omega
 ·cases e
  simp only [List.mem_cons, List.mem_nil_iff, or_false] at hb
  rcases hb with rfl | rfl | rfl | rfl | rfl
  ·have := hC _ e2; omega
  ·have := hO _ e2; omega
  ·have := hR _ e2; omega
  ·exact (hU _ e2).2 rfl
  ·exact (hT _ e2).2 rfl
 ·simp only [List.mem_cons, List.mem_nil_iff, or_false] at hb
  rcases hb with rfl | rfl | rfl | rfl
  ·exact hCO _ e e2
  ·exact hCR _ e e2
  ·have := hC _ e; have := hU _ e2; omega
  ·have := hC _ e; have := hT _ e2; omega
 ·simp only [List.mem_cons, List.mem_nil_iff, or_false] at hb
  rcases hb with rfl | rfl | rfl
  ·exact hOR _ e e2
  ·have := hO _ e; have := hU _ e2; omega
  ·have := hO _ e; have := hT _ e2; omega
 ·simp only [List.mem_cons, List.mem_nil_iff, or_false] at hb
  rcases hb with rfl | rfl
  ·have := hR _ e; have := hU _ e2; omega
  ·have := hR _ e; have := hT _ e2; omega
 ·simp only [List.mem_cons, List.mem_nil_iff, or_false] at hb
  subst hb;exact hUT _ e e2
 ·simp at hb
theorem Chg.then {S T : Nat → Prop} {a b c : World} (h : Chg S a b) (k : Chg T b c) (hT : ∀ i, i < a.heap.size → T i → S i) : Chg S a c :=
 ⟨k.os.trans h.os, k.tape.trans h.tape, k.output.trans h.output, Nat.le_trans h.size k.size, fun i hi hn => (k.block i (Nat.lt_of_lt_of_le hi h.size) (fun ht => hn (hT i hi ht))).trans (h.block i hi hn)⟩
theorem Marks.cons {w : World} {ms : List Nat} {D : Nat} (h : Marks w ms) (hD : w.heap[D]? = some (.deferred (some []))) (hn : ∀ E ∈ ms, E < D) : Marks w (D :: ms) :=
 ⟨fun E hE => by rcases List.mem_cons.1 hE with rfl | hE; exact hD; exact h.obj E hE, List.nodup_cons.2 ⟨fun hm => Nat.lt_irrefl _ (hn D hm), h.nodup⟩⟩
theorem Marks.lt {w : World} {ms : List Nat} (h : Marks w ms) : ∀ D ∈ ms, D < w.heap.size := fun D hD => (Array.getElem?_eq_some_iff.1 (h.obj D hD)).1
/-! ### the words -/
def atC (C : Co) (r i : Int) : Oc := atR C.ops (truthsR C.ops) (usedR C) (mget (firstR C.ops)) r i
def rulesC (C : Co) (i : Int) : List Int := rulesAt C.ops (truthsR C.ops) (usedR C) (mget (firstR C.ops)) i
def turnI (i t n : Int) : Int := if n = i then t else n
def turnO (i t : Int) (x : Ot) : Ot :=
 { x with a := if 1 ≤ arN x.code then turnI i t x.a else x.a, b := if 2 ≤ arN x.code then turnI i t x.b else x.b, c := if 3 ≤ arN x.code then turnI i t x.c else x.c }
def outC (C : Co) (i : Int) (o : Oc) : Co := if o.st = -1 then ⟨C.ch, C.ops.set i.toNat o.be, C.roots⟩ else ⟨C.ch, C.ops.map (turnO i o.st), C.roots.map (turnI i o.st)⟩
def appR (C : Co) (r : Rw) : Co := outC C r.op (atC C r.rule r.op)
/-- the core after a rewrite, and the error -/
def applyR (C : Co) (r : Rw) : Co × Int := if r.op < 0 ∨ (C.ops.length : Int) ≤ r.op then (C, 7) else if (atC C r.rule r.op).ap = false then (C, 12) else (appR C r, 0)
def nextR (C : Co) : Option Rw := ((List.range C.ops.length).find? fun (i : Nat) => !(rulesC C (i : Int)).isEmpty).map fun (i : Nat) => ⟨(rulesC C (i : Int)).headD 0, (i : Int)⟩
def opsum (x : Ot) : Int := (((opndR x).take (arN x.code)).map (· + 1)).sum
def refsR (C : Co) : Int := (C.ops.map opsum).sum + (C.roots.map (· + 1)).sum
def stepsF : Nat → Co → List Rw × Co
 | 0, C => ([], C)
 | n + 1, C => match nextR C with
  | none => ([], C)
  | some r => (r :: (stepsF n (appR C r)).1, (stepsF n (appR C r)).2)
def stepsR (C : Co) : List Rw × Co := stepsF (refsR C).toNat C
theorem usedR_length (C : Co) : (usedR C).length = C.ops.length := by rw [usedR_eq, show setB = (fun us a => setB us (id a)) from rfl, foldl_setB_length id, usI_length]
def encU (n : Int) : List Value := [.int .u8 n]
def rulesE (C : Co) (op : Int) : Int := if checkR C ≠ 0 then checkR C else if op < 0 ∨ (C.ops.length : Int) ≤ op then 7 else 0
theorem rl_len (p : Int → Bool) (n : Nat) : (rl p n).length ≤ n := by
 unfold rl; exact Nat.le_trans (List.length_filter_le _ _) (by simp)
/-! ### plain laws -/
theorem opnd_lt {nch i : Nat} {x : Ot} (h : isOpB nch i x = true) : (1 ≤ arN x.code → 0 ≤ x.a ∧ x.a < i) ∧ (2 ≤ arN x.code → 0 ≤ x.b ∧ x.b < i) ∧ (3 ≤ arN x.code → 0 ≤ x.c ∧ x.c < i) ∧ (arN x.code < 1 → x.a = 0) ∧ (arN x.code < 2 → x.b = 0) ∧ (arN x.code < 3 → x.c = 0) := by
 obtain ⟨_, h4, h5⟩ := isOpB_spec h;have h3 := arN_le x.code
 generalize arN x.code = k at *
 match k, h3 with
 | 0, _ => simp [opndR] at h5 ⊢; omega
 | 1, _ => simp [opndR] at h4 h5 ⊢; omega
 | 2, _ => simp [opndR] at h4 h5 ⊢; omega
 | 3, _ => simp [opndR] at h4 h5 ⊢; omega
theorem opnd_iff {nch i : Nat} {x : Ot} : isOpB nch i x = true ↔ (1 ≤ x.code ∧ x.code ≤ 17 ∧ isNumB nch x = true) ∧ (1 ≤ arN x.code → 0 ≤ x.a ∧ x.a < i) ∧ (2 ≤ arN x.code → 0 ≤ x.b ∧ x.b < i) ∧ (3 ≤ arN x.code → 0 ≤ x.c ∧ x.c < i) ∧ (arN x.code < 1 → x.a = 0) ∧ (arN x.code < 2 → x.b = 0) ∧ (arN x.code < 3 → x.c = 0) := by
 constructor
 ·intro h; exact ⟨(isOpB_spec h).1, opnd_lt h⟩
 ·rintro ⟨⟨h1, h2, h3⟩, h4, h5, h6, h7, h8, h9⟩
  have hk := arN_le x.code
  unfold isOpB
  simp only [Bool.and_eq_true, Bool.not_eq_true', Bool.or_eq_false_iff, decide_eq_false_iff_not, Int.not_lt]
  refine ⟨⟨⟨h1, h2⟩, by simpa using h3⟩, ?_⟩
  generalize arN x.code = k at *
  match k, hk with
  | 0, _ => simp [withinB, opndR]; omega
  | 1, _ => simp [withinB, opndR]; omega
  | 2, _ => simp [withinB, opndR]; omega
  | 3, _ => simp [withinB, opndR]; omega
theorem opsum_eq (x : Ot) : opsum x = (if 1 ≤ arN x.code then x.a + 1 else 0) + (if 2 ≤ arN x.code then x.b + 1 else 0) + (if 3 ≤ arN x.code then x.c + 1 else 0) := by
 have hk := arN_le x.code
 unfold opsum
 generalize arN x.code = k at *
 match k, hk with
 | 0, _ => simp [opndR]
 | 1, _ => simp [opndR]
 | 2, _ => simp [opndR]
 | 3, _ => simp [opndR]; omega
theorem arN_case {c : Int} (h0 : 1 ≤ c) (h1 : c ≤ 17) : (c ≤ 4 ∧ arN c = 0) ∨ ((c = 5 ∨ c = 6) ∧ arN c = 1) ∨ (7 ≤ c ∧ c ≤ 16 ∧ arN c = 2) ∨ (c = 17 ∧ arN c = 3) := by
 unfold arN; (repeat' split) <;> omega
theorem ops_at {C : Co} (h : checkR C = 0) {i : Int} (h0 : 0 ≤ i) (h1 : i < C.ops.length) : isOpB C.ch.length i.toNat (getO C.ops i) = true := (check_ok h).2.2 _ _ (getO_some h0 h1)
/-! the first one that is like each -/
theorem mget_snoc {K V : Type} [DecidableEq K] (kv : List (K × V)) (k : K) (v : V) (x : K) : mget (kv ++ [(k, v)]) x = (mget kv x).or (if x = k then some v else none) := by
 unfold mget
 rw [List.find?_append, Option.map_or]
 congr 1
 by_cases h : x = k
 ·simp [h]
 ·simp [h, List.find?]
theorem snoc_ind {α : Type} {p : List α → Prop} (h0 : p []) (h1 : ∀ l a, p l → p (l ++ [a])) (l : List α) : p l := by
 have : ∀ l : List α, p l.reverse := fun l => by
  induction l with
  | nil => exact h0
  | cons a l ih => rw [List.reverse_cons]; exact h1 _ _ ih
 have h := this l.reverse
 rwa [List.reverse_reverse] at h
theorem firstR_spec : ∀ (l : List Ot) (x : Ot), mget (firstR l) x = if x ∈ l then some ((l.findIdx (fun y => decide (x = y)) : Nat) : Int) else none := fun l => by
 refine snoc_ind (p := fun l => ∀ x : Ot, mget (firstR l) x = if x ∈ l then some ((l.findIdx (fun y => decide (x = y)) : Nat) : Int) else none) ?_ ?_ l
 ·intro x; simp [firstR, mget]
 ·intro l y ih x
  rw [firstR_snoc];have hy := ih y;have hx := ih x
  by_cases hm : y ∈ l
  ·rw [if_pos hm] at hy
   rw [if_pos (by simp [hy]), hx]
   by_cases hxl : x ∈ l
   ·rw [if_pos hxl, if_pos (by simp [hxl])]
    congr 2
    rw [List.findIdx_append, if_pos (List.findIdx_lt_length_of_exists (p := fun y => decide (x = y)) ⟨x, hxl, by simp⟩)]
   ·have : ¬ x = y := fun e => hxl (e ▸ hm)
    rw [if_neg hxl, if_neg (by simp [hxl, this])]
  ·rw [if_neg hm] at hy
   rw [if_neg (by simp [hy]), mget_snoc, hx]
   by_cases hxl : x ∈ l
   ·rw [if_pos hxl, if_pos (show x ∈ l ++ [y] by simp [hxl])]
    show some _ = some _
    congr 2
    rw [List.findIdx_append, if_pos (List.findIdx_lt_length_of_exists (p := fun y => decide (x = y)) ⟨x, hxl, by simp⟩)]
   ·rw [if_neg hxl]
    by_cases e : x = y
    ·subst e
     rw [if_pos rfl, if_pos (by simp)]
     simp only [Option.none_or]
     congr 1
     rw [List.findIdx_append, if_neg]
     ·simp
     ·simp only [Nat.not_lt]
      refine Nat.le_of_not_lt fun hlt => hxl ?_
      have := List.findIdx_getElem (w := hlt)
      simp only [decide_eq_true_eq] at this
      rw [this]; exact List.getElem_mem _
    ·rw [if_neg e, if_neg (by simp [hxl, e])]; rfl
theorem first_le {l : List Ot} {i : Int} (h0 : 0 ≤ i) (h1 : i < l.length) : ∃ j : Nat, mget (firstR l) (getO l i) = some (j : Int) ∧ (j : Int) ≤ i ∧ getO l j = getO l i := by
 have hi := getO_some h0 h1;have hm : getO l i ∈ l := List.mem_of_getElem? hi
 have hex : ∃ x, x ∈ l ∧ decide (getO l i = x) = true := ⟨_, hm, by simp⟩
 have hlt := List.findIdx_lt_length_of_exists (p := fun y => decide (getO l i = y)) hex;refine ⟨_, by rw [firstR_spec, if_pos hm], ?_, ?_⟩
 ·refine Int.not_lt.1 fun hc => ?_
  have := List.not_of_lt_findIdx (p := fun y => decide (getO l i = y)) (xs := l) (i := i.toNat) (by omega);rw [(List.getElem?_eq_some_iff.1 hi).2] at this
  simp at this
 ·have := List.findIdx_getElem (p := fun y => decide (getO l i = y)) (xs := l) (w := hlt)
  simp only [decide_eq_true_eq] at this
  have e : ∀ (k : Nat) (hk : k < l.length), getO l (k : Int) = l[k] := fun k hk => by
   rw [getO, List.getD_eq_getElem?_getD]; simp [hk]
  rw [e _ hlt]; exact this.symm
/-! what a rule does is right -/
theorem used_spec {C : Co} (hck : checkR C = 0) {i : Int} (h0 : 0 ≤ i) (h : getB (usedR C) i = true) : (∃ x ∈ C.ops, i ∈ (opndR x).take (arN x.code)) ∨ i ∈ C.roots := by
 have hset : ∀ (us : List Bool) (j : Int), 0 ≤ j → getB (setB us j) i = true → getB us i = true ∨ i = j := fun us j hj hs => by
  unfold getB setB at *
  rw [List.getD_eq_getElem?_getD, List.getElem?_set] at hs
  by_cases e : j.toNat = i.toNat
  ·right; omega
  ·rw [if_neg e] at hs; left; rw [List.getD_eq_getElem?_getD]; exact hs
 have hfold : ∀ (l : List Int) (us : List Bool), (∀ j ∈ l, 0 ≤ j) → getB (l.foldl setB us) i = true → getB us i = true ∨ i ∈ l := fun l => by
  induction l with
  | nil => intro us _ hs; exact .inl hs
  | cons j l ih =>
   intro us hl hs
   rcases ih _ (fun k hk => hl k (List.mem_cons_of_mem _ hk)) hs with h | h
   ·rcases hset us j (hl j (List.mem_cons_self ..)) h with h | h
    ·exact .inl h
    ·exact .inr (by simp [h])
   ·exact .inr (List.mem_cons_of_mem _ h)
 obtain ⟨_, hr, ho⟩ := check_ok hck
 have hpos : ∀ x ∈ C.ops, ∀ j ∈ (opndR x).take (arN x.code), 0 ≤ j := fun x hx j hj => by
  obtain ⟨k, hk⟩ := List.getElem?_of_mem hx;exact ((isOpB_spec (ho k x hk)).2.1 j hj).1
 have hops : ∀ (l : List Ot) (us : List Bool), (∀ x ∈ l, x ∈ C.ops) → getB (l.foldl usedOp us) i = true → getB us i = true ∨ ∃ x ∈ l, i ∈ (opndR x).take (arN x.code) := fun l => by
  induction l with
  | nil => intro us _ hs; exact .inl hs
  | cons x l ih =>
   intro us hl hs
   rcases ih _ (fun y hy => hl y (List.mem_cons_of_mem _ hy)) hs with h | ⟨y, hy, h⟩
   ·rcases hfold _ us (hpos x (hl x (List.mem_cons_self ..))) h with h | h
    ·exact .inl h
    ·exact .inr ⟨x, List.mem_cons_self .., h⟩
   ·exact .inr ⟨y, List.mem_cons_of_mem _ hy, h⟩
 rcases hfold _ _ (fun j hj => (hr j hj).1) h with h | h
 ·rcases hops _ _ (fun _ h => h) h with h | h
  ·exfalso
   unfold getB at h
   rw [List.getD_eq_getElem?_getD, List.getElem?_replicate] at h
   split at h <;> simp at h
  ·exact .inl h
 ·exact .inr h
theorem opsum_nonneg {nch i : Nat} {x : Ot} (h : isOpB nch i x = true) : 0 ≤ opsum x := by
 obtain ⟨h1, h2, h3, _⟩ := opnd_lt h;rw [opsum_eq]
 (repeat' split) <;> omega
theorem opsum_pos {nch i : Nat} {x : Ot} (h : isOpB nch i x = true) (hc : 5 ≤ x.code) : 0 < opsum x := by
 obtain ⟨h1, h2, h3, _⟩ := opnd_lt h;obtain ⟨⟨c1, c2, _⟩, _⟩ := isOpB_spec h;have := arN_case c1 c2;rw [opsum_eq]
 (repeat' split) <;> omega
/-- what a rule may do at an operation i -/
def Fit (nch : Nat) (ops : List Ot) (i : Int) (o : Oc) : Prop := o.ap = true → (o.st = -1 ∧ isOpB nch i.toNat o.be = true ∧ opsum o.be < opsum (getO ops i)) ∨ (0 ≤ o.st ∧ o.st < i)
theorem Fit.oc0 {nch : Nat} {ops : List Ot} {i : Int} : Fit nch ops i oc0 := fun h => by cases h
theorem Fit.stand {nch : Nat} {ops : List Ot} {i n : Int} (h0 : 0 ≤ n) (h1 : n < i) : Fit nch ops i (stand n) := fun _ => .inr ⟨h0, h1⟩
theorem Fit.become {nch : Nat} {ops : List Ot} {i : Int} {x : Ot} (h0 : isOpB nch i.toNat x = true) (h1 : opsum x < opsum (getO ops i)) : Fit nch ops i (becomeO x) := fun _ => .inl ⟨rfl, h0, h1⟩
theorem con_ok {nch i : Nat} {n : Int} (h : -9999 ≤ n ∧ n ≤ 9999) : isOpB nch i ⟨1, 0, 0, 0, n⟩ = true := by
 rw [opnd_iff]; simp [arN, isNumB, within1]; omega
theorem flt_ok {nch i : Nat} {n : Int} (h : 1 ≤ n ∧ n ≤ 4) : isOpB nch i ⟨2, 0, 0, 0, n⟩ = true := by
 rw [opnd_iff]; simp [arN, isNumB, within1]; omega
theorem opsum_con (c n : Int) (h : c ≤ 4) : opsum ⟨c, 0, 0, 0, n⟩ = 0 := by simp [opsum, arN, h]
/-! cells of operations are cells -/
theorem cell_mkV (n : Int) : isCellB (mkV n) = true := by unfold mkV isCellB; split <;> simp_all
theorem cell_truthV (b : Bool) : isCellB (truthV b) = true := by cases b <;> simp [truthV, isCellB]
theorem cell_soloR (c n : Int) : isCellB (soloR c n) = true := by unfold soloR; split; exact cell_mkV _; exact cell_truthV _
theorem cell_duoR (c a b : Int) : isCellB (duoR c a b) = true := by
 unfold duoR
 split; exact cell_mkV _
 split; exact cell_mkV _
 split; exact cell_mkV _
 split; (split; rfl; exact cell_mkV _)
 split; (split; rfl; exact cell_mkV _)
 split; exact cell_truthV _
 split; exact cell_truthV _
 exact cell_truthV _
theorem areCells_spec {l : List Vl} (h : areCellsB l = true) : ∀ v ∈ l, isCellB v = true := fun v hv => by
 simp only [areCellsB, Bool.not_eq_true', List.any_eq_false] at h
 have := h v hv
 simpa using this
theorem cell_op1R {c : Int} {a : Vl} : isCellB (op1R c a).1 = true := by
 unfold op1R; split; rfl
 rename_i h
 split
 ·simpa using fun e => h (.inr e)
 ·exact cell_soloR _ _
theorem cell_chooseR {a b c : Vl} : isCellB (chooseR a b c).1 = true := by
 unfold chooseR; split; rfl
 rename_i h
 have h' := areCells_spec (by simpa using h)
 split
 ·exact h' _ (by simp)
 ·split
  ·exact h' _ (by simp)
  ·exact h' _ (by simp)
theorem cell_op2R {c : Int} {a b : Vl} : isCellB (op2R c a b).1 = true := by
 unfold op2R
 split; exact cell_chooseR
 split; exact cell_chooseR
 split; rfl
 rename_i h
 have h' := areCells_spec (l := [a, b]) (by simpa using fun e => h (.inr e))
 split
 ·exact h' _ (by simp)
 ·split
  ·exact h' _ (by simp)
  ·exact cell_duoR _ _ _
theorem isCell_spec {v : Vl} (h : isCellB v = true) (hf : 0 ≤ v.f) : (v.f = 0 ∧ -9999 ≤ v.n ∧ v.n ≤ 9999) ∨ (1 ≤ v.f ∧ v.f ≤ 4 ∧ v.n = 0) := by
 unfold isCellB at h
 split at h <;> simp at h <;> omega
theorem fit_fin {nch : Nat} {ops : List Ot} {i : Int} {v : Vl} (h : isCellB v = true) (hf : 0 ≤ v.f) (hp : 0 < opsum (getO ops i)) : Fit nch ops i (finR v) := by
 unfold finR
 rcases isCell_spec h hf with h | h
 ·rw [if_neg (by omega)]
  exact .become (con_ok h.2) (by rw [opsum_con _ _ (by omega)]; exact hp)
 ·rw [if_pos (by omega)]
  exact .become (flt_ok ⟨h.1, h.2.1⟩) (by rw [opsum_con _ _ (by omega)]; exact hp)
theorem fit_rule {C : Co} (hck : checkR C = 0) {r i : Int} (h0 : 0 ≤ i) (h1 : i < C.ops.length) : Fit C.ch.length C.ops i (ruleR C.ops (truthsR C.ops) (mget (firstR C.ops)) r i) := by
 obtain ⟨x, hx⟩ : ∃ x, getO C.ops i = x := ⟨_, rfl⟩
 have hop := ops_at hck h0 h1;rw [hx] at hop;obtain ⟨⟨c1, c2, c3⟩, ha, hb, hc, _⟩ := opnd_iff.1 hop;have hcase := arN_case c1 c2
 have hti : (i.toNat : Int) = i := by omega
 rw [hti] at ha hb hc
 have hpos : 5 ≤ x.code → 0 < opsum (getO C.ops i) := fun h => by rw [hx]; exact opsum_pos hop h
 have ha' : 5 ≤ x.code → 0 ≤ x.a ∧ x.a < i := fun h => ha (by omega)
 have hb' : 7 ≤ x.code → 0 ≤ x.b ∧ x.b < i := fun h => hb (by omega)
 have hc' : x.code = 17 → 0 ≤ x.c ∧ x.c < i := fun h => hc (by omega)
 have hcell : ∀ j : Int, 0 ≤ j → j < i → 0 ≤ (cellR (getO C.ops j)).1.f ∧ (cellR (getO C.ops j)).1.f ≤ 4 := fun j hj hji => cellR_f (check_wf hck j hj (by omega)).f
 unfold ruleR
 rw [hx]
 split
 ·unfold workR
  split; exact .oc0
  split; exact .oc0
  have hA := hcell x.a (ha' (by omega)).1 (ha' (by omega)).2
  split
  ·split; exact .oc0
   rename_i h _ _ hne _
   have hc7 : 7 ≤ x.code := by
    refine Int.not_lt.1 fun hlt => hne ?_
    have h56 : x.code = 5 ∨ x.code = 6 := by omega
    unfold op1R
    rw [if_neg]
    ·split <;> rfl
    ·have hcl : isCellB (cellR (getO C.ops x.a)).1 = true := by
      have hopa := ops_at hck (ha' (by omega)).1 (show x.a < C.ops.length by have := ha' (by omega); omega)
      unfold cellR
      split
      ·exact cell_mkV _
      ·split
       ·rename_i h2
        have := (check_wf hck x.a (ha' (by omega)).1 (by have := ha' (by omega); omega)).f h2
        simp [isCellB]; omega
       ·rfl
     rw [hcl]
     rcases h56 with e | e <;> simp [isSolo, e]
   have hB := hcell x.b (hb' hc7).1 (hb' hc7).2;exact fit_fin cell_op2R (op2R_f hA hB).1 (hpos (by omega))
  ·exact fit_fin cell_op1R (op1R_f hA).1 (hpos (by omega))
 split
 ·unfold faultR; split; exact .oc0
  have := ha' (by omega);exact .stand this.1 this.2
 have hkn : ∀ code, (knownR C.ops x code).2 ≠ false → x.code = code := fun code h => by
  unfold knownR at h
  split at h
  ·exact (h rfl).elim
  ·omega
 split
 ·unfold pickR; split; exact .oc0
  rename_i hk
  have := hkn _ hk
  split
  ·have := hb' (by omega); exact .stand this.1 this.2
  ·have := hc' (by omega); exact .stand this.1 this.2
 split
 ·unfold andR; split; exact .oc0
  rename_i hk
  have := hkn _ hk
  split
  ·have := hb' (by omega); exact .stand this.1 this.2
  ·have := ha' (by omega); exact .stand this.1 this.2
 split
 ·unfold orR; split; exact .oc0
  rename_i hk
  have := hkn _ hk
  split
  ·exact .become (con_ok (by omega)) (by rw [opsum_con _ _ (by omega)]; exact hpos (by omega))
  ·have := hb' (by omega); exact .stand this.1 this.2
 have hunit : ∀ u, 7 ≤ x.code → Fit C.ch.length C.ops i (unit1 C.ops x u) := fun u h7 => by
  unfold unit1
  split
  ·have := ha' (by omega); exact .stand this.1 this.2
  ·split
   ·have := hb' h7; exact .stand this.1 this.2
   ·exact .oc0
 split
 ·unfold unitR; split
  ·exact hunit _ (by omega)
  ·split
   ·exact hunit _ (by omega)
   ·exact .oc0
 split
 ·unfold twiceR; split; exact .oc0
  rename_i hn
  split; exact .oc0
  have hxa := ha' (by omega);have hopa := ops_at hck hxa.1 (show x.a < C.ops.length by omega)
  have hy := (opnd_lt hopa).1 (by
   have hc0 : (getO C.ops x.a).code = x.code := by omega
   rw [hc0]; omega)
  exact .stand hy.1 (by omega)
 split
 ·unfold truthR; split
  ·have := ha' (by omega); exact .stand this.1 this.2
  ·exact .oc0
 split
 ·unfold turnR; split
  ·rename_i h
   have h17 := h.1;have hA := ha' (by omega); have hB := hb' (by omega); have hC := hc' (by omega);refine .become ?_ ?_
   ·rw [opnd_iff]; simp [arN, isNumB]; omega
   ·rw [hx, opsum_eq, opsum_eq]
    simp [arN, h17]; omega
  ·exact .oc0
 split
 ·unfold selfR; split
  ·have := ha' (by omega); exact .stand this.1 this.2
  ·exact .oc0
 ·unfold sameR
  obtain ⟨j, hj, hji, _⟩ := first_le h0 h1;rw [hx] at hj;rw [hj]; simp only [Option.getD_some]
  split
  ·exact .stand (by omega) (by omega)
  ·exact .oc0
theorem at_ok {C : Co} (hck : checkR C = 0) {r i : Int} (h0 : 0 ≤ i) (h1 : i < C.ops.length) (h : (atC C r i).ap = true) :
  getB (usedR C) i = true ∧ (((atC C r i).st = -1 ∧ isOpB C.ch.length i.toNat (atC C r i).be = true ∧ opsum (atC C r i).be < opsum (getO C.ops i)) ∨ (0 ≤ (atC C r i).st ∧ (atC C r i).st < i)) := by
 unfold atC atR at *
 split at h
 ·cases h
 ·rename_i hn
  rw [if_neg hn];exact ⟨by simpa using fun e => hn (.inl e), fit_rule hck h0 h1 h⟩
/-! a core after a rewrite is a core -/
theorem check_parts {C : Co} (h : checkR C = 0) : C.ch.any noCh = false := by
 unfold checkR at h
 split at h
 ·cases h
 ·split at h
  ·cases h
  ·rename_i h2; simpa using h2
theorem check_mk {C : Co} (h1 : C.ch.length ≤ 6 ∧ C.ops.length ≤ 3000 ∧ C.roots.length ≤ 3000) (h2 : C.ch.any noCh = false) (h3 : ∀ n ∈ C.roots, 0 ≤ n ∧ n < C.ops.length) (h4 : ∀ (j : Nat) (x : Ot), C.ops[j]? = some x → isOpB C.ch.length j x = true) : checkR C = 0 := by
 unfold checkR
 rw [if_neg (by omega), if_neg (by simp [h2]), if_neg, if_pos (opsB_iff.2 h4)]
 simp only [withinB, Bool.not_eq_false', List.any_eq_true, Bool.or_eq_true, decide_eq_true_eq, not_exists, not_and]
 intro n hn;have := h3 n hn; omega
theorem turnI_lt {i t n : Int} {m : Int} (h0 : 0 ≤ t) (h1 : t < i) (hn : 0 ≤ n ∧ n < m) : 0 ≤ turnI i t n ∧ turnI i t n < m := by unfold turnI; split <;> omega
theorem turnI_le {i t n : Int} (h1 : t < i) : turnI i t n ≤ n ∧ (n = i → turnI i t n < n) := by unfold turnI; split <;> omega
theorem turnO_ok {nch j : Nat} {i t : Int} {x : Ot} (h0 : 0 ≤ t) (h1 : t < i) (h : isOpB nch j x = true) : isOpB nch j (turnO i t x) = true := by
 rw [opnd_iff] at h ⊢;obtain ⟨⟨c1, c2, c3⟩, ha, hb, hc, ha', hb', hc'⟩ := h;refine ⟨⟨c1, c2, ?_⟩, ?_, ?_, ?_, ?_, ?_, ?_⟩
 ·exact c3
 ·intro hk; simp only [turnO] at hk ⊢; rw [if_pos hk]; exact turnI_lt h0 h1 (ha hk)
 ·intro hk; simp only [turnO] at hk ⊢; rw [if_pos hk]; exact turnI_lt h0 h1 (hb hk)
 ·intro hk; simp only [turnO] at hk ⊢; rw [if_pos hk]; exact turnI_lt h0 h1 (hc hk)
 ·intro hk; simp only [turnO] at hk ⊢; rw [if_neg (by omega)]; exact ha' hk
 ·intro hk; simp only [turnO] at hk ⊢; rw [if_neg (by omega)]; exact hb' hk
 ·intro hk; simp only [turnO] at hk ⊢; rw [if_neg (by omega)]; exact hc' hk
theorem out_check {C : Co} (hck : checkR C = 0) {i : Int} {o : Oc} (h0 : 0 ≤ i) (ho : (o.st = -1 ∧ isOpB C.ch.length i.toNat o.be = true) ∨ (0 ≤ o.st ∧ o.st < i)) : checkR (outC C i o) = 0 := by
 obtain ⟨hl, hr, hops⟩ := check_ok hck;have hpar := check_parts hck
 unfold outC
 rcases ho with ⟨e, hb⟩ | ⟨h2, h3⟩
 ·rw [if_pos e]
  refine check_mk (by simpa using hl) hpar (by simpa using hr) fun j x hj => ?_
  simp only [List.getElem?_set] at hj
  split at hj
  ·rename_i e; subst e
   split at hj
   ·cases hj; exact hb
   ·cases hj
  ·exact hops j x hj
 ·rw [if_neg (by omega)]
  refine check_mk (by simpa using hl) hpar ?_ fun j x hj => ?_
  ·intro n hn
   obtain ⟨m, hm, rfl⟩ := List.mem_map.1 hn
   simp only [List.length_map]
   exact turnI_lt h2 h3 (hr m hm)
  ·simp only [List.getElem?_map, Option.map_eq_some_iff] at hj
   obtain ⟨y, hy, rfl⟩ := hj;exact turnO_ok h2 h3 (hops j y hy)
theorem app_check {C : Co} (hck : checkR C = 0) {r : Rw} (h0 : 0 ≤ r.op) (h1 : r.op < C.ops.length) (h : (atC C r.rule r.op).ap = true) : checkR (appR C r) = 0 := by
 refine out_check hck h0 ?_
 rcases (at_ok hck h0 h1 h).2 with h | h
 ·exact .inl ⟨h.1, h.2.1⟩
 ·exact .inr h
theorem outC_len (C : Co) (i : Int) (o : Oc) : (outC C i o).ops.length = C.ops.length ∧ (outC C i o).roots.length = C.roots.length ∧ (outC C i o).ch = C.ch := by
 unfold outC; split <;> simp
/-! each rewrite leaves less -/
theorem sum_nonneg {l : List Int} (h : ∀ n ∈ l, 0 ≤ n) : 0 ≤ l.sum := by
 induction l with
 | nil => simp
 | cons a l ih => have := h a (by simp); have := ih fun n hn => h n (by simp [hn]); simp; omega
theorem sum_set {α : Type} (f : α → Int) : ∀ (l : List α) (i : Nat) (x y : α), l[i]? = some x → ((l.set i y).map f).sum = (l.map f).sum - f x + f y
 | a :: l, 0, x, y, h => by simp at h; subst h; simp; omega
 | a :: l, i + 1, x, y, h => by
  have := sum_set f l i x y (by simpa using h)
  simp only [List.set_cons_succ, List.map_cons, List.sum_cons, this]; omega
theorem sum_le {α : Type} (f g : α → Int) (l : List α) (h : ∀ x ∈ l, g x ≤ f x) : (l.map g).sum ≤ (l.map f).sum := by
 induction l with
 | nil => simp
 | cons a l ih => have := h a (by simp); have := ih fun n hn => h n (by simp [hn]); simp; omega
theorem sum_lt {α : Type} (f g : α → Int) (l : List α) (h : ∀ x ∈ l, g x ≤ f x) (hx : ∃ x ∈ l, g x < f x) : (l.map g).sum < (l.map f).sum := by
 induction l with
 | nil => obtain ⟨x, hx, _⟩ := hx; simp at hx
 | cons a l ih =>
  have h1 := h a (by simp);obtain ⟨x, hx, hlt⟩ := hx
  simp only [List.map_cons, List.sum_cons]
  rcases List.mem_cons.1 hx with rfl | hx
  ·have := sum_le f g l fun n hn => h n (by simp [hn]); omega
  ·have := ih (fun n hn => h n (by simp [hn])) ⟨x, hx, hlt⟩; omega
theorem turnO_le {i t : Int} {x : Ot} (h1 : t < i) : opsum (turnO i t x) ≤ opsum x ∧ (i ∈ (opndR x).take (arN x.code) → opsum (turnO i t x) < opsum x) := by
 have ha := turnI_le (n := x.a) h1; have hb := turnI_le (n := x.b) h1; have hc := turnI_le (n := x.c) h1;have h3 := arN_le x.code;have e : (turnO i t x).code = x.code := rfl;rw [opsum_eq, opsum_eq, e]
 have e1 : (turnO i t x).a = if 1 ≤ arN x.code then turnI i t x.a else x.a := rfl
 have e2 : (turnO i t x).b = if 2 ≤ arN x.code then turnI i t x.b else x.b := rfl
 have e3 : (turnO i t x).c = if 3 ≤ arN x.code then turnI i t x.c else x.c := rfl
 rw [e1, e2, e3];clear e e1 e2 e3
 revert h3
 generalize arN x.code = k
 intro h3
 match k, h3 with
 | 0, _ => simp
 | 1, _ => simp [opndR]; omega
 | 2, _ => simp [opndR]; omega
 | 3, _ => simp [opndR]; omega
theorem refs_nonneg {C : Co} (hck : checkR C = 0) : 0 ≤ refsR C := by
 obtain ⟨_, hr, hops⟩ := check_ok hck
 have h1 : 0 ≤ (C.ops.map opsum).sum := sum_nonneg fun n hn => by
  obtain ⟨x, hx, rfl⟩ := List.mem_map.1 hn;obtain ⟨k, hk⟩ := List.getElem?_of_mem hx;exact opsum_nonneg (hops k x hk)
 have h2 : 0 ≤ (C.roots.map (· + 1)).sum := sum_nonneg fun n hn => by
  obtain ⟨x, hx, rfl⟩ := List.mem_map.1 hn;have := hr x hx; omega
 unfold refsR; omega
theorem app_less {C : Co} (hck : checkR C = 0) {r : Rw} (h0 : 0 ≤ r.op) (h1 : r.op < C.ops.length) (h : (atC C r.rule r.op).ap = true) : refsR (appR C r) < refsR C := by
 obtain ⟨hu, ho⟩ := at_ok hck h0 h1 h
 unfold appR outC refsR
 rcases ho with ⟨e, hb, hlt⟩ | ⟨h2, h3⟩
 ·rw [if_pos e]
  dsimp only
  rw [sum_set opsum _ _ _ _ (getO_some h0 h1)]; omega
 ·rw [if_neg (by omega)]
  dsimp only
  rw [List.map_map, List.map_map]
  have hle1 := sum_le opsum (opsum ∘ turnO r.op (atC C r.rule r.op).st) C.ops fun x _ => (turnO_le h3).1
  have hle2 := sum_le (· + 1) ((· + 1) ∘ turnI r.op (atC C r.rule r.op).st) C.roots fun x _ => by have := (turnI_le (n := x) h3).1; dsimp only [Function.comp]; omega
  rcases used_spec hck h0 hu with ⟨x, hx, hm⟩ | hm
  ·have := sum_lt opsum (opsum ∘ turnO r.op (atC C r.rule r.op).st) C.ops (fun x _ => (turnO_le h3).1) ⟨x, hx, (turnO_le h3).2 hm⟩
   omega
  ·have := sum_lt (· + 1) ((· + 1) ∘ turnI r.op (atC C r.rule r.op).st) C.roots (fun x _ => by have := (turnI_le (n := x) h3).1; dsimp only [Function.comp]; omega) ⟨_, hm, by have := (turnI_le (n := r.op) h3).2 rfl; dsimp only [Function.comp]; omega⟩
   omega
theorem refs_bound {C : Co} (hck : checkR C = 0) : refsR C ≤ 50000000 := by
 obtain ⟨⟨_, hl, hl'⟩, hr, hops⟩ := check_ok hck
 have hsum : ∀ (l : List Int) (m : Int), (∀ n ∈ l, n ≤ m) → l.sum ≤ m * l.length := fun l m => by
  induction l with
  | nil => intro _; simp
  | cons a l ih => intro h; have h1 := h a (by simp); have h2 := ih fun n hn => h n (by simp [hn]); simp only [List.sum_cons, List.length_cons]; rw [show ((l.length + 1 : Nat) : Int) = l.length + 1 by omega, Int.mul_add]; omega
 have h1 := hsum (C.ops.map opsum) 9003 (fun n hn => by
  obtain ⟨x, hx, rfl⟩ := List.mem_map.1 hn;obtain ⟨k, hk⟩ := List.getElem?_of_mem hx;have hlt := (List.getElem?_eq_some_iff.1 hk).1;obtain ⟨h1, h2, h3, _⟩ := opnd_lt (hops k x hk)
  rw [opsum_eq]; (repeat' split) <;> omega)
 have h2 := hsum (C.roots.map (· + 1)) 3001 (fun n hn => by
  obtain ⟨x, hx, rfl⟩ := List.mem_map.1 hn
  have := hr x hx; omega)
 rw [List.length_map] at h1 h2
 unfold refsR
 omega
/-! steps -/
theorem mem_rl {p : Int → Bool} {n : Nat} {r : Int} (h : r ∈ rl p n) : p r = true ∧ 1 ≤ r ∧ r ≤ n := by
 simp only [rl, List.mem_filter, List.mem_map, List.mem_range] at h
 obtain ⟨⟨k, hk, rfl⟩, hp⟩ := h;exact ⟨hp, by omega, by omega⟩
theorem next_at {C : Co} {i : Nat} {r : Int} {post : List Int} (hi : i < C.ops.length) (hno : ∀ j : Nat, j < i → rulesC C j = []) (h : rulesC C i = r :: post) : nextR C = some ⟨r, i⟩ := by
 unfold nextR
 have : (List.range C.ops.length).find? (fun (i : Nat) => !(rulesC C (i : Int)).isEmpty) = some i := by
  rw [List.find?_range_eq_some];exact ⟨by simp [h], by simpa using hi, fun j hj => by simp [hno j hj]⟩
 rw [this]; simp [h]
theorem next_no {C : Co} (hno : ∀ j : Nat, j < C.ops.length → rulesC C j = []) : nextR C = none := by
 unfold nextR
 rw [List.find?_eq_none.2 (fun j hj => by simp [hno j (by simpa using hj)])]; rfl
theorem next_some {C : Co} {r : Rw} (h : nextR C = some r) : 0 ≤ r.op ∧ r.op < C.ops.length ∧ (atC C r.rule r.op).ap = true := by
 unfold nextR at h
 simp only [Option.map_eq_some_iff] at h
 obtain ⟨i, hi, rfl⟩ := h;have hm := List.mem_of_find?_eq_some hi;have hp := List.find?_some hi
 simp only [List.mem_range] at hm
 dsimp only
 refine ⟨by omega, by omega, ?_⟩
 cases hl : rulesC C i with
 | nil => simp [hl] at hp
 | cons a l =>
  have : a ∈ rulesC C i := by rw [hl]; simp
  exact (mem_rl this).1
theorem steps_none {C : Co} (h : nextR C = none) : ∀ n, stepsF n C = ([], C)
 | 0 => rfl
 | n + 1 => by simp [stepsF, h]
theorem stepsF_eq : ∀ (n m : Nat) (C : Co), checkR C = 0 → refsR C ≤ n → refsR C ≤ m → stepsF n C = stepsF m C
 | 0, m, C, hck, hn, _ => by
  have h0 := refs_nonneg hck
  cases h : nextR C with
  | none => rw [steps_none h, steps_none h]
  | some r =>
   obtain ⟨a, b, c⟩ := next_some h;have := app_less hck a b c;have := refs_nonneg (app_check hck a b c)
   omega
 | n + 1, 0, C, hck, hn, hm => (stepsF_eq 0 (n + 1) C hck hm hn).symm
 | n + 1, m + 1, C, hck, hn, hm => by
  cases h : nextR C with
  | none => rw [steps_none h, steps_none h]
  | some r =>
   obtain ⟨a, b, c⟩ := next_some h;have h1 := app_less hck a b c;have h2 := app_check hck a b c
   simp only [stepsF, h]
   rw [stepsF_eq n m _ h2 (by omega) (by omega)]
theorem steps_some {C : Co} (hck : checkR C = 0) {r : Rw} (h : nextR C = some r) : stepsR C = (r :: (stepsR (appR C r)).1, (stepsR (appR C r)).2) := by
 obtain ⟨a, b, c⟩ := next_some h;have h1 := app_less hck a b c;have h2 := app_check hck a b c;have h3 := refs_nonneg h2
 unfold stepsR
 rw [show (refsR C).toNat = ((refsR C).toNat - 1) + 1 by omega]
 simp only [stepsF, h]
 rw [stepsF_eq ((refsR C).toNat - 1) (refsR (appR C r)).toNat _ h2 (by omega) (by omega)]
theorem steps_len {C : Co} (hck : checkR C = 0) : ((stepsR C).1.length : Int) ≤ refsR C ∧ checkR (stepsR C).2 = 0 := by
 have : ∀ (n : Nat) (C : Co), checkR C = 0 → ((stepsF n C).1.length : Int) ≤ refsR C ∧ checkR (stepsF n C).2 = 0 := fun n => by
  induction n with
  | zero => intro C h; have := refs_nonneg h; simp [stepsF, h, this]
  | succ n ih =>
   intro C hck
   cases h : nextR C with
   | none => rw [steps_none h]; have := refs_nonneg hck; simp [hck, this]
   | some r =>
    obtain ⟨a, b, c⟩ := next_some h;have h1 := app_less hck a b c;have h2 := ih _ (app_check hck a b c)
    simp only [stepsF, h, List.length_cons]
    exact ⟨by omega, h2.2⟩
 exact this _ _ hck
/-! ### search, tidy -/
/-- adds an operation and those it depends on, each after its operands (fuel: more than the operation's number) -/
def visitF (ops : List Ot) : Nat → List Int → Int → List Int
 | 0, found, _ => found
 | n + 1, found, i => if i ∈ found then found else ((opndR (getO ops i)).take (arN (getO ops i).code)).foldl (visitF ops n) found ++ [i]
def foundR (C : Co) : List Int := C.roots.foldl (visitF C.ops C.ops.length) []
def at0 (to : Int → Int) (x : Ot) : Ot :=
 { x with a := if 1 ≤ arN x.code then to x.a else x.a, b := if 2 ≤ arN x.code then to x.b else x.b, c := if 3 ≤ arN x.code then to x.c else x.c }
def toR (found : List Int) (n : Int) : Int := if n ∈ found then (found.findIdx (fun m => decide (n = m)) : Nat) else 0
/-- the operations that were found, their operands numbered anew -/
def tidyO (ops : List Ot) (found : List Int) : List Ot := (found.foldl (fun (st : List Int × List Ot) i => (st.1 ++ [i], st.2 ++ [at0 (toR st.1) (getO ops i)])) ([], [])).2
def tidyR (C : Co) : Co := ⟨C.ch, tidyO C.ops (foundR C), C.roots.map (toR (foundR C))⟩
end Go.Mi
