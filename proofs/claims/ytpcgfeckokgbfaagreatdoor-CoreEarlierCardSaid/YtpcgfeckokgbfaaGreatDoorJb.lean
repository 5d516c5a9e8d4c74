/- Slices of the call's own: appended to, made, stored into; each as one rule. Over any program. -/
import Derived.Test.YtpcgfeckokgbfaaGreatDoorJa
import Derived.RangeFuncLeaves
import Derived.RangeFuncOwn
import Derived.RangeFuncNested
set_option linter.all false
namespace Go.Mi
open Go Go.RowKit
theorem one1_eq (v : Value) : one1 v = v.oneCell' := by cases v <;> rfl
theorem flat_len {α : Type} {enc : α → List Value} {k : Nat} (hk : ∀ x, (enc x).length = k) (xs : List α) : (xs.flatMap enc).length = xs.length * k := by
  induction xs with
  | nil => simp
  | cons x xs ih => simp only [List.flatMap_cons, List.length_append, ih, hk, List.length_cons, Nat.add_mul]; omega
theorem flat_get {α : Type} {enc : α → List Value} {k : Nat} (hk : ∀ x, (enc x).length = k) : ∀ (xs : List α) (i j : Nat) (x : α), xs[i]? = some x → j < k → (xs.flatMap enc)[i * k + j]? = (enc x)[j]?
  | [], i, j, x, h, _ => by simp at h
  | y :: ys, 0, j, x, h, hj => by
    simp at h; subst h
    simp only [Nat.zero_mul, Nat.zero_add, List.flatMap_cons]
    rw [List.getElem?_append_left (by rw [hk]; exact hj)]
  | y :: ys, i + 1, j, x, h, hj => by
    have := flat_get hk ys i j x (by simpa using h) hj
    simp only [List.flatMap_cons]
    rw [List.getElem?_append_right (by rw [hk, Nat.add_mul]; omega), hk, ← this]
    congr 1; rw [Nat.add_mul]; omega
/-- v is a slice of the call's own (its block lies from lo on) that reads as xs -/
structure OS {α : Type} (w : World) (v : Value) (E k : Nat) (enc : α → List Value) (xs : List α) (lo : Nat) : Prop where
  own : w.ownsRow lo E k v xs.length (xs.flatMap enc)
  len : ∀ x, (enc x).length = k
  pos : 0 < k
section
variable {α : Type} {w w' : World} {v : Value} {E k lo : Nat} {enc : α → List Value} {xs : List α}
theorem OS.nil (hl : ∀ x, (enc x).length = k) (hp : 0 < k) : OS w (.slice none 0 0) E k enc ([] : List α) lo := ⟨by simpa using World.ownsRow_nil w lo E k, hl, hp⟩
theorem OS.sl (h : OS w v E k enc xs lo) : SL w v k enc xs := by
  obtain ⟨hlen, hcase⟩ := h.own
  refine ⟨?_, ?_, fun x => by rw [h.len]; exact h.pos⟩
  · rcases hcase with ⟨e, hn⟩ | ⟨g, cap, cur, e, _, _, hc, _⟩
    · exact .inl ⟨e, List.eq_nil_of_length_eq_zero hn⟩
    · exact .inr ⟨by rw [e]; rfl, by rw [e]; exact hc⟩
  · intro i x hx j hj
    rw [h.len] at hj
    have hi := (List.getElem?_eq_some_iff.1 hx).1
    rcases hcase with ⟨e, hn⟩ | ⟨g, cap, cur, e, _, hg, hc, _, hsz, htk⟩
    · omega
    · have h1 := flat_get h.len xs i j x hx hj
      have hlt : i * k + j < xs.length * k := by
        have : (i + 1) * k ≤ xs.length * k := Nat.mul_le_mul_right k hi
        rw [Nat.add_mul] at this; omega
      rw [e]
      simp only [sb, so, Nat.zero_add]
      rw [← h1, ← htk, List.getElem?_take, if_pos hlt]
      unfold World.cell?; rw [hg]; simp
theorem OS.lt (h : OS w v E k enc xs lo) {b : Nat} (hb : v.ownBlock = some b) : lo ≤ b ∧ b < w.heap.size := h.own.lt b hb
theorem OS.chg {S : Nat → Prop} (h : OS w v E k enc xs lo) (hc : Chg S w w') (hn : ∀ b, v.ownBlock = some b → ¬ S b) : OS w' v E k enc xs lo := by
  refine ⟨⟨h.own.1, ?_⟩, h.len, h.pos⟩
  rcases h.own.2 with hl | ⟨g, cap, cur, e, hlo, hg, r⟩
  · exact .inl hl
  · exact .inr ⟨g, cap, cur, e, hlo, (hc.block g (Array.getElem?_eq_some_iff.1 hg).1 (hn g (by rw [e]; rfl))).trans hg, r⟩
theorem OS.below (h : OS w v E k enc xs lo) (hb : Below w.heap.size w w') : OS w' v E k enc xs lo := h.chg (Chg.of_below (fun _ => False) hb) (fun _ _ h => h)
theorem OS.le {lo' : Nat} (h : OS w v E k enc xs lo) (hl : lo' ≤ lo) : OS w v E k enc xs lo' := by
  refine ⟨⟨h.own.1, ?_⟩, h.len, h.pos⟩
  rcases h.own.2 with hl' | ⟨g, cap, cur, e, hlo, r⟩
  · exact .inl hl'
  · exact .inr ⟨g, cap, cur, e, Nat.le_trans hl hlo, r⟩
/-- in what block a slice lies behind an append: in the one it lay in, or in a new one -/
def SameOrNew (w : World) (v v' : Value) : Prop := ∀ b, v'.ownBlock = some b → v.ownBlock = some b ∨ w.heap.size ≤ b
variable {P : Program}
end
section
variable {α : Type} {X : Cx} {Q : Exit → Act → World → Prop} {l : Frm} {w w' : World} {ops : Array Oper} {rest : List Oper} {v u : Value} {k lo : Nat} {enc : α → List Value} {xs ys : List α}
/-! ### literals of slices -/
theorem fill_block : ∀ (cs : List Value) (A : Array Value) (off j0 : Nat), off + j0 + cs.length ≤ A.size →
    ((cs.zipIdx j0).foldl (fun a (p : Value × Nat) => a.setIfInBounds (off + p.2) p.1) A).toList = A.toList.take (off + j0) ++ cs ++ A.toList.drop (off + j0 + cs.length)
  | [], A, off, j0, _ => by simp
  | c :: cs, A, off, j0, h => by
    simp only [List.length_cons] at h
    simp only [List.zipIdx_cons, List.foldl_cons]
    rw [fill_block cs _ off (j0 + 1) (by simp; omega)]
    simp only [Array.toList_setIfInBounds]
    have hlt : off + j0 < A.toList.length := by simp; omega
    apply List.ext_getElem?
    intro i
    simp only [List.getElem?_append, List.getElem?_take, List.getElem?_drop, List.length_append, List.length_take, List.length_set, List.length_cons, Array.length_toList]
    have e1 : min (off + (j0 + 1)) A.size = off + j0 + 1 := by omega
    have e2 : min (off + j0) A.size = off + j0 := by omega
    rw [e1, e2]
    rcases Nat.lt_trichotomy i (off + j0) with hi | hi | hi
    · rw [if_pos (by omega), if_pos (by omega), if_pos (by omega), if_pos (by omega), if_pos (by omega), if_pos (by omega), List.getElem?_set_ne (by omega)]
    · subst hi
      rw [if_pos (by omega), if_pos (by omega), if_pos (by omega), if_pos (by omega), if_neg (by omega), List.getElem?_set_self hlt]
      simp
    · by_cases hi2 : i < off + j0 + 1 + cs.length
      · rw [if_pos (by omega), if_neg (by omega), if_pos (by omega), if_neg (by omega)]
        have : i - (off + j0) = (i - (off + j0 + 1)) + 1 := by omega
        rw [this]; simp
      · rw [if_neg (by omega), if_neg (by omega)]
        rw [List.getElem?_set_ne (by omega)]
        congr 1; omega
theorem run_fill {k : Nat} : ∀ (vs : List Value) (i : Nat) (A : Array Value), (∀ v ∈ vs, v.cells.size = k) → (i + vs.length) * k ≤ A.size →
    ∃ B : Array Value, Instr.fill (fun j => some (j * k, k)) A ((vs.zipIdx i).map fun p => (p.2, p.1)) = some B ∧ B.toList = A.toList.take (i * k) ++ vs.flatMap (fun v => v.cells.toList) ++ A.toList.drop ((i + vs.length) * k)
  | [], i, A, _, _ => ⟨A, by simp [Instr.fill], by simp⟩
  | v :: vs, i, A, hk, h => by
    have hv := hk v (by simp)
    simp only [List.length_cons] at h
    have hik : i * k + k ≤ A.size := by
      have : (i + 1) * k ≤ (i + (vs.length + 1)) * k := Nat.mul_le_mul_right _ (by omega)
      rw [Nat.add_mul] at this; omega
    have hb := fill_block v.cells.toList A (i * k) 0 (by simp [hv]; omega)
    simp only [Nat.add_zero, Array.length_toList, hv] at hb
    let A' : Array Value := (v.cells.toList.zipIdx 0).foldl (fun a (p : Value × Nat) => a.setIfInBounds (i * k + p.2) p.1) A
    have hA' : A'.toList = A.toList.take (i * k) ++ v.cells.toList ++ A.toList.drop (i * k + k) := hb
    have hsz : A'.size = A.size := by
      have := congrArg List.length hA'
      simp only [Array.length_toList, List.length_append, List.length_take, List.length_drop, hv] at this
      omega
    obtain ⟨B, hB, hBl⟩ := run_fill vs (i + 1) A' (fun u hu => hk u (by simp [hu])) (by rw [hsz, show i + 1 + vs.length = i + (vs.length + 1) by omega]; exact h)
    refine ⟨B, ?_, ?_⟩
    · simp only [List.zipIdx_cons, List.map_cons, Instr.fill, hv]
      have c1 : (k ≠ k || decide (i * k + k > A.size)) = false := by simp; omega
      simp only [ne_eq, not_true_eq_false, decide_false, Bool.false_or, decide_eq_true_eq, show ¬ (i * k + k > A.size) by omega, if_false]
      rw [← hB]
      have e0 : Array.foldl (fun cs (x : Value × Nat) => cs.setIfInBounds (i * k + x.snd) x.fst) A v.cells.zipIdx = A' := by
        rw [← Array.foldl_toList]; simp only [A', Array.toList_zipIdx]
      simp only [Bool.false_eq_true, if_false]
      rw [e0]
    · rw [hBl, hA']
      have e1 : (i + 1) * k = i * k + k := by rw [Nat.add_mul]; omega
      have e2 : (i + 1 + vs.length) * k = (i + (vs.length + 1)) * k := by congr 1; omega
      have e3 : (i + (vs.length + 1)) * k = i * k + k + vs.length * k := by rw [Nat.add_mul, Nat.add_mul]; omega
      have l1 : (A.toList.take (i * k) ++ v.cells.toList).length = i * k + k := by simp [hv]; omega
      rw [e1, List.take_append_of_le_length (by omega), List.take_of_length_le (by omega)]
      simp only [List.flatMap_cons, List.append_assoc, List.length_cons]
      rw [e2, e3]
      rw [show List.drop (i * k + k + vs.length * k) (List.take (i * k) A.toList ++ (v.cells.toList ++ List.drop (i * k + k) A.toList)) = List.drop (i * k + k + vs.length * k) A.toList from ?_]
      rw [← List.append_assoc, List.drop_append, l1]
      rw [List.drop_of_length_le (by rw [l1]; omega), List.nil_append, List.drop_drop]
      congr 1; omega
theorem run_bslice {P : Program} {t e k n : Nat} {z : Value} {vs : List Value} (ht : ∀ w, (underlying t).run P w = .ok (.slice e) w) (hk : ∀ w, (sizeOf e).run P w = .ok k w) (hz : ∀ w, (zeroValue e).run P w = .ok z w)
    (hn : vs.length = n) (hcs : ∀ v ∈ vs, v.cells.size = k) (hle : n * k ≤ 16777216) (w : World) :
    (Instr.buildSlice t n (vs.zipIdx.map fun p => (p.2, p.1)).toArray).run P w = .ok (.slice (some ⟨w.heap.size, 0, none⟩) n n) (w.alloc (.cells (vs.flatMap (fun v => v.cells.toList)).toArray e)) := by
  unfold Instr.buildSlice
  have h24 : ¬ (n * k > 2 ^ 24) := by have : (2 : Nat) ^ 24 = 16777216 := by decide
                                      omega
  have key : ∀ (zc : Array Value), ∃ B : Array Value, Instr.fill (fun j => some (j * k, k)) ((Array.range (n * k)).map (zc[· % zc.size]!)) (vs.zipIdx.map fun p => (p.2, p.1)) = some B ∧ B = (vs.flatMap (fun v => v.cells.toList)).toArray := fun zc => by
    obtain ⟨B, h1, h2⟩ := run_fill (k := k) vs 0 ((Array.range (n * k)).map (zc[· % zc.size]!)) hcs (by simp [hn])
    refine ⟨B, h1, ?_⟩
    apply Array.toList_inj.1
    rw [h2]
    simp [hn]
  have hno : ¬ (0 > 2 ^ 24) := by omega
  by_cases h0 : n * k = 0
  · obtain ⟨B, h1, h2⟩ := key #[]
    rw [h0] at h1
    simp only [Sem.run_bind, ht, hk, Result.andThen, h0, hno, if_false, if_true, Sem.run_pure, h1]
    simp only [newRow, newObj, Sem.run_bind, Sem.run, Result.andThen, h2, Sem.run_pure]
    rfl
  · obtain ⟨B, h1, h2⟩ := key z.cells
    simp only [Sem.run_bind, ht, hk, hz, Result.andThen, h24, h0, if_false, Sem.run_pure, h1]
    simp only [newRow, newObj, Sem.run_bind, Sem.run, Result.andThen, h2, Sem.run_pure]
    rfl
/-- these values are these elements -/
inductive MV {α : Type} (val : α → Value) : List Value → List α → Prop
  | nil : MV val [] []
  | cons {x : α} {vs : List Value} {xs : List α} (h : MV val vs xs) : MV val (val x :: vs) (x :: xs)
theorem MV.length {val : α → Value} {vs : List Value} {xs : List α} (h : MV val vs xs) : vs.length = xs.length := by
  induction h with
  | nil => rfl
  | cons h ih => simp [ih]
theorem MV.size {val : α → Value} (hval : ∀ x, (val x).cells = (enc x).toArray) (hl : ∀ x, (enc x).length = k) {vs : List Value} {xs : List α} (h : MV val vs xs) : ∀ v ∈ vs, v.cells.size = k := by
  induction h with
  | nil => simp
  | cons h ih => intro v hv; simp at hv; rcases hv with rfl | hv; · rw [hval]; simp [hl]
                 · exact ih v hv
theorem OS.made {w : World} {e n : Nat} {cs : List Value} (hl : ∀ x, (enc x).length = k) (hp : 0 < k) (hcs : cs = xs.flatMap enc) (hn : n = xs.length) (hm : n ≤ 9223372036854775807) : OS (w.alloc (.cells cs.toArray e)) (.slice (some ⟨w.heap.size, 0, none⟩) n n) e k enc xs w.heap.size := by
  subst hcs; subst hn
  refine ⟨⟨flat_len hl xs, .inr ⟨w.heap.size, xs.length, _, rfl, Nat.le_refl _, alloc_blk w _ e, Nat.le_refl _, by unfold maxLen; omega, by simp [flat_len hl], ?_⟩⟩, hl, hp⟩
  rw [List.take_of_length_le (by simp [flat_len hl])]
end
end Go.Mi
namespace Go.Mi
open Go
def encI (n : Int) : List Value := [.int .i64 n]
/-- the first place where p holds, or -1 -/
def idx {α : Type} (p : α → Bool) (xs : List α) : Int := if xs.any p then (xs.findIdx p : Int) else -1
/-! ### cells -/
structure Vl where
  f : Int
  n : Int
deriving DecidableEq
def encV (x : Vl) : List Value := [.int .u8 x.f, .int .i64 x.n]
def valV (x : Vl) : Value := .agg (encV x).toArray
def valI (n : Int) : Value := .int .i64 n
def withinB (least most : Int) (xs : List Int) : Bool := !xs.any fun n => decide (n < least) || decide (most < n)
def isCellB (v : Vl) : Bool := if v.f = 0 then decide (-9999 ≤ v.n) && decide (v.n ≤ 9999) else decide (v.f ≤ 4) && decide (v.n = 0)
def areCellsB (l : List Vl) : Bool := !l.any fun v => !isCellB v
def mkV (n : Int) : Vl := if -9999 ≤ n ∧ n ≤ 9999 then ⟨0, n⟩ else ⟨2, 0⟩
def truthV (b : Bool) : Vl := if b then ⟨0, 1⟩ else ⟨0, 0⟩
/-- what Go's rounded-down division gives -/
def quotR (a b : Int) : Int × Int := if a.tmod b ≠ 0 ∧ decide (a.tmod b < 0) ≠ decide (b < 0) then (a.tdiv b - 1, a.tmod b + b) else (a.tdiv b, a.tmod b)
def sign (a b : Int) : Int := if a < b then -1 else if b < a then 1 else 0
def soloR (code n : Int) : Vl := if code = 5 then mkV (-n) else truthV (decide (n = 0))
def duoR (code a b : Int) : Vl :=
  if code = 7 then mkV (a + b) else if code = 8 then mkV (a - b) else if code = 9 then mkV (a * b)
  else if code = 10 then (if b = 0 then ⟨1, 0⟩ else mkV (quotR a b).1) else if code = 11 then (if b = 0 then ⟨1, 0⟩ else mkV (quotR a b).2)
  else if code = 12 then truthV (decide (sign a b = 0)) else if code = 13 then truthV (decide (sign a b < 0)) else truthV (decide (sign a b ≤ 0))
def isSolo (code : Int) : Bool := decide (code = 5) || decide (code = 6)
def isDuo (code : Int) : Bool := decide (7 ≤ code) && decide (code ≤ 14)
def op1R (code : Int) (a : Vl) : Vl × Int := if isSolo code = false ∨ isCellB a = false then (⟨0, 0⟩, 2) else if a.f ≠ 0 then (a, 0) else (soloR code a.n, 0)
def chooseR (a b c : Vl) : Vl × Int := if areCellsB [a, b, c] = false then (⟨0, 0⟩, 2) else if a.f ≠ 0 then (a, 0) else if a.n = 0 then (c, 0) else (b, 0)
def op2R (code : Int) (a b : Vl) : Vl × Int :=
  if code = 15 then chooseR a b (mkV 0) else if code = 16 then chooseR a (mkV 1) b
  else if isDuo code = false ∨ areCellsB [a, b] = false then (⟨0, 0⟩, 2) else if a.f ≠ 0 then (a, 0) else if b.f ≠ 0 then (b, 0) else (duoR code a.n b.n, 0)
/-! ### cores -/
structure Ch where
  name : ByteArray
  lo : Int
  hi : Int
deriving DecidableEq
def encC (x : Ch) : List Value := [.string x.name, .int .i64 x.lo, .int .i64 x.hi]
def valC (x : Ch) : Value := .agg (encC x).toArray
structure Ot where
  code : Int
  a : Int
  b : Int
  c : Int
  n : Int
deriving DecidableEq
def encO (x : Ot) : List Value := [.int .u8 x.code, .int .i64 x.a, .int .i64 x.b, .int .i64 x.c, .int .i64 x.n]
def valO (x : Ot) : Value := .agg (encO x).toArray
structure Co where
  ch : List Ch
  ops : List Ot
  roots : List Int
deriving DecidableEq
def noCh (x : Ch) : Bool := !withinB (-9999) 9999 [x.lo, x.hi] || !withinB 1 12 [x.hi - x.lo + 1]
def arN (code : Int) : Nat := if code ≤ 4 then 0 else if code ≤ 6 then 1 else if code ≤ 16 then 2 else 3
def isNumB (nch : Nat) (x : Ot) : Bool :=
  if x.code = 1 then withinB (-9999) 9999 [x.n] else if x.code = 2 then withinB 1 4 [x.n] else if x.code = 3 then withinB 0 (nch - 1) [x.n] else if x.code = 4 then withinB 0 31 [x.n] else decide (x.n = 0)
def opndR (x : Ot) : List Int := [x.a, x.b, x.c]
def isOpB (nch : Nat) (i : Nat) (x : Ot) : Bool :=
  !(decide (x.code < 1) || decide (17 < x.code) || !isNumB nch x) && (withinB 0 (i - 1) ((opndR x).take (arN x.code)) && withinB 0 0 ((opndR x).drop (arN x.code)))
def opsB (nch : Nat) (l : List Ot) : Bool := l.zipIdx.all fun p => isOpB nch p.2 p.1
def checkR (c : Co) : Int :=
  if 6 < c.ch.length ∨ 3000 < c.ops.length ∨ 3000 < c.roots.length then 5 else if c.ch.any noCh then 3 else if withinB 0 (c.ops.length - 1) c.roots = false then 4
  else if opsB c.ch.length c.ops then 0 else 4
/-! ### a state's rules -/
def encB (b : Bool) : List Value := [.bool b]
def valB (b : Bool) : Value := .bool b
def o0 : Ot := ⟨0, 0, 0, 0, 0⟩
def getO (l : List Ot) (i : Int) : Ot := l.getD i.toNat o0
def getB (l : List Bool) (i : Int) : Bool := l.getD i.toNat false
/-- what is known of an operation of n operations -/
structure Bd (n : Nat) (x : Ot) : Prop where
  a0 : 0 ≤ x.a
  a1 : x.a < n
  b0 : 0 ≤ x.b
  b1 : x.b < n
  c0 : 0 ≤ x.c
  c1 : x.c < n
  f : x.code = 2 → 1 ≤ x.n ∧ x.n ≤ 4
structure Oc where
  ap : Bool
  st : Int
  be : Ot
def encOc (x : Oc) : List Value := [.bool x.ap, .int .i64 x.st, .int .u8 x.be.code, .int .i64 x.be.a, .int .i64 x.be.b, .int .i64 x.be.c, .int .i64 x.be.n]
def valOc (x : Oc) : Value := .agg (encOc x).toArray
def oc0 : Oc := ⟨false, 0, o0⟩
def stand (n : Int) : Oc := ⟨true, n, o0⟩
def becomeO (x : Ot) : Oc := ⟨true, -1, x⟩
def truthB (tr : List Bool) (x : Ot) : Bool :=
  if x.code = 6 ∨ x.code = 12 ∨ x.code = 13 ∨ x.code = 14 ∨ x.code = 2 then true else if x.code = 1 then decide (x.n = 0) || decide (x.n = 1)
  else if x.code = 15 ∨ x.code = 16 then getB tr x.b else if x.code = 17 then getB tr x.b && getB tr x.c else false
def isR (ops : List Ot) (i n : Int) : Bool := decide (getO ops i = ⟨1, 0, 0, 0, n⟩)
def cellR (x : Ot) : Vl × Bool := if x.code = 1 then (mkV x.n, true) else if x.code = 2 then (⟨x.n, 0⟩, true) else (⟨0, 0⟩, false)
def finR (v : Vl) : Oc := if v.f ≠ 0 then becomeO ⟨2, 0, 0, 0, v.f⟩ else becomeO ⟨1, 0, 0, 0, v.n⟩
def workR (ops : List Ot) (x : Ot) : Oc :=
  if x.code < 5 ∨ 16 < x.code then oc0 else if (cellR (getO ops x.a)).2 = false then oc0
  else if (op1R x.code (cellR (getO ops x.a)).1).2 ≠ 0 then
    (if (cellR (getO ops x.b)).2 = false then oc0 else finR (op2R x.code (cellR (getO ops x.a)).1 (cellR (getO ops x.b)).1).1)
  else finR (op1R x.code (cellR (getO ops x.a)).1).1
def faultR (ops : List Ot) (x : Ot) : Oc := if x.code < 7 ∨ (getO ops x.a).code ≠ 2 then oc0 else stand x.a
def knownR (ops : List Ot) (x : Ot) (code : Int) : Bool × Bool := if x.code ≠ code ∨ (getO ops x.a).code ≠ 1 then (false, false) else (!decide ((getO ops x.a).n = 0), true)
def pickR (ops : List Ot) (x : Ot) : Oc := if (knownR ops x 17).2 = false then oc0 else if (knownR ops x 17).1 then stand x.b else stand x.c
def andR (ops : List Ot) (x : Ot) : Oc := if (knownR ops x 15).2 = false then oc0 else if (knownR ops x 15).1 then stand x.b else stand x.a
def orR (ops : List Ot) (x : Ot) : Oc := if (knownR ops x 16).2 = false then oc0 else if (knownR ops x 16).1 then becomeO ⟨1, 0, 0, 0, 1⟩ else stand x.b
def unit1 (ops : List Ot) (x : Ot) (u : Int) : Oc := if isR ops x.b u then stand x.a else if (x.code = 7 ∨ x.code = 9) ∧ isR ops x.a u = true then stand x.b else oc0
def unitR (ops : List Ot) (x : Ot) : Oc := if x.code = 9 ∨ x.code = 10 then unit1 ops x 1 else if x.code = 7 ∨ x.code = 8 then unit1 ops x 0 else oc0
def twiceR (ops : List Ot) (tr : List Bool) (x : Ot) : Oc :=
  if (x.code ≠ 5 ∧ x.code ≠ 6) ∨ (getO ops x.a).code ≠ x.code then oc0 else if x.code = 6 ∧ getB tr (getO ops x.a).a = false then oc0 else stand (getO ops x.a).a
def truthR (ops : List Ot) (tr : List Bool) (x : Ot) : Oc := if x.code = 17 ∧ getB tr x.a = true ∧ isR ops x.b 1 = true ∧ isR ops x.c 0 = true then stand x.a else oc0
def turnR (ops : List Ot) (x : Ot) : Oc := if x.code = 17 ∧ isR ops x.b 0 = true ∧ isR ops x.c 1 = true then becomeO ⟨6, x.a, 0, 0, 0⟩ else oc0
def selfR (tr : List Bool) (x : Ot) : Oc := if x.a = x.b ∧ (x.code = 15 ∨ (x.code = 16 ∧ getB tr x.a = true)) then stand x.a else oc0
def sameR (first : Ot → Option Int) (i : Int) (x : Ot) : Oc := if (first x).getD 0 < i then stand ((first x).getD 0) else oc0
def ruleR (ops : List Ot) (tr : List Bool) (first : Ot → Option Int) (r i : Int) : Oc :=
  if r = 1 then workR ops (getO ops i) else if r = 2 then faultR ops (getO ops i) else if r = 3 then pickR ops (getO ops i) else if r = 4 then andR ops (getO ops i) else if r = 5 then orR ops (getO ops i)
  else if r = 6 then unitR ops (getO ops i) else if r = 7 then twiceR ops tr (getO ops i) else if r = 8 then truthR ops tr (getO ops i) else if r = 9 then turnR ops (getO ops i) else if r = 10 then selfR tr (getO ops i) else sameR first i (getO ops i)
def atR (ops : List Ot) (tr us : List Bool) (first : Ot → Option Int) (r i : Int) : Oc := if getB us i = false ∨ r < 1 ∨ 11 < r then oc0 else ruleR ops tr first r i
end Go.Mi
namespace Go.Mi
open Go Go.RowKit
/-! ### marks -/
def marks (ms : List Nat) : List Deferred := ms.map fun D => { target := .collected D, args := #[] }
structure Marks (w : World) (ms : List Nat) : Prop where
  obj : ∀ D ∈ ms, w.heap[D]? = some (.deferred (some []))
  nodup : ms.Nodup
theorem Marks.nil (w : World) : Marks w [] := ⟨fun _ h => by simp at h, List.nodup_nil⟩
theorem Marks.below {w w' : World} {ms : List Nat} (h : Marks w ms) (hb : Below w.heap.size w w') : Marks w' ms :=
  ⟨fun D hD => (hb.block D (Array.getElem?_eq_some_iff.1 (h.obj D hD)).1).trans (h.obj D hD), h.nodup⟩
theorem Marks.chg {S : Nat → Prop} {w w' : World} {ms : List Nat} (h : Marks w ms) (hc : Chg S w w') (hn : ∀ D ∈ ms, ¬ S D) : Marks w' ms :=
  ⟨fun D hD => (hc.block D (Array.getElem?_eq_some_iff.1 (h.obj D hD)).1 (hn D hD)).trans (h.obj D hD), h.nodup⟩
theorem Marks.ne {w : World} {ms : List Nat} {b : Nat} {cs : List Value} {T : TypeId} (h : Marks w ms) (hB : Blk w b cs T) : ∀ D ∈ ms, ¬ D = b := fun D hD e => by
  subst e; have := h.obj D hD; rw [show w.heap[D]? = _ from hB] at this; cases this
section
variable {P : Program} {N : Nat} {l : Frm} {w : World} {fn : Func} {R : Ending → World → Prop} {e : Exit}
end
/-! ### a loop whose rounds may leave marks -/
def LpD (X : Cx) {α : Type} (I : α → Frm) (ds : α → List Deferred) (J : α → World → Prop) (μ : α → Nat) (m : Nat) (Q : Exit → Act → World → Prop) : Exit → Act → World → Prop :=
  Exit.then (fun a w => ∃ x, Ok { X with ds := ds x } (I x) a ∧ J x w ∧ μ x < m) Q
section
variable {X : Cx} {Q : Exit → Act → World → Prop} {l : Frm} {w : World} {α : Type} {r : Option Nat} {P : Program} {N : Nat} {ds0 ds1 : List Deferred} {I : α → Frm} {ds : α → List Deferred} {J : α → World → Prop} {μ : α → Nat} {m : Nat}
end
/-! ### iterators -/
/-- what is asked of a round: it hands back whether it goes on; what it turned is the caller's own -/
def Rnd {α σ : Type} (J Jx : List α → σ → World → Prop) (M : σ → Nat → Prop) (pre : List α) (x : α) (s : σ) (w : World) (e : Ending) (w' : World) : Prop :=
  ∃ b s', e = .returned (.bool b) ∧ Chg (M s) w w' ∧ (∀ k, k < w.heap.size → M s' k → M s k) ∧ (b = true → J (pre ++ [x]) s' w') ∧ (b = false → Jx (pre ++ [x]) s' w')
/-- a function that yields xs, one after another. ro: what it reads between rounds -/
def Iter {α : Type} (P : Program) (f : FuncId) (cap : List Value) (enc : α → Value) (xs : List α) (ro : Nat → Prop) (w : World) : Prop :=
  ∀ (l : Nat) {σ : Type} (J Jx : List α → σ → World → Prop) (M : σ → Nat → Prop),
    (∀ pre s w1 w2, J pre s w1 → Chg (fun k => ¬ (k < w.heap.size ∨ M s k)) w1 w2 → J pre s w2) →
    (∀ pre s w1 w2, Jx pre s w1 → Chg (fun k => ¬ (k < w.heap.size ∨ M s k)) w1 w2 → Jx pre s w2) →
    (∀ pre s w1 k, J pre s w1 → M s k → k < w1.heap.size ∧ ¬ ro k) →
    (∀ pre x post s w1, xs = pre ++ x :: post → w.heap.size ≤ w1.heap.size → J pre s w1 → YieldAt (Fw none) 0 P l #[enc x] w1 (Rnd J Jx M pre x s w1)) →
    ∀ s, J [] s w → Calls P f (.func (.yield l) #[] #[] :: cap).toArray w fun e w' => (∃ v, e = .returned v) ∧ ((∃ s', J xs s' w') ∨ ∃ pre s', Jx pre s' w')
/-- the same for a function with values bound ahead of yield (a method value) -/
def IterB {α : Type} (P : Program) (f : FuncId) (bnd cap : List Value) (enc : α → Value) (xs : List α) (ro : Nat → Prop) (w : World) : Prop :=
  ∀ (l : Nat) {σ : Type} (J Jx : List α → σ → World → Prop) (M : σ → Nat → Prop),
    (∀ pre s w1 w2, J pre s w1 → Chg (fun k => ¬ (k < w.heap.size ∨ M s k)) w1 w2 → J pre s w2) →
    (∀ pre s w1 w2, Jx pre s w1 → Chg (fun k => ¬ (k < w.heap.size ∨ M s k)) w1 w2 → Jx pre s w2) →
    (∀ pre s w1 k, J pre s w1 → M s k → k < w1.heap.size ∧ ¬ ro k) →
    (∀ pre x post s w1, xs = pre ++ x :: post → w.heap.size ≤ w1.heap.size → J pre s w1 → YieldAt (Fw none) 0 P l #[enc x] w1 (Rnd J Jx M pre x s w1)) →
    ∀ s, J [] s w → Calls P f (bnd ++ Value.func (.yield l) #[] #[] :: cap).toArray w fun e w' => (∃ v, e = .returned v) ∧ ((∃ s', J xs s' w') ∨ ∃ pre s', Jx pre s' w')
/-! ### the statement -/
def As (X : Cx) (body : Code) (Qb : World → Exit → Act → World → Prop) (w1 : World) (Jw : World → Prop) : Exit → Act → World → Prop :=
  fun e a w' => e = .normal ∧ w' = w1 ∧ ∃ l', Ok X l' a ∧ ∀ w2, Jw w2 → W X body (Qb w2) l' w2
def Rd {α σ : Type} (J : List α → σ → World → Prop) (Jx : Code → List α → σ → World → Prop) (M : σ → Nat → Prop) (pre : List α) (x : α) (s : σ) (w2 : World) : Exit → Act → World → Prop
  | .normal, _, w' => ∃ s', J (pre ++ [x]) s' w' ∧ Chg (M s) w2 w' ∧ ∀ k, k < w2.heap.size → M s' k → M s k
  | .ret, _, w' => ∃ s', Jx .ret (pre ++ [x]) s' w' ∧ Chg (M s) w2 w' ∧ ∀ k, k < w2.heap.size → M s' k → M s k
  | .exit id, _, w' => ∃ s', Jx (.exit id) (pre ++ [x]) s' w' ∧ Chg (M s) w2 w' ∧ ∀ k, k < w2.heap.size → M s' k → M s k
  | _, _, _ => False
theorem chg_get {S : Nat → Prop} {w w' : World} {k : Nat} {o : Obj} (hc : Chg S w w') (h : w.heap[k]? = some o) (hn : ¬ S k) : w'.heap[k]? = some o := (hc.block k (Array.getElem?_eq_some_iff.1 h).1 hn).trans h
/-! ### slices in regions of any order -/
def SlR {α : Type} (B k : Nat) (enc : α → List Value) (xs : List α) (v : Value) (w : World) (_ _ : Nat) : Prop := SL w v k enc xs ∧ B ≤ sb v ∧ ∃ b o c, v = .slice (some ⟨b, o, none⟩) xs.length c ∧ xs.length ≤ c
theorem SlR.stab {α : Type} {B k : Nat} {enc : α → List Value} {xs : List α} {ds : List Nat} : (frs ds (SlR B k enc xs)).stab := fun _ _ _ _ _ hb _ ⟨h1, h2, h3⟩ => ⟨h1.below hb, h2, h3⟩
section
variable {α : Type} {P : Program} {l : Frm} {w : World} {k B : Nat} {enc : α → List Value} {xs : List α} {ds : List Nat}
theorem SL.take {v : Value} (h : SL w v k enc xs) {b o c n : Nat} (hv : v = .slice (some ⟨b, o, none⟩) xs.length c) (hn : n ≤ xs.length) (hc : xs.length ≤ c) : SL w (.slice (some ⟨b, o, none⟩) n c) k enc (xs.take n) := by
  have hlen : (xs.take n).length = n := by simp; omega
  refine ⟨.inr ⟨by rw [hlen]; rfl, by rw [hlen]; exact Nat.le_trans hn hc⟩, fun i x hi => ?_, h.pos⟩
  have hlt : i < n := by have := (List.getElem?_eq_some_iff.1 hi).1; omega
  rw [List.getElem?_take_of_lt hlt] at hi
  have := h.cells i x hi
  rw [hv] at this; exact this
end
/-! ### a variable is stored into itself -/
/-! ### maps -/
def mget {K V : Type} [DecidableEq K] (kv : List (K × V)) (k : K) : Option V := (kv.find? fun p => decide (k = p.1)).map Prod.snd
/-- the map r holds these entries -/
def Mp {K V : Type} (w : World) (r : Nat) (key : K → Value) (val : V → Value) (kv : List (K × V)) : Prop :=
  ∃ (es : Array MapEntry) (clock : Nat), w.heap[r]? = some (.map es clock) ∧ es.toList.map (fun e => (e.key, e.val)) = kv.map fun p => (key p.1, val p.2)
section
variable {K V : Type} [DecidableEq K] {w w' : World} {r : Nat} {key : K → Value} {val : V → Value} {kv : List (K × V)}
theorem Mp.lt (h : Mp w r key val kv) : r < w.heap.size := by obtain ⟨es, c, h, _⟩ := h; exact (Array.getElem?_eq_some_iff.1 h).1
theorem Mp.below (h : Mp w r key val kv) (hb : Below w.heap.size w w') : Mp w' r key val kv := by
  obtain ⟨es, c, h1, h2⟩ := h; exact ⟨es, c, (hb.block r (Array.getElem?_eq_some_iff.1 h1).1).trans h1, h2⟩
theorem Mp.chg {S : Nat → Prop} (h : Mp w r key val kv) (hc : Chg S w w') (hn : ¬ S r) : Mp w' r key val kv := by
  obtain ⟨es, c, h1, h2⟩ := h; exact ⟨es, c, chg_get hc h1 hn, h2⟩
theorem Mp.ne {b : Nat} {cs : List Value} {T : TypeId} (h : Mp w r key val kv) (hB : Blk w b cs T) : ¬ r = b := fun e => by
  subst e; obtain ⟨es, c, h1, _⟩ := h; rw [show w.heap[r]? = _ from hB] at h1; cases h1
variable {P : Program} {T kt et : TypeId}
/-- how two keys of the type are compared -/
def KeyEq (P : Program) (kt : TypeId) (key : K → Value) : Prop :=
  ∃ kind, (∀ w, (underlying kt).run P w = .ok kind w) ∧ (∀ b k w, (Instr.checkKey b 10000 kt (key k)).run P w = .ok () w) ∧
  ((∀ a b, Instr.sameNow kind (key a) (key b) = some (decide (a = b))) ∨ ((∀ a b, Instr.sameNow kind (key a) (key b) = none) ∧ ∀ a b w, (Op.equal kt (key a) (key b)).run P w = .ok (decide (a = b)) w))
def fnd (k : K) : List (K × V) → Nat → Option (Nat × V)
  | [], _ => none
  | p :: t, i => if k = p.1 then some (i, p.2) else fnd k t (i + 1)
theorem run_findKey (hk' : KeyEq P kt key) (k : K) {es : List MapEntry} (he : es.map (fun e => (e.key, e.val)) = kv.map fun p => (key p.1, val p.2)) (w : World) :
    (Instr.findKey kt (key k) es).run P w = .ok ((fnd k kv 0).map fun p => (p.1, val p.2)) w := by
  obtain ⟨kind, hk⟩ := hk'
  have ask : ∀ (kv : List (K × V)) (es : List MapEntry) (i : Nat), (∀ a b w, (Op.equal kt (key a) (key b)).run P w = .ok (decide (a = b)) w) → es.map (fun e => (e.key, e.val)) = kv.map (fun p => (key p.1, val p.2)) →
      (Instr.findAsking kt (key k) es i).run P w = .ok ((fnd k kv i).map fun p => (p.1, val p.2)) w := by
    intro kv
    induction kv with
    | nil => intro es i _ he; cases es <;> simp at he; simp [Instr.findAsking, fnd]
    | cons p t ih =>
      intro es i hq he
      cases es with
      | nil => simp at he
      | cons e es =>
        simp only [List.map_cons, List.cons.injEq, Prod.mk.injEq] at he
        unfold Instr.findAsking fnd
        simp only [Sem.run_bind, he.1.1, hq, Result.andThen]
        by_cases h : k = p.1
        · simp [h, he.1.2]
        · simp only [h, decide_false, if_false]; exact ih es (i + 1) hq he.2
  have now : ∀ (kv : List (K × V)) (es : List MapEntry) (i : Nat), (∀ a b, Instr.sameNow kind (key a) (key b) = some (decide (a = b))) → es.map (fun e => (e.key, e.val)) = kv.map (fun p => (key p.1, val p.2)) →
      Instr.findNow kind (key k) es i = some ((fnd k kv i).map fun p => (p.1, val p.2)) := by
    intro kv
    induction kv with
    | nil => intro es i _ he; cases es <;> simp at he; simp [Instr.findNow, fnd]
    | cons p t ih =>
      intro es i hq he
      cases es with
      | nil => simp at he
      | cons e es =>
        simp only [List.map_cons, List.cons.injEq, Prod.mk.injEq] at he
        unfold Instr.findNow fnd
        rw [he.1.1, hq]
        by_cases h : k = p.1
        · simp [h, he.1.2]
        · simp only [h, decide_false, if_false]; exact ih es (i + 1) hq he.2
  unfold Instr.findKey
  simp only [Sem.run_bind, hk.1, Result.andThen]
  rcases hk.2.2 with h | ⟨h, hq⟩
  · rw [now kv es 0 h he]; rfl
  · cases es with
    | nil => cases kv <;> simp at he; simp [Instr.findNow, fnd]
    | cons e es =>
      have : Instr.findNow kind (key k) (e :: es) 0 = none := by
        cases kv with
        | nil => simp at he
        | cons p t => simp only [List.map_cons, List.cons.injEq, Prod.mk.injEq] at he; unfold Instr.findNow; rw [he.1.1, h]
      rw [this]; exact ask kv _ 0 hq he
theorem KeyEq.check (hk : KeyEq P kt key) : ∀ b k w, (Instr.checkKey b 10000 kt (key k)).run P w = .ok () w := by obtain ⟨_, h⟩ := hk; exact h.2.1
variable {l : Frm} {ty : TypeId}
end
section
variable {P : Program} {l : Frm} {w : World} {ty : TypeId}
end
section
variable {K : Type} [DecidableEq K] {w : World} {r : Nat} {key : K → Value} {kv : List (K × Int)} {P : Program} {T kt et : TypeId} {l : Frm} {ty : TypeId}
end
def isNilS : Value → Bool
  | .slice none _ _ => true
  | _ => false
end Go.Mi
