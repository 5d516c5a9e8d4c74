/- A search that visits operations, each after its operands: what it holds between visits. No program's text. -/
import Derived.Test.YtphmoebiobjfhaaGreatAp
set_option linter.all false
namespace Go.Mi
open Go Go.RowKit
/-! plain -/
theorem pre_trans {α : Type} {a b c : List α} (h : a <+: b) (k : b <+: c) : a <+: c := List.IsPrefix.trans h k
theorem foldl_pre {α : Type} {g : List Int → α → List Int} (hg : ∀ l a, l <+: g l a) : ∀ (xs : List α) (l : List Int), l <+: xs.foldl g l
 | [], l => List.prefix_refl l
 | x :: xs, l => pre_trans (hg l x) (foldl_pre hg xs _)
theorem visitF_pre (ops : List Ot) : ∀ (f : Nat) (found : List Int) (i : Int), found <+: visitF ops f found i
 | 0, found, i => List.prefix_refl _
 | f + 1, found, i => by
  unfold visitF; split
  ·exact List.prefix_refl _
  ·exact pre_trans (foldl_pre (visitF_pre ops f) _ _) (List.prefix_append _ _)
def opsOf (x : Ot) : List Int := (opndR x).take (arN x.code)
theorem visitF_new {ops : List Ot} {f : Nat} {found : List Int} {i : Int} (h : ¬ i ∈ found) : visitF ops (f + 1) found i = (opsOf (getO ops i)).foldl (visitF ops f) found ++ [i] := by
 conv => lhs; unfold visitF
 rw [if_neg h]; rfl
theorem visitF_old {ops : List Ot} {f : Nat} {found : List Int} {i : Int} (h : i ∈ found) : visitF ops (f + 1) found i = found := by
 conv => lhs; unfold visitF
 rw [if_pos h]
theorem opsOf_len (x : Ot) : (opsOf x).length = arN x.code := by unfold opsOf; have := arN_le x.code; simp [opndR]; omega
theorem opsOf_get {x : Ot} {j : Nat} (hj : j < arN x.code) : (opsOf x)[j]? = some ((opndR x).getD j 0) := by
 have h3 := arN_le x.code
 have hl : j < (opndR x).length := by simp [opndR]; omega
 unfold opsOf
 rw [List.getElem?_take_of_lt hj, List.getElem?_eq_getElem hl, List.getD_eq_getElem?_getD, List.getElem?_eq_getElem hl]; rfl
theorem opsOf_bd {C : Co} (hck : checkR C = 0) {i : Int} (h0 : 0 ≤ i) (h1 : i < C.ops.length) : ∀ n ∈ opsOf (getO C.ops i), 0 ≤ n ∧ n < i := fun n hn => by
 have h := (isOpB_spec (ops_at hck h0 h1)).2.1 n hn; omega
def seenL (n : Nat) (l : List Int) : List Bool := (List.range n).map fun (j : Nat) => decide ((j : Int) ∈ l)
theorem seenL_len (n : Nat) (l : List Int) : (seenL n l).length = n := by simp [seenL]
theorem seenL_get {n : Nat} {l : List Int} {i : Int} (h0 : 0 ≤ i) (h1 : i < n) : getB (seenL n l) i = decide (i ∈ l) := by
 obtain ⟨k, rfl⟩ := Int.eq_ofNat_of_zero_le h0
 have : k < n := by omega
 simp [getB, seenL, List.getD_eq_getElem?_getD, this]
theorem seenL_ext {n : Nat} {l l' : List Int} (h : ∀ x, x ∈ l ↔ x ∈ l') : seenL n l = seenL n l' := by
 unfold seenL; congr 1; funext j; simp only [h]
theorem seenL_set {n : Nat} {l : List Int} {i : Int} (h0 : 0 ≤ i) : (seenL n l).set i.toNat true = seenL n (i :: l) := by
 apply List.ext_getElem?; intro j
 rw [List.getElem?_set]
 by_cases e : i.toNat = j
 ·subst e
  by_cases hl : i.toNat < n
  ·have hi : ((i.toNat : Nat) : Int) = i := by omega
   simp [seenL, hl, hi]
  ·simp [seenL, hl]
 ·rw [if_neg e]
  by_cases hl : j < n
  ·have : ¬ (j : Int) = i := by omega
   simp [seenL, hl, this]
  ·simp [seenL, hl]
theorem seenL_none (n : Nat) : seenL n [] = List.replicate n false := by
 apply List.ext_getElem?; intro j
 simp [seenL, List.getElem?_replicate]
 by_cases h : j < n <;> simp [h]
theorem mem_snoc {i x : Int} {opn l : List Int} : x ∈ (i :: opn) ++ l ↔ x ∈ (i :: opn) ++ (l ++ [i]) := by
 simp only [List.mem_append, List.mem_cons, List.mem_nil_iff, or_false]
 constructor
 ·rintro ((h | h) | h) <;> simp [h]
 ·rintro ((h | h) | h | h) <;> simp [h]
theorem mem_close {i x : Int} {opn l : List Int} : x ∈ (i :: opn) ++ (l ++ [i]) ↔ x ∈ opn ++ (l ++ [i]) := by
 simp only [List.mem_append, List.mem_cons, List.mem_nil_iff, or_false]
 constructor
 ·rintro ((h | h) | h | h) <;> simp [h]
 ·rintro (h | h | h) <;> simp [h]
/-! what is known between visits -/
def ownB (cS cs cV cY : Nat) (vS : Value) (k : Nat) : Prop := k = cS ∨ k = cs ∨ k = cV ∨ k = cY ∨ vS.ownBlock = some k
structure VC (P : Program) where
 σ : Type
 J : List Int → σ → World → Prop
 Jx : List Int → σ → World → Prop
 M : σ → Nat → Prop
 w0 : World
 cS : Nat
 cs : Nat
 cV : Nat
 cY : Nat
 bs : Nat
 rM : Nat
 lp : Nat
 lo : Nat
 vS : Value
 vC : Value
 vO : Value
 vR : Value
 vU : Value
 vT : Value
 C : Co
 us : List Bool
 tr : List Bool
 kv : List (Ot × Int)
 Y : StTy
 TB : Nat
 TP : Nat
 TF : Nat
 fv : Nat
 xs : List Int
 hck : checkR C = 0
 hJ : ∀ pre s w1 w2, J pre s w1 → Chg (fun k => ¬ (k < w0.heap.size ∨ M s k)) w1 w2 → J pre s w2
 hJx : ∀ pre s w1 w2, Jx pre s w1 → Chg (fun k => ¬ (k < w0.heap.size ∨ M s k)) w1 w2 → Jx pre s w2
 hM : ∀ pre s w1 k, J pre s w1 → M s k → k < w1.heap.size ∧ ¬ StB bs rM vC vO vR vU vT k
 yield : ∀ pre x post s w1, xs = pre ++ x :: post → w0.heap.size ≤ w1.heap.size → J pre s w1 → YieldAt (Fw none) 0 P lp #[.int .i64 x] w1 (Rnd J Jx M pre x s w1)
 ge : ∀ k, ownB cS cs cV cY vS k → w0.heap.size ≤ k
 ne : ∀ k, vS.ownBlock = some k → k ≠ cS ∧ k ≠ cs ∧ k ≠ cV ∧ k ≠ cY
 stlt : ∀ k, StB bs rM vC vO vR vU vT k → k < w0.heap.size
section
variable {P : Program}
def VC.ptrs (E : VC P) : List Value := [.pointer (some ⟨E.cS, 0, none⟩), .pointer (some ⟨E.cs, 0, none⟩), .pointer (some ⟨E.cV, 0, none⟩), .pointer (some ⟨E.cY, 0, none⟩)]
def VC.own (E : VC P) (k : Nat) : Prop := ownB E.cS E.cs E.cV E.cY E.vS k
structure V (E : VC P) (found opn : List Int) (s : E.σ) (w : World) : Prop where
 j : E.J found s w
 bS : Blk w E.cS [E.vS] E.TB
 oS : OS w E.vS E.Y.b 1 encB (seenL E.C.ops.length (opn ++ found)) E.w0.heap.size
 bs : Blk w E.cs [.pointer (some ⟨E.bs, 0, none⟩)] E.TP
 bV : Blk w E.cV [.func (.func E.fv) #[] E.ptrs.toArray] E.TF
 bY : Blk w E.cY [.func (.yield E.lp) #[] #[]] E.TF
 st : St E.Y E.lo w E.bs E.rM E.vC E.vO E.vR E.vU E.vT E.C E.us E.tr E.kv
 nM : ∀ k, E.own k → ¬ E.M s k
 sz : E.w0.heap.size ≤ w.heap.size
variable {E : VC P} {found opn : List Int} {s : E.σ} {w w1 w2 : World}
theorem V.chg {S : Nat → Prop} (h : V E found opn s w1) (hc : Chg S w1 w2) (hn : ∀ k, k < w1.heap.size → S k → E.w0.heap.size ≤ k ∧ ¬ E.M s k ∧ ¬ E.own k) : V E found opn s w2 := by
 have hc' : Chg (fun k => E.w0.heap.size ≤ k ∧ ¬ E.M s k ∧ ¬ E.own k) w1 w2 := hc.mono fun k hk hs => hn k hk hs
 exact ⟨E.hJ _ _ _ _ h.j (hc'.mono fun k _ hk hor => hor.elim (fun hl => by have := hk.1; omega) hk.2.1),
  h.bS.chg hc' (fun e => e.2.2 (.inl rfl)), h.oS.chg hc' (fun b hb e => e.2.2 (.inr (.inr (.inr (.inr hb))))), h.bs.chg hc' (fun e => e.2.2 (.inr (.inl rfl))), h.bV.chg hc' (fun e => e.2.2 (.inr (.inr (.inl rfl)))), h.bY.chg hc' (fun e => e.2.2 (.inr (.inr (.inr (.inl rfl))))),
  h.st.chg hc' (fun k hk e => by have := E.stlt k hk; have := e.1; omega), h.nM, Nat.le_trans h.sz hc.size⟩
theorem V.below (h : V E found opn s w1) (hb : Below w1.heap.size w1 w2) : V E found opn s w2 := h.chg (S := fun _ => False) (Chg.of_below _ hb) (fun _ _ h => h.elim)
theorem V.ltM (h : V E found opn s w1) {k : Nat} (hm : E.M s k) : k < w1.heap.size := (E.hM _ _ _ _ h.j hm).1
theorem V.ltO (h : V E found opn s w1) {k : Nat} (hm : E.own k) : k < w1.heap.size := by
 rcases hm with rfl | rfl | rfl | rfl | hm
 ·exact h.bS.lt
 ·exact h.bs.lt
 ·exact h.bV.lt
 ·exact h.bY.lt
 ·exact (h.oS.lt hm).2
/-- a block of the caller's that is new -/
theorem V.fresh (h : V E found opn s w1) {k : Nat} (hk : w1.heap.size ≤ k) : E.w0.heap.size ≤ k ∧ ¬ E.M s k ∧ ¬ E.own k :=
 ⟨Nat.le_trans h.sz hk, fun hm => by have := h.ltM hm; omega, fun hm => by have := h.ltO hm; omega⟩
/-- an element of seen is stored -/
theorem V.seen {opn' found' : List Int} (h : V E found opn s w1) (hc : Chg (fun b => E.vS.ownBlock = some b) w1 w2) (ho : OS w2 E.vS E.Y.b 1 encB (seenL E.C.ops.length (opn' ++ found)) E.w0.heap.size) : V E found opn' s w2 := by
 have hge : ∀ k, E.vS.ownBlock = some k → E.w0.heap.size ≤ k := fun k e => E.ge k (.inr (.inr (.inr (.inr e))))
 exact ⟨E.hJ _ _ _ _ h.j (hc.mono fun k _ e hor => hor.elim (fun hl => by have := hge k e; omega) (h.nM k (.inr (.inr (.inr (.inr e)))))), h.bS.chg hc (fun e => (E.ne _ e).1 rfl), ho, h.bs.chg hc (fun e => (E.ne _ e).2.1 rfl), h.bV.chg hc (fun e => (E.ne _ e).2.2.1 rfl), h.bY.chg hc (fun e => (E.ne _ e).2.2.2 rfl),
  h.st.chg hc (fun k hk e => by have := E.stlt k hk; have := hge k e; omega), h.nM, Nat.le_trans h.sz hc.size⟩
/-- a round of the caller's -/
theorem V.round {found' : List Int} {s' : E.σ} (h : V E found opn s w1) (hc : Chg (E.M s) w1 w2) (hs : ∀ k, k < w1.heap.size → E.M s' k → E.M s k) (hj : E.J found' s' w2) (hm : ∀ x, x ∈ opn ++ found ↔ x ∈ opn ++ found') : V E found' opn s' w2 :=
 ⟨hj, h.bS.chg hc (h.nM _ (.inl rfl)), by rw [← seenL_ext hm]; exact h.oS.chg hc (fun b hb => h.nM _ (.inr (.inr (.inr (.inr hb))))), h.bs.chg hc (h.nM _ (.inr (.inl rfl))), h.bV.chg hc (h.nM _ (.inr (.inr (.inl rfl)))), h.bY.chg hc (h.nM _ (.inr (.inr (.inr (.inl rfl))))),
  h.st.chg hc (fun k hk hm => (E.hM _ _ _ _ h.j hm).2 hk), fun k hk hm => h.nM k hk (hs k (h.ltO hk) hm), Nat.le_trans h.sz hc.size⟩
theorem V.reopen {opn' : List Int} (h : V E found opn s w1) (hm : ∀ x, x ∈ opn ++ found ↔ x ∈ opn' ++ found) : V E found opn' s w1 :=
 ⟨h.j, h.bS, by rw [← seenL_ext hm]; exact h.oS, h.bs, h.bV, h.bY, h.st, h.nM, h.sz⟩
def VPost (E : VC P) (f : Nat) (i : Int) (found opn : List Int) (s : E.σ) (w : World) (e : Ending) (w' : World) : Prop :=
 ∃ b s', e = .returned (.bool b) ∧ Chg (fun k => E.vS.ownBlock = some k ∨ E.M s k) w w' ∧ (∀ k, k < w.heap.size → E.M s' k → E.M s k) ∧ (b = true → V E (visitF E.C.ops f found i) opn s' w') ∧ (b = false → ∃ pre, E.Jx pre s' w')
def Visit (E : VC P) (f : Nat) : Prop := ∀ (i : Int) (found opn : List Int) (s : E.σ) (w : World), 0 ≤ i → i < f → f ≤ E.C.ops.length → V E found opn s w → (∀ o ∈ opn, i < o) → visitF E.C.ops f found i <+: E.xs →
 Calls P E.fv (.int .i64 i :: E.ptrs).toArray w (VPost E f i found opn s w)
theorem SG_callvC {X : Cx} {Q : Exit → Act → World → Prop} {l : Frm} {ops : Array Oper} {rest : List Oper} {d : Nat} {f : FuncId} {g : Operand} {cap all : List Value} {args : List Operand} {tys : Array TypeId} {ty : TypeId} {pos : String} {af : Array Edge} {vs : List Value} {K : Value → World → Prop}
  (hg : ev l g = some (.func (.func f) #[] cap.toArray)) (hargs : evs l args = some vs) (hall : vs ++ cap = all)
  (hf : ∀ args w, (callFunc f args).run X.P w = .ok (.enter f args) w) (hd : Nat.blt d X.N = true) (h : Calls X.P f all.toArray w fun e w' => ∃ v, e = .returned v ∧ K v w') (k : ∀ v w', K v w' → SG X ops Q rest ((d, v) :: l) w') :
  SG X ops Q ({ dst := some d, op := .call { callee := .value g, args := args.toArray, argTypes := tys }, type := ty, pos := pos, after := af, guard := none } :: rest) l w :=
 SG_enterC (fun a o ha ho => run_callv ha ho hg hargs hall hf) h fun v w' hK a ha => k v w' hK _ (ha.put hd v)
end
end Go.Mi
