/- Closed calls: ranges over maps; all operations together. -/
import Derived.Test.YtpcgfeckokgbfaaGreatDoorJn
import Derived.Test.YtpcgfeckokgbfaaGreatDoorJj
set_option linter.all false
namespace Go.Dp
open Go Go.Mi Go.RowKit Go.MapKept
section
variable {β : Type} {b : β} {Pg : Program} {ty : TypeId} {f : Fm} {H : List Ob} {kp : V → M β} {k : K β}
theorem i_range {T kt et i n c : Nat} {bs : List Nat} {kv : List (Value × V)} {x : Operand} {ρ : Operand → Option V} (hm : Pg.underlying T = some (.map kt et)) (hx : ρ x = some (.map i)) (hne : i ≠ n) : It Pg (.range T x) ty ρ [(i, .mp c bs kv), (n, .dead)] [(n, .itr i)] (.ref n 0) := fun g w H ev o hop _ hr hrd h => by
  have hd := hrd (n, .dead) (by simp)
  have hi : H[i]? = some (.mp c bs kv) := hrd (i, .mp c bs kv) (by simp)
  have e1 := (h x (by simp [Op.operands]) _ hx).mapv
  obtain ⟨us, h1, h2, h3⟩ := hr.ob i _ hi
  have hlive : live H i := by unfold live; rw [hi]; trivial
  have hg := Rs.newO (o := .itr i) (ob := .mapIter (some (g.β i)) c #[] c) hr hd (fun g b h => h) fun g' e hmo => ⟨c, c, by rw [e, (hmo.live i hlive).2]; exact (heap_alloc w _).1, (hmo.live i hlive).1⟩
  refine .inl ⟨.pointer (some ⟨w.heap.size, 0, none⟩), _, ?_, _, hg, ?_⟩
  · unfold execOp; rw [hop]; simp [Instr.range, e1, run_underlying hm, Go.MapKept.run_getObj_map h1, Sem.run_bind, Result.andThen]
  · have := RV.ref (g := ⟨upd g.β n w.heap.size, upd g.E w.heap.size 0, g.h⟩) (w := w.alloc (.mapIter (some (g.β i)) c #[] c)) (H := setW H [(n, .itr i)]) (i := n) (off := 0) (by unfold live; show liveO (H.set n _)[n]?; rw [set_eq (List.getElem?_eq_some_iff.1 hd).1]; trivial)
    simpa [upd_eq] using this
theorem eRange_ok {T : Nat} {x : Operand} (h : eRange Pg f H k T x = .ok b) : Out Pg (.range T x) ty f.fv H kp k b := by
  obtain ⟨a, h1, h2⟩ := ev_ok h
  obtain ⟨q, h3, h4⟩ := ty_ok h2
  obtain ⟨kt, hm, hd⟩ := elemM_ok h3
  split at h4
  · obtain ⟨o, h5, h6⟩ := nth_ok h4
    split at h6
    · rename_i i o' c bs kv
      rw [fN_eq, lenL_eq] at h6
      have hl := (List.getElem?_eq_some_iff.1 h5).1
      refine .inr ⟨_, 1, _, _, i_range hm h1 (Nat.ne_of_lt hl), fun q hq => ?_, fun q hq => (by simp at hq; subst hq; simp), h6⟩
      simp only [List.mem_cons, List.not_mem_nil, or_false] at hq
      rcases hq with rfl | rfl
      · show (H ++ _)[i]? = _
        rw [List.getElem?_append_left hl]; exact h5
      · exact dead_at H
    · cases h6
  · cases h4
theorem eNext_ok {x : Operand} {is : Bool} (h : eNext f H k x is = .ok b) : Out Pg (.next x is) ty f.fv H kp k b := by
  obtain ⟨a, h1, h2⟩ := ev_ok h
  split at h2
  · rename_i j
    obtain ⟨o, h3, h4⟩ := nth_ok h2
    split at h4
    · rename_i i
      obtain ⟨q, h5, h6⟩ := nth_ok h4
      split at h6
      · rename_i c
        obtain ⟨h7, h8⟩ := ck_ok h6
        have hf : is = false := by cases is <;> simp_all
        subst hf
        refine .inr ⟨_, 0, _, _, (fun g w H0 e o ho _ hr hrd hfr => ?_ : It Pg (.next x false) ty (evG f.fv) [(j, .itr i), (i, .mp c [] [])] [] (.tup [vB false])), fun q hq => ?_, fun q hq => (by cases hq), h8⟩
        · have hj : H0[j]? = some (.itr i) := hrd (j, .itr i) (by simp)
          have hi : H0[i]? = some (.mp c [] []) := hrd (i, .mp c [] []) (by simp)
          have e1 := hfr x (by simp [Op.operands]) _ h1
          obtain ⟨s, l, h9, _⟩ := hr.ob j _ hj
          obtain ⟨us, h10, _, h11⟩ := hr.ob i _ hi
          have h10 : w.heap[g.β i]? = some (.map #[] c) := by rw [h10]; simp [mkEs]
          generalize he : e x = v at e1
          cases e1 with
          | ref hv =>
            have hg1 : (getObj (g.β j)).run Pg w = .ok (.mapIter (some (g.β i)) s #[] l) w := by simp [getObj, Sem.run, h9]
            refine .inl ⟨.tuple #[.bool false], w, ?_, g, hr.rs, .tup (.cons (.v _) .nil)⟩
            unfold execOp; rw [ho]
            simp [Instr.next, he, hg1, Go.MapKept.run_getObj_map h10, Sem.run_bind, Result.andThen, Question.forced, Question.cut]
        · simp only [List.replicate_zero, List.append_nil]
          simp only [List.mem_cons, List.not_mem_nil, or_false] at hq
          rcases hq with rfl | rfl
          · exact h3
          · exact h5
      · cases h6
    · cases h4
  · cases h2
theorem toL1 {α : Type} {a : Array α} {x : α} (h : a.toList = [x]) : a = #[x] := Array.toList_inj.1 h
theorem toL2 {α : Type} {a : Array α} {x y : α} (h : a.toList = [x, y]) : a = #[x, y] := Array.toList_inj.1 h
theorem eCall_ok {c : Call} {kc : Operand → Array Operand → M β} (h : eCall Pg f H kp k c kc = .ok b) : Out Pg (.call c) ty f.fv H kp k b ∨ ∃ g, c.callee = .value g ∧ kc g c.args = .ok b := by
  obtain ⟨cc, as, ts⟩ := c
  unfold eCall at h
  cases cc with
  | value g => exact .inr ⟨g, rfl, h⟩
  | builtin bi =>
    refine .inl ?_
    simp only at h
    split at h
    · rename_i h1 h2
      rw [toL1 h1, toL1 h2]
      obtain ⟨a, h3, h4⟩ := ev_ok h
      split at h4
      · exact eLenM_ok h3 h4
      · obtain ⟨e, h5, h6⟩ := ty_ok h4
        exact eLenG_ok h5 h3 h6
      · exact eLen_ok h3 h4
    · rename_i h1 h2
      rw [toL2 h1, toL2 h2]
      obtain ⟨a, h5, h6⟩ := ev_ok h
      obtain ⟨d, h7, h8⟩ := ev_ok h6
      exact eDelete_ok h5 h7 h8
    · rename_i h1 h2
      rw [toL2 h1, toL2 h2]
      obtain ⟨a, h5, h6⟩ := ev_ok h
      obtain ⟨d, h7, h8⟩ := ev_ok h6
      exact eCopy_ok h5 h7 h8
    · rename_i h1 h2
      rw [toL2 h1, toL2 h2]
      obtain ⟨h3, h4⟩ := ck_ok h
      have := Nat.eq_of_beq_eq_true h3
      subst this
      obtain ⟨a, h5, h6⟩ := ev_ok h4
      obtain ⟨d, h7, h8⟩ := ev_ok h6
      split at h8
      · exact eGApp_ok h5 h7 h8
      · exact eAppend_ok h5 h7 h8
    · rename_i h1 h2
      rw [toL1 h1, toL1 h2]
      obtain ⟨a, h3, h4⟩ := ev_ok h
      exact eClear_ok h3 h4
    · rename_i h1
      rw [toL2 h1]
      obtain ⟨a, h5, h6⟩ := ev_ok h
      obtain ⟨d, h7, h8⟩ := ev_ok h6
      exact eMinMax_ok h5 h7 (.inl rfl) h8
    · rename_i h1
      rw [toL2 h1]
      obtain ⟨a, h5, h6⟩ := ev_ok h
      obtain ⟨d, h7, h8⟩ := ev_ok h6
      exact eMinMax_ok h5 h7 (.inr rfl) h8
    · cases h
  | _ => cases h
theorem evOp_ok {op : Op} {kc : Operand → Array Operand → M β} {kd : Call → M β} (h : evOp op ty Pg f H kp k kc kd = .ok b) : Out Pg op ty f.fv H kp k b ∨ (∃ c g, op = .call c ∧ c.callee = .value g ∧ kc g c.args = .ok b) ∨ ∃ c, op = .defer c ∧ kd c = .ok b := by
  cases op with
  | move x => exact .inl (eMove_ok h)
  | assign x => exact .inl (eAssign_ok h)
  | pick c x y => exact .inl (ePick_ok h)
  | alloc T => exact .inl (eAlloc_ok h)
  | box T x => exact .inl (eBox_ok h)
  | build T p => exact .inl (eBuild_ok h)
  | buildSlice T n p => exact .inl (eBuildSlice_ok h)
  | insert T m q x => exact .inl (eInsertA_ok h)
  | load T x => exact .inl (eLoadW_ok h)
  | store T x y => exact .inl (eStoreW_ok h)
  | nilCheck x => exact .inl (eNilCheck_ok h)
  | binOp o T x y U => exact .inl (eBin_ok h)
  | unOp o T x => exact .inl (eUn_ok h)
  | convert A B x => exact .inl (eConvert_ok h)
  | makeInterface T x => exact .inl (eMkIface_ok h)
  | makeFunc g x y => exact .inl (eMkFunc_ok h)
  | makeMap T r => exact .inl (eMkMap_ok h)
  | makeSlice T x y => exact .inl (eMkSlice_ok h)
  | slice T x lo hi mx => exact .inl (eSliceW_ok h)
  | fieldAddr T x i => exact .inl (eFieldAddr_ok h)
  | field T x i => exact .inl (eField_ok h)
  | indexAddr T x y => exact .inl (eIndexAddrW_ok h)
  | index T x y => exact .inl (eIndex_ok h)
  | lookup T x y o => exact .inl (eLookupA_ok h)
  | mapUpdate T m q x => exact .inl (eUpdateA_ok h)
  | mapEntry T x y => exact .inl (eMapEntry_ok h)
  | entryStore T x y v => exact .inl (eEntryStore_ok h)
  | range T x => exact .inl (eRange_ok h)
  | next x i => exact .inl (eNext_ok h)
  | extract x i => exact .inl (eExtract_ok h)
  | call c =>
    rcases eCall_ok (f := f) h with h | ⟨g, h1, h2⟩
    · exact .inl h
    · exact .inr (.inl ⟨c, g, rfl, h1, h2⟩)
  | defer c => exact .inr (.inr ⟨c, rfl, h⟩)
  | _ => cases h
end
end Go.Dp
namespace Go.Dp
open Go Go.Mi Go.RowKit
/-- objects to come -/
theorem ext_at (H : List Ob) (n i : Nat) : (H ++ List.replicate n Ob.dead)[i]? = H[i]? ∨ (H[i]? = none ∧ (H ++ List.replicate n Ob.dead)[i]? = some .dead) ∨ (H[i]? = none ∧ (H ++ List.replicate n Ob.dead)[i]? = none) := by
  by_cases hi : i < H.length
  · exact .inl (List.getElem?_append_left hi)
  · rw [List.getElem?_append_right (by omega), List.getElem?_replicate]
    have e : H[i]? = none := List.getElem?_eq_none (by omega)
    split
    · exact .inr (.inl ⟨e, rfl⟩)
    · exact .inr (.inr ⟨e, rfl⟩)
theorem ext_live (H : List Ob) (n i : Nat) : live (H ++ List.replicate n Ob.dead) i ↔ live H i := by
  unfold live
  rcases ext_at H n i with e | ⟨e1, e2⟩ | ⟨e1, e2⟩
  · rw [e]
  · rw [e1, e2]; exact Iff.rfl
  · rw [e1, e2]
theorem ext_cur (H : List Ob) (n i : Nat) : cur (H ++ List.replicate n Ob.dead) i = cur H i := by
  unfold cur
  rcases ext_at H n i with e | ⟨e1, e2⟩ | ⟨e1, e2⟩
  · rw [e]
  · rw [e1, e2]; rfl
  · rw [e1, e2]
theorem ext_own (g : Gh) (H : List Ob) (n i b : Nat) : own g (H ++ List.replicate n Ob.dead) i b ↔ own g H i b := by
  unfold own
  rcases ext_at H n i with e | ⟨e1, e2⟩ | ⟨e1, e2⟩
  · rw [e]
  · rw [e1, e2]; exact Iff.rfl
  · rw [e1, e2]
theorem Mo.ext (g : Gh) (w : World) (H : List Ob) (n : Nat) : Mo g w H g w (H ++ List.replicate n Ob.dead) :=
  ⟨Nat.le_refl _, fun _ _ => Nat.le_refl _, fun _ _ _ _ => rfl, fun i hi => ⟨(ext_live H n i).2 hi, rfl⟩, fun t m ht => ⟨m, by rw [ext_cur]; exact ht, Nat.le_refl _, fun _ => rfl⟩⟩
theorem Rs.ext {w0 : World} {g0 : Gh} {H0 : List Ob} {g : Gh} {w : World} {H : List Ob} (hr : Rs w0 g0 H0 g w H) (n : Nat) : Rs w0 g0 H0 g w (H ++ List.replicate n .dead) := by
  have hmo := Mo.ext g w H n
  refine ⟨hr.os, hr.tape, hr.output, hr.gl.mo hmo, hr.mo.trans hmo, hr.blk, fun i o hi => ?_, fun i j b h1 h2 => hr.sep i j b ((ext_own _ _ _ i b).1 h1) ((ext_own _ _ _ j b).1 h2), fun i b h1 => hr.lb i b ((ext_own _ _ _ i b).1 h1)⟩
  rcases ext_at H n i with e | ⟨_, e2⟩ | ⟨_, e2⟩
  · rw [e] at hi; exact RO.mo hmo hi (fun _ _ => ⟨rfl, rfl⟩) (fun _ _ _ _ _ => rfl) (hr.ob i o hi)
  · rw [e2] at hi; cases hi; trivial
  · rw [e2] at hi; cases hi
/-! variables that are laid -/
theorem glob_rv {g : Gh} {w : World} {H : List Ob} (hg : GlA g w) : ∀ (G : List (Nat × List Value)) (q : Nat), (∀ x ∈ G, x ∈ GL) → RV g w H (glob G q) (.pointer (some ⟨q, 0, none⟩))
  | [], q, _ => .v _
  | (b, cs) :: G, q, hs => by
    simp only [glob]
    cases hb : Nat.beq b q with
    | false => exact glob_rv hg G q fun x hx => hs x (by simp [hx])
    | true =>
      have := Nat.eq_of_beq_eq_true hb
      subst this
      obtain ⟨h1, h2, h3⟩ := hg (b, cs) (hs _ (by simp))
      replace h1 : b < w.heap.size := h1
      replace h2 : cs.length ≤ g.E b := h2
      have := RV.el (g := g) (w := w) (H := H) (cs := cs.map .v) (b := b) (o := 0) (fun j => (cs[j]?).getD undef) (by simpa using h2) h1 (fun j hj => ?_) fun j c hj => ?_
      · exact this
      · rw [List.length_map] at hj
        rw [Nat.zero_add, h3 j cs[j] (List.getElem?_eq_getElem hj), List.getElem?_eq_getElem hj]; rfl
      · rw [List.getElem?_map] at hj
        cases hq : cs[j]? with
        | none => rw [hq] at hj; cases hj
        | some v => rw [hq] at hj; cases hj; exact .v
/-! deferred calls -/
def DfR (g : Gh) (w : World) (H : List Ob) : List Df → List Deferred → Prop
  | [], [] => True
  | .mark i :: ds, q :: qs => live H i ∧ q = { target := .collected (g.β i), args := #[] } ∧ DfR g w H ds qs
  | .fn f cs :: ds, q :: qs => (∃ vs : List Value, q = { target := .fn (.func f) vs.toArray, args := #[] } ∧ RVs g w H cs vs) ∧ DfR g w H ds qs
  | _, _ => False
theorem DfR.mo {g g' : Gh} {w w' : World} {H H' : List Ob} (m : Mo g w H g' w' H') : ∀ {ds : List Df} {qs : List Deferred}, DfR g w H ds qs → DfR g' w' H' ds qs
  | [], [], _ => trivial
  | .mark i :: ds, q :: qs, ⟨h1, h2, h3⟩ => ⟨(m.live i h1).1, by rw [(m.live i h1).2]; exact h2, DfR.mo m h3⟩
  | .fn f cs :: ds, q :: qs, ⟨⟨vs, h1, h2⟩, h3⟩ => ⟨⟨vs, h1, h2.mo m⟩, DfR.mo m h3⟩
  | [], _ :: _, h => h.elim
  | .mark _ :: _, [], h => h.elim
  | .fn _ _ :: _, [], h => h.elim
/-- where a round of a loop runs, its record is known -/
def RnR (r : Option Nat) (g : Gh) (H : List Ob) : Option Nat → Prop
  | none => r = none
  | some i => r = some (g.β i) ∧ live H i
theorem RnR.mo {r : Option Nat} {g g' : Gh} {w w' : World} {H H' : List Ob} (m : Mo g w H g' w' H') {rn : Option Nat} (h : RnR r g H rn) : RnR r g' H' rn := by
  cases rn with
  | none => exact h
  | some i => exact ⟨by rw [(m.live i h.2).2]; exact h.1, (m.live i h.2).1⟩
/-- what is known of an activation -/
structure OkE (r : Option Nat) (N : Nat) (rn : Option Nat) (g : Gh) (w : World) (H : List Ob) (l : Fv) (ds : List Df) (a : Act) : Prop where
  df : DfR g w H ds a.defers
  sz : a.tmps.size = N
  fr : FrR g w H l a.tmps
  rn : RnR r g H rn
section
variable {r : Option Nat} {N : Nat} {rn : Option Nat} {g g' : Gh} {w w' : World} {H H' : List Ob} {l : Fv} {ds : List Df} {a : Act}
theorem OkE.mo (h : OkE r N rn g w H l ds a) (m : Mo g w H g' w' H') : OkE r N rn g' w' H' l ds a := ⟨h.df.mo m, h.sz, h.fr.mo m, h.rn.mo m⟩
theorem OkE.ev (h : OkE r N rn g w H l ds a) (hg : GlA g w) {x : Operand} {d : V} (hd : evG l x = some d) : RV g w H d (a.eval x) := by
  cases x with
  | tmp t => obtain ⟨v, h1, h2⟩ := h.fr t d hd; simpa [Act.eval, Array.getD_eq_getD_getElem?, h1] using h2
  | const v => have : some (V.p (.v v)) = some d := hd; cases this; exact .v _
  | global q => have : some (glob GL q) = some d := hd; cases this; exact glob_rv hg GL q fun _ h => h
  | func f => have : some (V.p (.v (.func (.func f) #[] #[]))) = some d := hd; cases this; exact .v _
theorem OkE.sub (h : OkE r N rn g w H l ds a) {l' : Fv} (hs : ∀ t d, lk l' t = some d → lk l t = some d) : OkE r N rn g w H l' ds a := ⟨h.df, h.sz, fun t d ht => h.fr t d (hs t d ht), h.rn⟩
theorem OkE.put (h : OkE r N rn g w H l ds a) {dst : Option Tmp} (hd : dOk N dst = true) {d : V} {v : Value} (hv : RV g w H d v) : OkE r N rn g w H (putV dst d l) ds (a.put dst v) := by
  cases dst with
  | none => exact h
  | some t =>
    refine ⟨h.df, by simp [Act.put, h.sz], fun s u hs => ?_, h.rn⟩
    have ht : t < N := by simpa [dOk, Nat.blt_eq] using hd
    simp only [putV, lk] at hs
    simp only [Act.put, Array.getElem?_setIfInBounds, h.sz]
    by_cases e : t = s
    · subst e
      rw [show Nat.beq t t = true from Nat.beq_refl t] at hs
      simp only [cond_true, Option.some.injEq] at hs
      subst hs; exact ⟨v, by simp [ht], hv⟩
    · rw [beq_ne e] at hs
      simp only [cond_false] at hs
      obtain ⟨u', h1, h2⟩ := h.fr s u hs
      exact ⟨u', by simp [e, h1], h2⟩
end
/-! frames of the evaluator -/
end Go.Dp
namespace Go.Dp
open Go Go.Mi Go.RowKit
theorem tb_eq (m i : Nat) : tb m i = m.testBit i := by
  unfold tb Nat.testBit
  have e : (1 &&& (m >>> i)) = Nat.land (Nat.shiftRight m i) 1 := by
    rw [Nat.and_comm]; rfl
  rw [e]
  have h : Nat.land (Nat.shiftRight m i) 1 < 2 := by
    have := Nat.and_lt_two_pow (Nat.shiftRight m i) (n := 1) (show 1 < 2 ^ 1 by omega)
    exact this
  generalize Nat.land (Nat.shiftRight m i) 1 = q at h
  match q, h with
  | 0, _ => rfl
  | 1, _ => rfl
theorem sb_eq (m i j : Nat) : tb (sb m i) j = (tb m j || decide (j = i)) := by
  rw [tb_eq, tb_eq]
  unfold sb
  have : Nat.lor m (Nat.shiftLeft 1 i) = m ||| (1 <<< i) := rfl
  rw [this, Nat.testBit_or]
  congr 1
  rw [Nat.one_shiftLeft, Nat.testBit_two_pow]
  simp [eq_comm]
theorem nodupB_go : ∀ (sel : List Nat) (m : Nat), (List.rec (motive := fun _ => Nat → Bool) (fun _ => true) (fun i _ ih mask => Bool.rec (motive := fun _ => Bool) (ih (sb mask i)) false (tb mask i)) sel m : Bool) = true → sel.Nodup ∧ ∀ i ∈ sel, tb m i = false
  | [], m, _ => ⟨List.nodup_nil, fun _ h => by cases h⟩
  | i :: sel, m, h => by
    replace h : (Bool.rec (motive := fun _ => Bool) (List.rec (motive := fun _ => Nat → Bool) (fun _ => true) (fun i _ ih mask => Bool.rec (motive := fun _ => Bool) (ih (sb mask i)) false (tb mask i)) sel (sb m i)) false (tb m i) : Bool) = true := h
    cases hb : tb m i with
    | true => rw [hb] at h; cases h
    | false =>
      rw [hb] at h
      obtain ⟨h1, h2⟩ := nodupB_go sel _ h
      refine ⟨List.nodup_cons.2 ⟨fun hi => ?_, h1⟩, fun j hj => ?_⟩
      · have := h2 i hi; rw [sb_eq] at this; simp at this
      · rcases List.mem_cons.1 hj with rfl | hj
        · exact hb
        · have := h2 j hj; rw [sb_eq] at this; simp at this; exact this.1
theorem nodupB_ok {sel : List Nat} (h : nodupB sel = true) : sel.Nodup := (nodupB_go sel 0 h).1
theorem idx_go : ∀ (sel : List Nat) (i k n : Nat), (List.rec (motive := fun _ => Nat → Option Nat) (fun _ => none) (fun j _ ih n => Bool.rec (motive := fun _ => Option Nat) (ih (Nat.succ n)) (some n) (Nat.beq j i)) sel k : Option Nat) = some n → k ≤ n ∧ sel[n - k]? = some i
  | [], i, k, n, h => by cases h
  | j :: sel, i, k, n, h => by
    replace h : (Bool.rec (motive := fun _ => Option Nat) (List.rec (motive := fun _ => Nat → Option Nat) (fun _ => none) (fun j _ ih n => Bool.rec (motive := fun _ => Option Nat) (ih (Nat.succ n)) (some n) (Nat.beq j i)) sel (Nat.succ k)) (some k) (Nat.beq j i) : Option Nat) = some n := h
    cases hb : Nat.beq j i with
    | true =>
      rw [hb] at h
      have e : some k = some n := h
      cases e
      have := Nat.eq_of_beq_eq_true hb
      subst this; simp
    | false =>
      rw [hb] at h
      obtain ⟨h1, h2⟩ := idx_go sel i _ n h
      refine ⟨by omega, ?_⟩
      rw [show n - k = (n - Nat.succ k) + 1 by omega]; simpa using h2
theorem idx_ok {sel : List Nat} {i n : Nat} (h : idx sel i = some n) : sel[n]? = some i := (idx_go sel i 0 n h).2
/-- the names t, below k, are those that s gives -/
def Rnm (s : Nat → Option Nat) (t : Nat → Nat) (k : Nat) : Prop := ∀ i j, s i = some j → t j = i ∧ j < k
theorem Rnm.idx (sel : List Nat) : Rnm (idx sel) (sf sel) sel.length := fun i j h => by
  have h1 := idx_ok h
  exact ⟨by unfold sf; rw [List.getD_eq_getElem?_getD, h1]; rfl, (List.getElem?_eq_some_iff.1 h1).1⟩
noncomputable def rn2 (s : Nat → Option Nat) (cs : List V) : Option (List V) :=
  V.rec_1 (motive_1 := fun _ => Option V) (motive_2 := fun _ => Option (List V))
    (fun x => some (.p x)) (fun k n cs t m => (s t).map fun t => .tk k n cs t m) (fun i o => (s i).map fun i => .ref i o) (fun cs => some (.el cs)) (fun i o n c => (s i).map fun i => .arr i o n c) (fun i => (s i).map .map)
    (fun f _ _ b c => match b, c with | some b, some c => some (.fn f b c) | _, _ => none) (fun _ r => r.map .agg) (fun _ r => r.map .tup) (fun i => (s i).map .yld) (some .z) (fun k n t m o => (s t).map fun t => .gs k n t m o) (fun t m o => (s t).map fun t => .gp t m o)
    (some []) (fun _ _ x xs => match x, xs with | some x, some xs => some (x :: xs) | _, _ => none) cs
theorem rn2_eq (s : Nat → Option Nat) : ∀ (cs : List V), rn2 s cs = rnL s cs
  | [] => rfl
  | d :: ds => by
    show (match d.rnm s, rn2 s ds with | some x, some xs => some (x :: xs) | _, _ => none) = _
    rw [rn2_eq s ds]; rfl
theorem rnm_fn (s : Nat → Option Nat) (f : Go.Fn) (b c : List V) : (V.fn f b c).rnm s = match rnL s b, rnL s c with | some b, some c => some (.fn f b c) | _, _ => none := by rw [← rn2_eq, ← rn2_eq]; rfl
theorem rnm_agg (s : Nat → Option Nat) (b : List V) : (V.agg b).rnm s = (rnL s b).map .agg := by rw [← rn2_eq]; rfl
theorem rnm_tup (s : Nat → Option Nat) (b : List V) : (V.tup b).rnm s = (rnL s b).map .tup := by rw [← rn2_eq]; rfl
theorem map_ok {α γ : Type} {x : Option α} {f : α → γ} {c : γ} (h : x.map f = some c) : ∃ a, x = some a ∧ f a = c := by
  cases x with
  | none => cases h
  | some a => exact ⟨a, rfl, by simpa using h⟩
section
variable {s : Nat → Option Nat} {t : Nat → Nat} {k : Nat}
mutual
theorem V.rnm_ok (hs : Rnm s t k) : ∀ {d d' : V}, d.rnm s = some d' → d'.ren t = d ∧ d'.lt k = true
  | .p x, d', h => by
    have e : some (V.p x) = some d' := h
    cases e; exact ⟨rfl, rfl⟩
  | .tk q n cs i m, d', h => by
    obtain ⟨a, h1, rfl⟩ := map_ok (show (s i).map _ = some d' from h)
    obtain ⟨h2, h3⟩ := hs _ _ h1
    exact ⟨by simp [V.ren, h2], by simpa [V.lt, Nat.blt_eq] using h3⟩
  | .ref i o, d', h => by
    obtain ⟨a, h1, rfl⟩ := map_ok (show (s i).map _ = some d' from h)
    obtain ⟨h2, h3⟩ := hs _ _ h1
    exact ⟨by simp [V.ren, h2], by simpa [V.lt, Nat.blt_eq] using h3⟩
  | .el cs, d', h => by
    have e : some (V.el cs) = some d' := h
    cases e; exact ⟨rfl, rfl⟩
  | .arr i o n c, d', h => by
    obtain ⟨a, h1, rfl⟩ := map_ok (show (s i).map _ = some d' from h)
    obtain ⟨h2, h3⟩ := hs _ _ h1
    exact ⟨by simp [V.ren, h2], by simpa [V.lt, Nat.blt_eq] using h3⟩
  | .map i, d', h => by
    obtain ⟨a, h1, rfl⟩ := map_ok (show (s i).map _ = some d' from h)
    obtain ⟨h2, h3⟩ := hs _ _ h1
    exact ⟨by simp [V.ren, h2], by simpa [V.lt, Nat.blt_eq] using h3⟩
  | .gs k' n i m o, d', h => by
    obtain ⟨a, h1, rfl⟩ := map_ok (show (s i).map _ = some d' from h)
    obtain ⟨h2, h3⟩ := hs _ _ h1
    exact ⟨by simp [V.ren, h2], by simpa [V.lt, Nat.blt_eq] using h3⟩
  | .gp i m o, d', h => by
    obtain ⟨a, h1, rfl⟩ := map_ok (show (s i).map _ = some d' from h)
    obtain ⟨h2, h3⟩ := hs _ _ h1
    exact ⟨by simp [V.ren, h2], by simpa [V.lt, Nat.blt_eq] using h3⟩
  | .z, d', h => by
    have e : some V.z = some d' := h
    cases e; exact ⟨rfl, rfl⟩
  | .yld i, d', h => by
    obtain ⟨a, h1, rfl⟩ := map_ok (show (s i).map _ = some d' from h)
    obtain ⟨h2, h3⟩ := hs _ _ h1
    exact ⟨by simp [V.ren, h2], by simpa [V.lt, Nat.blt_eq] using h3⟩
  | .fn f b c, d', h => by
    rw [rnm_fn] at h
    cases hb : rnL s b with
    | none => rw [hb] at h; cases h
    | some b' =>
      cases hc : rnL s c with
      | none => rw [hb, hc] at h; cases h
      | some c' =>
        rw [hb, hc] at h; cases h
        obtain ⟨h1, h2⟩ := rnL_ok hs hb
        obtain ⟨h3, h4⟩ := rnL_ok hs hc
        exact ⟨by simp [V.ren, h1, h3], by simp [V.lt, h2, h4]⟩
  | .agg cs, d', h => by
    rw [rnm_agg] at h
    obtain ⟨a, h1, rfl⟩ := map_ok h
    obtain ⟨h2, h3⟩ := rnL_ok hs h1
    exact ⟨by simp [V.ren, h2], by simp [V.lt, h3]⟩
  | .tup cs, d', h => by
    rw [rnm_tup] at h
    obtain ⟨a, h1, rfl⟩ := map_ok h
    obtain ⟨h2, h3⟩ := rnL_ok hs h1
    exact ⟨by simp [V.ren, h2], by simp [V.lt, h3]⟩
theorem rnL_ok (hs : Rnm s t k) : ∀ {ds ds' : List V}, rnL s ds = some ds' → renL t ds' = ds ∧ ltL k ds' = true
  | [], ds', h => by
    have e : some ([] : List V) = some ds' := h
    cases e; exact ⟨rfl, rfl⟩
  | d :: ds, ds', h => by
    replace h : (match d.rnm s, rnL s ds with | some x, some xs => some (x :: xs) | _, _ => none) = some ds' := h
    cases hd : d.rnm s with
    | none => rw [hd] at h; cases h
    | some x =>
      cases hx : rnL s ds with
      | none => rw [hd, hx] at h; cases h
      | some xs =>
        rw [hd, hx] at h; cases h
        obtain ⟨h1, h2⟩ := V.rnm_ok hs hd
        obtain ⟨h3, h4⟩ := rnL_ok hs hx
        exact ⟨by simp [renL, h1, h3], by simp [ltL, h2, h4]⟩
end
theorem rnK_ok (hs : Rnm s t k) : ∀ {kv kv' : List (Value × V)}, rnK s kv = some kv' → renK t kv' = kv ∧ ltL k (kv'.map (·.2)) = true
  | [], kv', h => by
    have e : some ([] : List (Value × V)) = some kv' := h
    cases e; exact ⟨rfl, rfl⟩
  | q :: kv, kv', h => by
    replace h : (match q.2.rnm s, rnK s kv with | some x, some xs => some ((q.1, x) :: xs) | _, _ => none) = some kv' := h
    cases hd : q.2.rnm s with
    | none => rw [hd] at h; cases h
    | some x =>
      cases hx : rnK s kv with
      | none => rw [hd, hx] at h; cases h
      | some xs =>
        rw [hd, hx] at h; cases h
        obtain ⟨h1, h2⟩ := V.rnm_ok hs hd
        obtain ⟨h3, h4⟩ := rnK_ok hs hx
        exact ⟨by simp [renK, h1, h3], by simp [ltL, h2]; simpa using h4⟩
theorem rnF_ok (hs : Rnm s t k) : ∀ {kv kv' : Fv}, rnF s kv = some kv' → renF t kv' = kv ∧ ltF k kv' = true
  | [], kv', h => by
    have e : some ([] : Fv) = some kv' := h
    cases e; exact ⟨rfl, rfl⟩
  | q :: kv, kv', h => by
    replace h : (match q.2.rnm s, rnF s kv with | some x, some xs => some ((q.1, x) :: xs) | _, _ => none) = some kv' := h
    cases hd : q.2.rnm s with
    | none => rw [hd] at h; cases h
    | some x =>
      cases hx : rnF s kv with
      | none => rw [hd, hx] at h; cases h
      | some xs =>
        rw [hd, hx] at h; cases h
        obtain ⟨h1, h2⟩ := V.rnm_ok hs hd
        obtain ⟨h3, h4⟩ := rnF_ok hs hx
        exact ⟨by simp [renF, h1, h3], by simp [ltF, h2, h4]⟩
theorem Ob.rnm_ok (hs : Rnm s t k) {o o' : Ob} (h : o.rnm s = some o') : o'.ren t = o ∧ o'.lt k = true := by
  cases o with
  | dead => have e : some Ob.dead = some o' := h; cases e; exact ⟨rfl, rfl⟩
  | cells T cs =>
    obtain ⟨a, h1, rfl⟩ := map_ok (show (rnL s cs).map _ = some o' from h)
    obtain ⟨h2, h3⟩ := rnL_ok hs h1
    exact ⟨by simp [Ob.ren, h2], h3⟩
  | pc T cs => have e : some (Ob.pc T cs) = some o' := h; cases e; exact ⟨rfl, rfl⟩
  | fz T cs => have e : some (Ob.fz T cs) = some o' := h; cases e; exact ⟨rfl, rfl⟩
  | gr T q m cs => have e : some (Ob.gr T q m cs) = some o' := h; cases e; exact ⟨rfl, rfl⟩
  | tok T q m => have e : some (Ob.tok T q m) = some o' := h; cases e; exact ⟨rfl, rfl⟩
  | mp c bs kv =>
    obtain ⟨a, h1, rfl⟩ := map_ok (show (rnK s kv).map _ = some o' from h)
    obtain ⟨h2, h3⟩ := rnK_ok hs h1
    exact ⟨by simp [Ob.ren, h2], h3⟩
  | loop st pd f N fr ps a b j =>
    replace h : (match rnF s fr, s j with | some fr, some j => some (Ob.loop st pd f N fr ps a b j) | _, _ => none) = some o' := h
    cases hd : rnF s fr with
    | none => rw [hd] at h; cases h
    | some fr' =>
      cases hj : s j with
      | none => rw [hd, hj] at h; cases h
      | some j' =>
        rw [hd, hj] at h; cases h
        obtain ⟨h1, h2⟩ := rnF_ok hs hd
        obtain ⟨h3, h4⟩ := hs _ _ hj
        exact ⟨by simp [Ob.ren, h1, h3], by simp [Ob.lt, h2, Nat.blt_eq, h4]⟩
  | dfr b => have e : some (Ob.dfr b) = some o' := h; cases e; exact ⟨rfl, rfl⟩
  | itr j =>
    obtain ⟨a, h1, rfl⟩ := map_ok (show (s j).map _ = some o' from h)
    obtain ⟨h2, h3⟩ := hs _ _ h1
    exact ⟨by simp [Ob.ren, h2], by simpa [Ob.lt, Nat.blt_eq] using h3⟩
theorem pickO_ok {β : Type} {b : β} {H : List Ob} (hs : Rnm s t k) : ∀ {sel : List Nat} {go : List Ob → M β}, pickO H s sel go = .ok b → ∃ os : List Ob, os.length = sel.length ∧ (∀ (i j : Nat) (o : Ob), os[i]? = some o → sel[i]? = some j → H[j]? = some (o.ren t)) ∧ os.all (Ob.lt k) = true ∧ go os = .ok b
  | [], go, h => ⟨[], rfl, fun i j o h => by simp at h, rfl, h⟩
  | q :: sel, go, h => by
    replace h : (nth "object" H q fun o => ob "name" (o.rnm s) fun o' => pickO H s sel fun os => go (o' :: os)) = .ok b := h
    obtain ⟨o, h1, h2⟩ := nth_ok h
    obtain ⟨o', h3, h4⟩ := ob_ok h2
    obtain ⟨h5, h6⟩ := Ob.rnm_ok hs h3
    obtain ⟨os, h7, h8, h9, h10⟩ := pickO_ok hs h4
    refine ⟨o' :: os, by simp [h7], fun i j x hi hj => ?_, by simp [h6]; simpa using h9, h10⟩
    cases i with
    | zero => simp at hi hj; subst hi hj; rw [h5]; exact h1
    | succ i => simp at hi hj; exact h8 i j x hi hj
end
theorem wl_spec (s : Nat → Nat) : ∀ (S : List Nat) (Hc : List Ob) (q : Nat × Ob), q ∈ wl s S Hc → ∃ (i : Nat) (o : Ob), S[i]? = some q.1 ∧ Hc[i]? = some o ∧ q.2 = o.ren s
  | [], _, q, h => by cases h
  | _ :: _, [], q, h => by cases h
  | j :: js, o :: os, q, h => by
    simp only [wl, List.mem_cons] at h
    rcases h with rfl | h
    · exact ⟨0, o, rfl, rfl, rfl⟩
    · obtain ⟨i, o', h1, h2, h3⟩ := wl_spec s js os q h
      exact ⟨i + 1, o', by simpa using h1, by simpa using h2, h3⟩
/-- objects at some names -/
structure Pk (H Hc : List Ob) (sel : List Nat) : Prop where
  sl : Sel H Hc sel
  nd : sel.Nodup
  lt : Hc.all (Ob.lt Hc.length) = true
theorem Pk.of {β : Type} {b : β} {H : List Ob} {sel : List Nat} {go : List Ob → M β} (hn : nodupB sel = true) (h : pickO H (idx sel) sel go = .ok b) : ∃ Hc, Pk H Hc sel ∧ go Hc = .ok b := by
  obtain ⟨os, h1, h2, h3, h4⟩ := pickO_ok (Rnm.idx sel) h
  refine ⟨os, ⟨⟨h1.symm, fun i o hi => ?_⟩, nodupB_ok hn, by rw [h1]; exact h3⟩, h4⟩
  have hlt : i < sel.length := by rw [← h1]; exact (List.getElem?_eq_some_iff.1 hi).1
  exact h2 i _ o hi (sf_lt hlt)
theorem Pk.rd {H Hc : List Ob} {sel : List Nat} (h : Pk H Hc sel) : rdOk H (wl (sf sel) sel Hc) := fun q hq => by
  obtain ⟨i, o, h1, h2, h3⟩ := wl_spec _ _ _ _ hq
  have h4 := h.sl.2 i o h2
  have hlt : i < sel.length := (List.getElem?_eq_some_iff.1 h1).1
  rw [sf_lt hlt] at h1
  have e : sf sel i = q.1 := Option.some.inj h1
  rw [← e, h3]; exact h4
end Go.Dp
namespace Go.Dp
open Go Go.Mi Go.RowKit
def Xt.ex : Xt → Exit
  | .n => .normal
  | .ret => .ret
  | .exit id => .exit id
theorem lk_fu (U : Nat) : ∀ (l : Fr) (t : Nat), lk (l.fu U) t = cond (tb U t) (lk l.fv t) none
  | .e, t => by cases tb U t <;> rfl
  | .c s v r, t => by
    have ih := lk_fu U r t
    show lk (Bool.rec (motive := fun _ => Fv) (r.fu U) ((s, v) :: r.fu U) (tb U s)) t = cond (tb U t) (cond (Nat.beq s t) (some v) (lk r.fv t)) none
    cases hb : Nat.beq s t with
    | true =>
      have := Nat.eq_of_beq_eq_true hb
      subst this
      cases hs : tb U s with
      | true => simp only [lk, hb, cond_true]
      | false => rw [hs] at ih; simpa using ih
    | false =>
      cases hs : tb U s with
      | true => simp only [lk, hb, cond_false]; exact ih
      | false => simpa using ih
theorem fm_fu (U : Nat) (l : Fr) (t : Nat) : lk (Fm.fv (.mk U .e l)) t = lk (l.fu U) t := by
  rw [lk_fm, lk_fu]; rfl
/-- where a code's walk ends -/
def QE (P : Program) (N : Nat) (r : Option Nat) (rn : Option Nat) (fn : FuncId) (w0 : World) (g0 : Gh) (H0 : List Ob) (e : Xt) (l : Fr) (H : List Ob) (ds : List Df) : Exit → Act → World → Prop :=
  fun e' a w => e' = e.ex ∧ ∃ g, Rs w0 g0 H0 g w H ∧ OkE r N rn g w H (l.fu (useF P fn)) ds a
def IHok (E : Env) (ih : IH) : Prop := ∀ (N : Nat) (rn : Option Nat) (fn : FuncId) (c : Code) (l : Fr) (H : List Ob) (ds : List Df) (e : Xt) (l' : Fr) (H' : List Ob) (ds' : List Df), ih N rn fn c l H ds = .ok (.mk e l' H' ds') → codN N c = true →
  ∀ (r : Option Nat) (w0 : World) (g0 : Gh) (H0 : List Ob) (g : Gh) (w : World) (a : Act), Rs w0 g0 H0 g w H → OkE r N rn g w H (l.fu (useF E.P fn)) ds a → c.wpIn (Fw r) 0 E.P (QE E.P N r rn fn w0 g0 H0 e l' H' ds') a w
def Runs (P : Program) (f : FuncId) : Prop := ∀ args w, (callFunc f args).run P w = .ok (.enter f args) w
def NpOk (P : Program) (f : FuncId) : Prop := Runs P f ∧ ∀ (w : World) (args : Array Value), CallsDIn (Fw none) 0 P f args .returning w fun e u w' => (∃ v, e = .returned v) ∧ settle u = .returning ∧ Below w.heap.size w w'
/-- plain words name no object -/
def plainV : V → Bool
  | .p _ => true
  | .agg ds => ds.all fun d => match d with | .p _ => true | _ => false
  | _ => false
/-- what the evaluator is told of the program -/
structure EnvOk (E : Env) : Prop where
  nm : ∀ f fn c, E.P.funcs[f]? = some fn → fn.body = some c → Runs E.P f
  np : ∀ f, f ∈ E.np → NpOk E.P f
  mm : ∀ m, m ∈ E.mm → Runs E.P m.f ∧ m.xs.all plainV = true ∧ CE E.P m.f m.xs [] m.r m.H
/-! results -/
theorem eLoadRef_ld {β : Type} {b : β} {Pg : Program} {H : List Ob} {k : K β} {T i off : Nat} (h : eLoadRef Pg H k T i off = .ok b) : ∃ d rd, k d 0 rd [] = .ok b ∧ ∀ g w, Rs0 g w H → ∃ v, (loadVar T ⟨g.β i, off, none⟩).run Pg w = .ok v w ∧ RV g w H d v := by
  obtain ⟨o, h1, h2⟩ := nth_ok h
  split at h2
  · obtain ⟨ag, h3, h4⟩ := ty_ok h2
    rcases bb_ok h4 with ⟨rfl, h5⟩ | ⟨rfl, h5⟩
    · obtain ⟨n, h6, h7⟩ := ty_ok h5
      obtain ⟨h8, h9⟩ := ck_ok h7
      rw [takeL_eq, dropL_eq] at h9; rw [lenL_eq] at h8
      refine ⟨_, _, h9, fun g w hr => ?_⟩
      obtain ⟨us, hB, hc, _⟩ := hr.ob i _ h1
      have hl := Nat.le_of_ble_eq_true h8
      have hul := hc.len
      have hC : Cells w (g.β i) off ((us.drop off).take n) := fun j hj => by
        rw [List.length_take] at hj
        rw [hB.cell, List.getElem?_take, if_pos (by omega), List.getElem?_drop]
      exact ⟨_, run_loadVarA (semP_run h3) (semP_run h6) hC (by simp; omega), .agg ((hc.drop off).take n)⟩
    · obtain ⟨d, h6, h7⟩ := nth_ok h5
      refine ⟨_, _, h7, fun g w hr => ?_⟩
      obtain ⟨us, hB, hc, _⟩ := hr.ob i _ h1
      obtain ⟨v, hv, hrv⟩ := hc.get h6
      exact ⟨v, run_loadVar1 (semP_run h3) ((hB.cell (o := off)).trans hv), hrv⟩
  · cases h2
theorem resK_ok {β : Type} {b : β} {Pg : Program} {f : Fm} {H : List Ob} : ∀ {rs : List ResultVar} {k : List V → M β}, resK Pg f H rs k = .ok b → ∃ ds, k ds = .ok b ∧ ∀ g w (a : Act), Rs0 g w H → FrR g w H f.fv a.tmps → ∃ vs, (rs.mapM (rdRes a)).run Pg w = .ok vs w ∧ RVs g w H ds vs
  | [], k, h => ⟨[], h, fun g w a _ _ => ⟨[], by simp, .nil⟩⟩
  | .tmp t :: rs, k, h => by
    replace h : (ev f (.tmp t) fun d => resK Pg f H rs fun ds => k (d :: ds)) = .ok b := h
    obtain ⟨d, h1, h2⟩ := ev_ok h
    obtain ⟨ds, h3, h4⟩ := resK_ok h2
    refine ⟨d :: ds, h3, fun g w a hr hf => ?_⟩
    obtain ⟨v, h5, h6⟩ := hf t d h1
    obtain ⟨vs, h7, h8⟩ := h4 g w a hr hf
    exact ⟨v :: vs, by simp [List.mapM_cons, Sem.run_bind, rdRes, Array.getD_eq_getD_getElem?, h5, h7, Result.andThen], .cons h6 h8⟩
  | .cell t T :: rs, k, h => by
    replace h : (ev f (.tmp t) fun x => match x with
      | .ref i off => eLoadRef Pg H (fun d _ _ _ => resK Pg f H rs fun ds => k (d :: ds)) T i off
      | _ => .no "result") = .ok b := h
    obtain ⟨x, h1, h2⟩ := ev_ok h
    split at h2
    · rename_i i off
      obtain ⟨d, rd, h3, h4⟩ := eLoadRef_ld h2
      obtain ⟨ds, h5, h6⟩ := resK_ok h3
      refine ⟨d :: ds, h5, fun g w a hr hf => ?_⟩
      obtain ⟨u, h7, h8⟩ := hf t _ h1
      obtain ⟨v, h9, h10⟩ := h4 g w hr
      obtain ⟨vs, h11, h12⟩ := h6 g w a hr hf
      cases h8 with
      | ref hl => exact ⟨v :: vs, by simp [List.mapM_cons, Sem.run_bind, rdRes, Array.getD_eq_getD_getElem?, h7, asAddr, h9, h11, Result.andThen], .cons h10 h12⟩
    · cases h2
theorem one1V_rv {g : Gh} {w : World} {H : List Ob} {ds : List V} {vs : List Value} (h : RVs g w H ds vs) : RV g w H (one1V ds) (if h : vs.toArray.size = 1 then vs.toArray[0] else .tuple vs.toArray) := by
  cases h with
  | nil => exact .tup .nil
  | cons h hs =>
    cases hs with
    | nil => simpa [one1V] using h
    | cons h2 hs => simp only [one1V]; simpa using RV.tup (.cons h (.cons h2 hs))
/-! deferred calls at the end -/
theorem Rs.shut {g : Gh} {w : World} {H : List Ob} {i : Nat} (h : Rs0 g w H) (hi : H[i]? = some (.dfr true)) :
    Rs w g H g (w.putObj (g.β i) (.deferred none)) (H.set i (.dfr false)) := by
  have hil := (List.getElem?_eq_some_iff.1 hi).1
  have hown : ∀ b, own g H i b ↔ b = g.β i := fun b => by unfold own; rw [hi]; exact Iff.rfl
  have h1 : w.heap[g.β i]? = some (.deferred (some [])) := h.ob i _ hi
  have hlt0 := (Array.getElem?_eq_some_iff.1 h1).1
  refine Rs.one h hil rfl rfl rfl (by simp) (fun b hl hn => ⟨World.putObj_heap_other fun e => hn ((hown b).2 e), rfl⟩) (fun b o ho hlt => ?_) (fun b _ => Nat.le_refl _) (fun j _ => ⟨rfl, rfl⟩) (fun _ => ⟨trivial, rfl⟩)
    (fun m hm => by rw [hi] at hm; cases hm) (fun b ho => .inl ((hown b).2 ho)) (fun hmo => World.putObj_heap_same hlt0)
  have := (hown b).1 ho
  subst this
  simp [World.cell?, World.putObj_heap_same hlt0, h1]
theorem Rs.more {g : Gh} {w w' : World} {H : List Ob} (h : Rs0 g w H) (hb : Below w.heap.size w w') : Rs w g H g w' H := Rs.grow (E := g.E) h hb fun _ _ => rfl
theorem leave_ok {β : Type} {b : β} {E : Env} (hE : EnvOk E) : ∀ {ds : List Df} {H : List Ob} {k : List Ob → M β}, leave E.np ds H k = .ok b → ∃ H2, k H2 = .ok b ∧
    ∀ (fn : Func) (tmps : Array Value) (R : Ending → World → Prop) (w0 : World) (g0 : Gh) (H0 : List Ob) (g : Gh) (w : World) (qs : List Deferred), Rs w0 g0 H0 g w H → DfR g w H ds qs →
      (∀ g' w', Rs w0 g0 H0 g' w' H2 → Mo g w H g' w' H2 → ∃ v, (results fn tmps).run E.P w' = .ok v w' ∧ R (.returned v) w') → LeavesInM (Fw none) 0 E.P fn tmps R qs .returning w
  | [], H, k, h => ⟨H, h, fun fn tmps R w0 g0 H0 g w qs hr hd hk => by
      cases qs with
      | nil => exact hk g w hr (Mo.refl _ _ _)
      | cons q qs => exact hd.elim⟩
  | .mark i :: ds, H, k, h => by
    replace h : (nth "mark" H i fun o => match o with
      | .dfr true => leave E.np ds (H.set i (.dfr false)) k
      | _ => .no "mark") = .ok b := h
    obtain ⟨o, h1, h2⟩ := nth_ok h
    split at h2
    · obtain ⟨H2, h3, h4⟩ := leave_ok hE h2
      refine ⟨H2, h3, fun fn tmps R w0 g0 H0 g w qs hr hd hk => ?_⟩
      cases qs with
      | nil => exact hd.elim
      | cons q qs =>
        obtain ⟨d1, d2, d3⟩ := hd
        have s := Rs.shut hr.rs0 h1
        refine ⟨(by intro e; cases e), .inl ⟨g.β i, _, by rw [d2], run_takeDeferred (hr.ob i _ h1), ?_⟩⟩
        exact h4 fn tmps R w0 g0 H0 g _ qs (hr.then s) (d3.mo s.mo) fun g' w' hr' hm => hk g' w' hr' (s.mo.trans hm)
    · cases h2
  | .fn f cs :: ds, H, k, h => by
    replace h : ck "deferred" (E.np.contains f) (leave E.np ds H k) = .ok b := h
    obtain ⟨h1, h2⟩ := ck_ok h
    obtain ⟨hrun, hnp⟩ := hE.np f (by simpa using h1)
    obtain ⟨H2, h3, h4⟩ := leave_ok hE h2
    refine ⟨H2, h3, fun fn tmps R w0 g0 H0 g w qs hr hd hk => ?_⟩
    cases qs with
    | nil => exact hd.elim
    | cons q qs =>
      obtain ⟨⟨vs, d1, d2⟩, d3⟩ := hd
      refine ⟨(by intro e; cases e), .inr ⟨(fun e => by cases e), .func f, vs.toArray, f, vs.toArray, by rw [d1], by rw [d1]; simp [invoke]; exact hrun _ _, (fun _ _ => trivial), ?_⟩⟩
      obtain ⟨_, hc⟩ := hnp w vs.toArray
      refine ⟨trivial, fun c cs' hm hroom => ?_⟩
      obtain ⟨e, u', w', fr, ⟨⟨v, rfl⟩, hu, hb⟩, k1, k2, k3, k4⟩ := hc c cs' hm hroom
      refine ⟨.returned v, u', w', fr, ?_, k1, k2, k3, k4⟩
      show LeavesInM (Fw none) 0 E.P fn tmps R qs (settle u') w'
      rw [hu]
      have s := Rs.more hr.rs0 hb
      exact h4 fn tmps R w0 g0 H0 g w' qs (hr.then s) (d3.mo s.mo) fun g' w'' hr' hm => hk g' w'' hr' (s.mo.trans hm)
/-! what is kept -/
theorem sf_range {n : Nat} {fr : List Nat} {i : Nat} (hi : i < n) : sf (List.range n ++ fr) i = i := by
  unfold sf; rw [List.getD_eq_getElem?_getD, List.getElem?_append_left (by simpa using hi)]; simp [hi]
theorem gcK_ok {β : Type} {b : β} {n : Nat} {r : V} {H : List Ob} {k : V → List Ob → M β} (h : gcK n r H k = .ok b) : ∃ r' Hr sel, k r' Hr = .ok b ∧ r'.ren (sf sel) = r ∧ r'.lt Hr.length = true ∧ Pk H Hr sel ∧ ∀ i, i < n → i < sel.length ∧ sf sel i = i := by
  unfold gcK at h
  obtain ⟨sel, hsel⟩ : ∃ sel, (List.range n ++ (reach H (List.range n ++ r.ids [])).filter (Nat.ble n)) = sel := ⟨_, rfl⟩
  simp only [hsel] at h
  obtain ⟨h1, h2⟩ := ck_ok h
  obtain ⟨r', h3, h4⟩ := ob_ok h2
  obtain ⟨Hr, h5, h6⟩ := Pk.of h1 h4
  obtain ⟨h7, h8⟩ := V.rnm_ok (Rnm.idx sel) h3
  refine ⟨r', Hr, sel, h6, h7, by rw [← h5.sl.1]; exact h8, h5, fun i hi => ?_⟩
  rw [← hsel]
  exact ⟨by simp; omega, sf_range hi⟩
theorem frzK_ok {β : Type} {b : β} : ∀ {ds : List V} {H : List Ob} {k : List V → List Ob → M β}, frzK ds H k = .ok b → ∃ ds' H', k ds' H' = .ok b ∧ ∀ (w0 : World) (g0 : Gh) (H0 : List Ob) (g : Gh) (w : World) (vs : List Value), Rs w0 g0 H0 g w H → RVs g w H ds vs → ∃ g', Rs w0 g0 H0 g' w H' ∧ Mo g w H g' w H' ∧ RVs g' w H' ds' vs
  | [], H, k, h => ⟨[], H, h, fun w0 g0 H0 g w vs hr hv => ⟨g, hr, Mo.refl _ _ _, hv⟩⟩
  | d :: ds, H, k, h => by
    have plain : frzK ds H (fun ds H => k (d :: ds) H) = .ok b → ∃ ds' H', k ds' H' = .ok b ∧ ∀ (w0 : World) (g0 : Gh) (H0 : List Ob) (g : Gh) (w : World) (vs : List Value), Rs w0 g0 H0 g w H → RVs g w H (d :: ds) vs → ∃ g', Rs w0 g0 H0 g' w H' ∧ Mo g w H g' w H' ∧ RVs g' w H' ds' vs := fun h => by
      obtain ⟨ds', H', h1, h2⟩ := frzK_ok h
      refine ⟨_, H', h1, fun w0 g0 H0 g w vs hr hv => ?_⟩
      cases hv with
      | cons a as =>
        obtain ⟨g', k1, k2, k3⟩ := h2 w0 g0 H0 g w _ hr as
        exact ⟨g', k1, k2, .cons (a.mo k2) k3⟩
    have h : (match d with
      | .gs 1 n t m 0 => nth "freeze" H t fun o => match o with
        | .gr T s m' cs => ck "freeze" (an (Nat.beq s 1) (an (Nat.beq m m') (Nat.blt 0 n))) (frzK ds (H.set t (.tok T 1 (m + 1))) fun ds H => k (.tk 1 n (takeL cs n) t (m + 1) :: ds) H)
        | _ => .no "freeze"
      | .arr i off n cap => nth "freeze" H i fun o => match o with
        | .cells T cs => ob "freeze" (toPs cs) fun ps => ck "freeze" (an (Nat.ble (off + n) (lenL ps)) (Nat.ble n cap)) (frzK ds (H.set i (.fz T ps)) fun ds H => k (.p (.sl 1 n (takeL (dropL ps off) n)) :: ds) H)
        | _ => .no "freeze"
      | d => frzK ds H fun ds H => k (d :: ds) H) = .ok b := h
    split at h
    · rename_i n t m
      obtain ⟨o, h1, h2⟩ := nth_ok h
      split at h2
      · rename_i T s m' cs
        obtain ⟨h3, h4⟩ := ck_ok h2
        obtain ⟨c1, h5⟩ := an_ok h3
        obtain ⟨c2, c3⟩ := an_ok h5
        have e1 := Nat.eq_of_beq_eq_true c1
        have e2 := Nat.eq_of_beq_eq_true c2
        subst e1 e2
        obtain ⟨ds', H', h6, h7⟩ := frzK_ok h4
        rw [takeL_eq] at h6
        refine ⟨_, H', h6, fun w0 g0 H0 g w vs hr hv => ?_⟩
        cases hv with
        | cons a as =>
          obtain ⟨g1, k1, k2⟩ := Rs.freeze hr.rs0 h1 (by simpa [Nat.blt_eq] using c3) a
          obtain ⟨g', k3, k4, k5⟩ := h7 w0 g0 H0 g1 w _ (hr.then k1) (as.mo k1.mo)
          exact ⟨g', k3, k1.mo.trans k4, .cons (k2.mo k4) k5⟩
      · cases h2
    · rename_i i off n cap
      obtain ⟨o, h1, h2⟩ := nth_ok h
      split at h2
      · rename_i T cs
        obtain ⟨ps, h3, h4⟩ := ob_ok h2
        obtain ⟨h5, h6⟩ := ck_ok h4
        obtain ⟨c1, c2⟩ := an_ok h5
        rw [lenL_eq] at c1
        rw [takeL_eq, dropL_eq] at h6
        obtain ⟨ds', H', h7, h8⟩ := frzK_ok h6
        refine ⟨_, H', h7, fun w0 g0 H0 g w vs hr hv => ?_⟩
        cases hv with
        | cons a as =>
          obtain ⟨g1, k1, k2⟩ := Rs.freezeA hr.rs0 h1 h3 (Nat.le_of_ble_eq_true c1) (Nat.le_of_ble_eq_true c2) a
          obtain ⟨g', k3, k4, k5⟩ := h8 w0 g0 H0 g1 w _ (hr.then k1) (as.mo k1.mo)
          exact ⟨g', k3, k1.mo.trans k4, .cons (k2.mo k4) k5⟩
      · cases h2
    · exact plain h
theorem endK_ok {β : Type} {b : β} {q : Bool} {n : Nat} {ds : List V} {H : List Ob} {k : V → List Ob → M β} (h : endK q n ds H k = .ok b) : ∃ ds' H' r' Hr sel, k r' Hr = .ok b ∧ r'.ren (sf sel) = one1V ds' ∧ r'.lt Hr.length = true ∧ Pk H' Hr sel ∧ (∀ i, i < n → i < sel.length ∧ sf sel i = i) ∧
    ∀ (w0 : World) (g0 : Gh) (H0 : List Ob) (g : Gh) (w : World) (vs : List Value), Rs w0 g0 H0 g w H → RVs g w H ds vs → ∃ g', Rs w0 g0 H0 g' w H' ∧ RVs g' w H' ds' vs := by
  rcases bb_ok h with ⟨_, h⟩ | ⟨_, h⟩
  · obtain ⟨ds', H', h1, h2⟩ := frzK_ok h
    obtain ⟨r', Hr, sel, h3, h4, h5, h6, h7⟩ := gcK_ok h1
    exact ⟨ds', H', r', Hr, sel, h3, h4, h5, h6, h7, fun w0 g0 H0 g w vs hr hv => by obtain ⟨g', k1, _, k3⟩ := h2 w0 g0 H0 g w vs hr hv; exact ⟨g', k1, k3⟩⟩
  · obtain ⟨r', Hr, sel, h3, h4, h5, h6, h7⟩ := gcK_ok h
    exact ⟨ds, H, r', Hr, sel, h3, h4, h5, h6, h7, fun w0 g0 H0 g w vs hr hv => ⟨g, hr, hv⟩⟩
theorem enF_go : ∀ (xs : List V) (n t : Nat) (d : V), lk (Fr.fv (List.rec (motive := fun _ => Nat → Fr) (fun _ => .e) (fun d _ ih n => .c n d (ih (Nat.succ n))) xs n)) t = some d → n ≤ t ∧ xs[t - n]? = some d
  | [], n, t, d, h => by cases h
  | x :: xs, n, t, d, h => by
    replace h : cond (Nat.beq n t) (some x) (lk (Fr.fv (List.rec (motive := fun _ => Nat → Fr) (fun _ => .e) (fun d _ ih n => .c n d (ih (Nat.succ n))) xs (Nat.succ n))) t) = some d := h
    cases hb : Nat.beq n t with
    | true =>
      have := Nat.eq_of_beq_eq_true hb
      subst this
      rw [hb] at h; simp at h; subst h; simp
    | false =>
      rw [hb] at h
      obtain ⟨h1, h2⟩ := enF_go xs _ t d h
      refine ⟨by omega, ?_⟩
      rw [show t - n = (t - Nat.succ n) + 1 by omega]; simpa using h2
theorem enF_ok {xs : List V} {t : Nat} {d : V} (h : lk (enF xs).fv t = some d) : xs[t]? = some d := by simpa using (enF_go xs 0 t d h).2
theorem evF_ok {β : Type} {b : β} {E : Env} {ih : IH} {f : FuncId} {xs : List V} {H : List Ob} {k : V → List Ob → M β} (hE : EnvOk E) (hih : IHok E ih) (h : evF E ih f xs H k = .ok b) : ∃ r Hr, k r Hr = .ok b ∧ Runs E.P f ∧ CE E.P f xs H r Hr := by
  obtain ⟨fn, h1, h2⟩ := ob_ok h
  obtain ⟨c, h3, h4⟩ := ob_ok h2
  obtain ⟨h5, h6⟩ := ck_ok h4
  obtain ⟨h7, h8⟩ := an_ok h5
  obtain ⟨⟨e, l', H1, ds'⟩, h9, h10⟩ := M.b_ok h6
  have h11 : (match e with
      | .exit _ => (.no "exit" : M β)
      | _ => leave E.np ds' H1 fun H2 => resK E.P (.mk (useF E.P f) .e l') H2 fn.results.toList fun ds => endK (tb E.gm f) H.length ds H2 k) = .ok b := h10
  have hx : e ≠ .exit 0 ∧ (leave E.np ds' H1 fun H2 => resK E.P (.mk (useF E.P f) .e l') H2 fn.results.toList fun ds => endK (tb E.gm f) H.length ds H2 k) = .ok b ∧ (e.ex = .normal ∨ e.ex = .ret) := by
    cases e with
    | n => exact ⟨(fun e => by cases e), h11, .inl rfl⟩
    | ret => exact ⟨(fun e => by cases e), h11, .inr rfl⟩
    | exit id => cases h11
  obtain ⟨_, h12, hex⟩ := hx
  obtain ⟨H2, h13, h14⟩ := leave_ok hE h12
  obtain ⟨ds, h15, h16⟩ := resK_ok h13
  obtain ⟨ds2, H3, r, Hr, sel, h17, h18, h19, h20, h21, h22⟩ := endK_ok h15
  refine ⟨r, Hr, h17, hE.nm f fn c h1 h3, fun g w vs hr hv => ?_⟩
  refine (callsIn_wide (n := 0)).1 (callsIn_of_wp_marks h1 h3 trivial ?_)
  have hl := hv.len
  rw [lenL_eq] at h7
  have hle := Nat.le_of_ble_eq_true h7
  have hok : OkE none fn.ntmps none g w H ((enF xs).fu (useF E.P f)) [] { tmps := vs.toArray ++ Array.replicate (fn.ntmps - vs.toArray.size) undef, defers := [] } := by
    refine ⟨trivial, by simp; omega, fun t d ht => ?_, rfl⟩
    rw [lk_fu] at ht
    cases hb : tb (useF E.P f) t with
    | false => rw [hb] at ht; cases ht
    | true =>
      rw [hb] at ht
      obtain ⟨v, k1, k2⟩ := hv.get (enF_ok ht)
      have hlt : t < vs.length := (List.getElem?_eq_some_iff.1 k1).1
      refine ⟨v, ?_, k2⟩
      simp only [Array.getElem?_append, List.size_toArray, hlt, if_true]
      simpa using k1
  refine wpIn_mono (hih _ _ _ _ _ _ _ _ _ _ _ h9 h8 none w g H g w _ hr.rs hok) ?_
  rintro e' a' w' ⟨he, g', hr', hok'⟩
  have fin : LeavesInM (Fw none) 0 E.P fn a'.tmps (fun e w' => ∃ v g' r' H', e = .returned v ∧ (r' = r ∧ H' = Hr) ∧ Rs w g H g' w' H' ∧ RV g' w' H' r' v) a'.defers .returning w' := by
    refine h14 fn a'.tmps _ w g H g' w' a'.defers hr' hok'.df fun g2 w2 hr2 hm => ?_
    have hfr : FrR g2 w2 H2 (Fm.fv (.mk (useF E.P f) .e l')) a'.tmps := fun t d ht => by
      rw [fm_fu] at ht
      obtain ⟨v, k1, k2⟩ := hok'.fr t d ht
      exact ⟨v, k1, k2.mo hm⟩
    obtain ⟨vs', k1, k2⟩ := h16 g2 w2 a' hr2.rs0 hfr
    obtain ⟨g3, k3, k4⟩ := h22 _ _ _ _ _ _ hr2 k2
    refine ⟨_, ?_, ret_of (post := fun r' H' => r' = r ∧ H' = Hr) ⟨h20.sl, h20.nd, h20.lt, h21⟩ h19 ⟨rfl, rfl⟩ k3 (by rw [h18]; exact one1V_rv k4)⟩
    rw [results_eq, Array.mapM_eq_mapM_toList]
    simp [Sem.run_bind, k1, Result.andThen]
  rcases hex with hex | hex
  · rw [hex] at he; subst he; exact fin
  · rw [hex] at he; subst he; exact fin
end Go.Dp
