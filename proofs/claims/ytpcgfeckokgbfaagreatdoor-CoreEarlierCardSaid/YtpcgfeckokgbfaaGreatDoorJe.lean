/- Deep data: rules for calls, entries, returns. -/
import Derived.Test.YtpcgfeckokgbfaaGreatDoorJd
set_option linter.all false
namespace Go.Dp
open Go Go.Mi Go.RowKit
theorem args_rv {g : Gh} {w : World} {H : List Ob} {ρ : Operand → Option V} {e : Operand → Value} : ∀ {args : List Operand} {ds : List V}, args.map ρ = ds.map some → (∀ x ∈ args, ∀ u, ρ x = some u → RV g w H u (e x)) → RVs g w H ds (args.map e)
  | [], [], _, _ => .nil
  | [], _ :: _, h, _ => by simp at h
  | _ :: _, [], h, _ => by simp at h
  | x :: xs, d :: ds, h, hf => by
    simp only [List.map_cons, List.cons.injEq] at h
    exact .cons (hf x (by simp) d h.1) (args_rv h.2 fun y hy => hf y (by simp [hy]))
theorem sel_of {H Hc : List Ob} {sel : List Nat} (hl : sel.length = Hc.length) (h : rdOk H (wl (sf sel) sel Hc)) : Sel H Hc sel := by
  refine ⟨hl, fun i o hi => ?_⟩
  have hlt : i < sel.length := by rw [hl]; exact (List.getElem?_eq_some_iff.1 hi).1
  exact h _ (wl_get (sf sel) sel Hc i o _ (sf_lt hlt) hi)
/-- what a call asks for -/
structure Cl (Hc Hc' : List Ob) (ds : List V) (sel fr : List Nat) : Prop where
  len : sel.length = Hc.length
  lt : ltL Hc.length ds = true
  lo : Hc.all (Ob.lt Hc.length) = true
  nd : (sel ++ fr).Nodup
  le : sel.length ≤ Hc'.length
  ge : Hc'.length ≤ (sel ++ fr).length
theorem Cl.mk' {Hc Hc' : List Ob} {ds : List V} {sel fr : List Nat} (h : (Nat.beq sel.length Hc.length && ltL Hc.length ds && Hc.all (Ob.lt Hc.length) && decide (sel ++ fr).Nodup && Nat.ble sel.length Hc'.length && Nat.ble Hc'.length (sel ++ fr).length) = true) : Cl Hc Hc' ds sel fr := by
  simp only [Bool.and_eq_true, decide_eq_true_eq, Nat.beq_eq_true_eq, Nat.ble_eq] at h
  obtain ⟨⟨⟨⟨⟨a, b⟩, c⟩, d⟩, e⟩, f⟩ := h
  exact ⟨Nat.eq_of_beq_eq_true a, b, c, d, e, f⟩
theorem call_run {Pg : Program} {f : FuncId} {ds : List V} {Hc : List Ob} {post : V → List Ob → Prop} (hc : CD Pg f ds Hc post) {g : Gh} {w : World} {H : List Ob} {vs : List Value} {sel fr : List Nat} (hr : Rs0 g w H) (hsel : rdOk H (wl (sf sel) sel Hc)) (hfr : ∀ j ∈ fr, H[j]? = some .dead)
    (hcl : ∀ r H', post r H' → Cl Hc H' ds sel fr) (hcl0 : sel.length = Hc.length ∧ ltL Hc.length ds = true ∧ Hc.all (Ob.lt Hc.length) = true ∧ sel.Nodup) (hv : RVs g w H (renL (sf sel) ds) vs) :
    Calls Pg f vs.toArray w fun en w' => ∃ v, en = .returned v ∧ ∃ r H' g', post r H' ∧ Rs w g H g' w' (setW H (wl (sf (sel ++ fr)) (sel ++ fr) H')) ∧ RV g' w' (setW H (wl (sf (sel ++ fr)) (sel ++ fr) H')) (r.ren (sf (sel ++ fr))) v := by
  have hs := sel_of hcl0.1 hsel
  refine Calls.mono (hc (g.ren (sf sel)) w vs (hr.sel hs hcl0.2.2.2 hcl0.2.2.1) (renL_to hs.lnk ds vs hcl0.2.1 hv)) ?_
  rintro en w' ⟨v, g', r, H', rfl, hp, h1, h2⟩
  have c := hcl r H' hp
  obtain ⟨g2, k1, k2⟩ := merge hr hs c.nd hfr c.le c.ge h1
  exact ⟨v, rfl, r, H', g2, hp, k1, k2 r v h2⟩
section
variable {Pg : Program} {ty : TypeId} {ρ : Operand → Option V}
theorem It.callG {op : Op} {f : FuncId} {ds : List V} {Hc Hc' : List Ob} {sel fr : List Nat} {r : V} (hc : CD Pg f ds Hc (fun r' H' => r' = r ∧ H' = Hc')) (hcl : Cl Hc Hc' ds sel fr)
    (hrun : ∀ (g : Gh) (w : World) (H : List Ob) (e : Operand → Value) (o : Oper), o.op = op → (∀ x ∈ op.operands, ∀ u, ρ x = some u → RV g w H u (e x)) → ∃ vs : List Value, (execOp e o).run Pg w = .ok (.enter f vs.toArray) w ∧ RVs g w H (renL (sf sel) ds) vs) :
    It Pg op ty ρ (wl (sf sel) sel Hc ++ fr.map fun j => (j, .dead)) (wl (sf (sel ++ fr)) (sel ++ fr) Hc') (r.ren (sf (sel ++ fr))) := fun g w H e o ho ht hr hrd hf => by
  obtain ⟨vs, h1, h2⟩ := hrun g w H e o ho hf
  refine .inr (.inr ⟨_, h1, .of (Calls.mono (call_run hc hr (fun q hq => hrd q (List.mem_append_left _ hq)) (fun j hj => hrd (j, .dead) (List.mem_append_right _ (List.mem_map.2 ⟨j, hj, rfl⟩))) (fun r' H' hp => by obtain ⟨rfl, rfl⟩ := hp; exact hcl) ⟨hcl.len, hcl.lt, hcl.lo, (List.nodup_append.1 hcl.nd).1⟩ h2) ?_)⟩)
  rintro en w' ⟨v, rfl, r', H', g', ⟨rfl, rfl⟩, k1, k2⟩
  exact ⟨v, rfl, g', k1, k2⟩
theorem run_fn {f : FuncId} {args : List Operand} {tys : Array TypeId} {e : Operand → Value} {o : Oper} {w : World} (he : e (.func f) = .func (.func f) #[] #[]) (ho : o.op = .call { callee := .value (.func f), args := args.toArray, argTypes := tys }) (hf : ∀ args w, (callFunc f args).run Pg w = .ok (.enter f args) w) :
    (execOp e o).run Pg w = .ok (.enter f (args.map e).toArray) w := by
  unfold execOp; rw [ho]
  simp [resolve, he, Deferred.ofValue, invoke, Sem.run_bind, Result.andThen, hf]
theorem run_fv {f : FuncId} {x : Operand} {us cs : List Value} {args : List Operand} {tys : Array TypeId} {e : Operand → Value} {o : Oper} {w : World} (he : e x = .func (.func f) us.toArray cs.toArray) (ho : o.op = .call { callee := .value x, args := args.toArray, argTypes := tys }) (hf : ∀ args w, (callFunc f args).run Pg w = .ok (.enter f args) w) :
    (execOp e o).run Pg w = .ok (.enter f (us ++ args.map e ++ cs).toArray) w := by
  unfold execOp; rw [ho]
  simp [resolve, he, Deferred.ofValue, invoke, Sem.run_bind, Result.andThen, hf]
theorem It.call {f : FuncId} {args : List Operand} {tys : Array TypeId} {ds : List V} {Hc Hc' : List Ob} {sel fr : List Nat} {r : V} (hc : CD Pg f ds Hc (fun r' H' => r' = r ∧ H' = Hc')) (hf : ∀ args w, (callFunc f args).run Pg w = .ok (.enter f args) w)
    (hρ : ρ (.func f) = some (.p (.v (.func (.func f) #[] #[])))) (hargs : args.map ρ = (renL (sf sel) ds).map some) (hcl : Cl Hc Hc' ds sel fr) :
    It Pg (.call { callee := .value (.func f), args := args.toArray, argTypes := tys }) ty ρ (wl (sf sel) sel Hc ++ fr.map fun j => (j, .dead)) (wl (sf (sel ++ fr)) (sel ++ fr) Hc') (r.ren (sf (sel ++ fr))) :=
  It.callG hc hcl fun g w H e o ho hfr => ⟨args.map e, run_fn (hfr _ (by simp [Op.operands, Call.operands]) _ hρ).vi ho hf, args_rv hargs fun x hx => hfr x (by simp [Op.operands, Call.operands, hx])⟩
/-- a call that is about no object -/
theorem It.cp {f : FuncId} {args : List Operand} {tys : Array TypeId} {ds : List V} {r : V} (hc : CD Pg f ds [] (fun r' H' => r' = r ∧ H' = [])) (hf : ∀ args w, (callFunc f args).run Pg w = .ok (.enter f args) w)
    (hρ : ρ (.func f) = some (.p (.v (.func (.func f) #[] #[])))) (hargs : args.map ρ = (renL (sf []) ds).map some) (hlt : ltL 0 ds = true) {d : V} (hd : r.ren (sf []) = d) : It Pg (.call { callee := .value (.func f), args := args.toArray, argTypes := tys }) ty ρ [] [] d :=
  hd ▸ It.call (sel := []) (fr := []) hc hf hρ hargs ⟨rfl, hlt, rfl, List.nodup_nil, Nat.le_refl _, Nat.le_refl _⟩
end
/-! entries -/
def enumV : Nat → List V → Fv
  | _, [] => []
  | n, v :: vs => (n, v) :: enumV (n + 1) vs
theorem lk_enumV : ∀ (vs : List V) (n t : Nat) (v : V), lk (enumV n vs) t = some v → n ≤ t ∧ vs[t - n]? = some v
  | [], n, t, v, h => by simp [enumV, lk] at h
  | u :: us, n, t, v, h => by
    simp only [enumV, lk] at h
    by_cases e : n = t
    · subst e
      rw [show Nat.beq n n = true from Nat.beq_refl n] at h
      simp only [cond_true, Option.some.injEq] at h
      simp [h]
    · rw [beq_ne e] at h
      obtain ⟨h1, h2⟩ := lk_enumV us (n + 1) t v h
      refine ⟨by omega, ?_⟩
      have : t - n = (t - (n + 1)) + 1 := by omega
      rw [this]; simpa using h2
def RQ (w : World) (g : Gh) (H : List Ob) (post : V → List Ob → Prop) : Ending → World → Prop := fun e w' => ∃ v g' r H', e = .returned v ∧ post r H' ∧ Rs w g H g' w' H' ∧ RV g' w' H' r v
theorem CD.of {Pg : Program} {f : FuncId} {fn : Func} {c : Code} {N : Nat} {ds : List V} {H : List Ob} {post : V → List Ob → Prop} (hf : Pg.funcs[f]? = some fn) (hb : fn.body = some c) (hN : fn.ntmps = N) (hle : Nat.ble ds.length N = true)
    (h : ∀ w g, J ⟨⟨none, Pg, N, []⟩, w, g, H⟩ c (bodyPost Pg fn (RQ w g H post)) (enumV 0 ds) H) : CD Pg f ds H post := fun g w vs hr hv => by
  refine (callsIn_wide (n := 0)).1 (callsIn_of_wp hf hb trivial ?_)
  have hl := hv.len
  refine h w g g w _ hr.rs ⟨rfl, ?_, fun t d ht => ?_⟩
  · have : ds.length ≤ N := Nat.le_of_ble_eq_true hle
    simp [hN]; omega
  · obtain ⟨_, h2⟩ := lk_enumV ds 0 t d ht
    simp only [Nat.sub_zero] at h2
    obtain ⟨v, h3, h4⟩ := hv.get h2
    have hlt : t < vs.length := (List.getElem?_eq_some_iff.1 h3).1
    refine ⟨v, ?_, h4⟩
    simp only [Array.getElem?_append, List.size_toArray, hlt, if_true]
    simpa using h3
/-- places for objects to come -/
theorem J.ext {Y : Cy} {c : Code} {Q : Exit → Act → World → Prop} {l : Fv} {H : List Ob} (n : Nat) (h : J Y c Q l (H ++ List.replicate n .dead)) : J Y c Q l H := fun g w a hr ha => by
  obtain ⟨H2, hH2⟩ : ∃ H2, H ++ List.replicate n Ob.dead = H2 := ⟨_, rfl⟩
  rw [hH2] at h
  have hg : ∀ i, H2[i]? = H[i]? ∨ (H[i]? = none ∧ H2[i]? = some Ob.dead) ∨ (H[i]? = none ∧ H2[i]? = none) := fun i => by
    rw [← hH2]
    by_cases hi : i < H.length
    · exact .inl (List.getElem?_append_left hi)
    · rw [List.getElem?_append_right (by omega), List.getElem?_replicate]
      have e : H[i]? = none := List.getElem?_eq_none (by omega)
      split
      · exact .inr (.inl ⟨e, rfl⟩)
      · exact .inr (.inr ⟨e, rfl⟩)
  have hl : ∀ i, live H2 i ↔ live H i := fun i => by
    unfold live
    rcases hg i with e | ⟨e1, e2⟩ | ⟨e1, e2⟩
    · rw [e]
    · rw [e1, e2]; exact Iff.rfl
    · rw [e1, e2]
  have hc : ∀ i, cur H2 i = cur H i := fun i => by
    unfold cur
    rcases hg i with e | ⟨e1, e2⟩ | ⟨e1, e2⟩
    · rw [e]
    · rw [e1, e2]; rfl
    · rw [e1, e2]
  have ho : ∀ i b, own g H2 i b ↔ own g H i b := fun i b => by
    unfold own
    rcases hg i with e | ⟨e1, e2⟩ | ⟨e1, e2⟩
    · rw [e]
    · rw [e1, e2]; exact Iff.rfl
    · rw [e1, e2]
  have hmo : Mo g w H g w H2 := ⟨Nat.le_refl _, fun _ _ => Nat.le_refl _, fun _ _ _ _ => rfl, fun i hi => ⟨(hl i).2 hi, rfl⟩, fun t m ht => ⟨m, by rw [hc]; exact ht, Nat.le_refl _, fun _ => rfl⟩⟩
  refine h g w a ⟨hr.os, hr.tape, hr.output, hr.gl.mo hmo, hr.mo.trans hmo, hr.blk, fun i o hi => ?_, fun i j b h1 h2 => hr.sep i j b ((ho i b).1 h1) ((ho j b).1 h2), fun i b h1 => hr.lb i b ((ho i b).1 h1)⟩ (ha.mo hmo)
  rcases hg i with e | ⟨_, e2⟩ | ⟨_, e2⟩
  · rw [e] at hi; exact RO.mo hmo hi (fun _ _ => ⟨rfl, rfl⟩) (fun _ _ _ _ _ => rfl) (hr.ob i o hi)
  · rw [e2] at hi; cases hi; trivial
  · rw [e2] at hi; cases hi
/-! returns -/
/-- what is kept of the objects, by new names -/
theorem Rs.keep {w0 w : World} {g0 g : Gh} {H0 H Hr : List Ob} {sel : List Nat} (h : Rs w0 g0 H0 g w H) (hs : Sel H Hr sel) (hn : sel.Nodup) (hlt : Hr.all (Ob.lt Hr.length) = true) (hid : ∀ i, i < H0.length → i < sel.length ∧ sf sel i = i) : Rs w0 g0 H0 (g.ren (sf sel)) w Hr := by
  have h0 := h.rs0.sel hs hn hlt
  have hl := hs.lnk
  refine ⟨h.os, h.tape, h.output, h.gl, ⟨h.mo.size, h.mo.E, h.mo.cell, fun i hi => ?_, fun t m ht => ?_⟩, h.blk, h0.ob, h0.sep, fun i b ho => ?_⟩
  · obtain ⟨a, b⟩ := h.mo.live i hi
    obtain ⟨c, d⟩ := hid i (live_lt hi)
    refine ⟨(hl.live i (by rw [← hs.1]; exact c)).1 (by rw [d]; exact a), ?_⟩
    show g.β (sf sel i) = _
    rw [d]; exact b
  · obtain ⟨m', a, b, e⟩ := h.mo.tok t m ht
    obtain ⟨c, d⟩ := hid t (cur_lt ht)
    refine ⟨m', by rw [← hl.cur t (by rw [← hs.1]; exact c), d]; exact a, b, fun q => ?_⟩
    show g.h (sf sel t) = _
    rw [d]; exact e q
  · obtain ⟨_, o⟩ := own_ren hs ho
    exact h.lb _ b o
def Rd (Pg : Program) (l : Fv) (H : List Ob) (rv : ResultVar) (d : V) : Prop := ∀ (X : Cx) (g : Gh) (w : World) (a : Act), Rs0 g w H → OkD X g w H l a → ∃ v, (rdRes a rv).run Pg w = .ok v w ∧ RV g w H d v
theorem Rd.tmp {Pg : Program} {l : Fv} {H : List Ob} {t : Nat} {d : V} (h : lk l t = some d) : Rd Pg l H (.tmp t) d := fun X g w a _ ha => by
  obtain ⟨v, h1, h2⟩ := ha.2.2 t d h
  exact ⟨v, by simp [rdRes, Array.getD_eq_getD_getElem?, h1], h2⟩
theorem Rd.cell {Pg : Program} {l : Fv} {H : List Ob} {t T T' i off : Nat} {cs : List V} {d : V} (h : lk l t = some (.ref i off)) (hi : H[i]? = some (.cells T' cs)) (hT : ∀ w, (isAgg T).run Pg w = .ok false w) (hd : cs[off]? = some d) : Rd Pg l H (.cell t T) d := fun X g w a hr ha => by
  obtain ⟨u, h1, h2⟩ := ha.2.2 t _ h
  obtain ⟨us, hB, hc, _⟩ := hr.ob i _ hi
  obtain ⟨v, hv, hrv⟩ := hc.get hd
  cases h2 with | ref hl => exact ⟨v, by simp [rdRes, Array.getD_eq_getD_getElem?, h1, asAddr, Sem.run_bind, Result.andThen, run_loadVar1 hT ((hB.cell (o := off)).trans hv)], hrv⟩
theorem Rd.cellA {Pg : Program} {l : Fv} {H : List Ob} {t T T' i off n : Nat} {cs : List V} (h : lk l t = some (.ref i off)) (hi : H[i]? = some (.cells T' cs)) (hT : ∀ w, (isAgg T).run Pg w = .ok true w) (hn : ∀ w, (sizeOf T).run Pg w = .ok n w) (hl : Nat.ble (off + n) cs.length = true) :
    Rd Pg l H (.cell t T) (.agg ((cs.drop off).take n)) := fun X g w a hr ha => by
  obtain ⟨u, h1, h2⟩ := ha.2.2 t _ h
  obtain ⟨us, hB, hc, _⟩ := hr.ob i _ hi
  have hl := Nat.le_of_ble_eq_true hl
  have hul := hc.len
  have hC : Cells w (g.β i) off ((us.drop off).take n) := fun j hj => by
    rw [List.length_take] at hj
    rw [hB.cell, List.getElem?_take, if_pos (by omega), List.getElem?_drop]
  cases h2 with | ref hv => exact ⟨_, by simp [rdRes, Array.getD_eq_getD_getElem?, h1, asAddr, Sem.run_bind, Result.andThen, run_loadVarA hT hn hC (by simp; omega)], .agg ((hc.drop off).take n)⟩
section
variable {Pg : Program} {N : Nat} {l : Fv} {fn : Func} {e : Exit} {w0 : World} {g0 : Gh} {H0 H Hr : List Ob} {post : V → List Ob → Prop} {sel : List Nat}
/-- what a return needs: which objects are kept, by which names -/
structure Kp (H0 H Hr : List Ob) (sel : List Nat) : Prop where
  sl : Sel H Hr sel
  nd : sel.Nodup
  lt : Hr.all (Ob.lt Hr.length) = true
  id : ∀ i, i < H0.length → i < sel.length ∧ sf sel i = i
theorem Kp.nil {H : List Ob} : Kp [] H [] [] := ⟨⟨rfl, fun i o h => by simp at h⟩, List.nodup_nil, rfl, fun i h => by simp at h⟩
theorem ret_of {r : V} {v : Value} {g : Gh} {w : World} (hk : Kp H0 H Hr sel) (hlt : r.lt Hr.length = true) (hp : post r Hr) (hr : Rs w0 g0 H0 g w H) (hv : RV g w H (r.ren (sf sel)) v) : RQ w0 g0 H0 post (.returned v) w :=
  ⟨v, _, r, Hr, rfl, hp, hr.keep hk.sl hk.nd hk.lt hk.id, ren_to hk.sl.lnk r v hlt hv⟩
theorem body_of {rv : Array ResultVar} (hE : Exit.ends e = true) (h : ∀ (g : Gh) (w : World) (a : Act), Rs w0 g0 H0 g w H → OkD ⟨none, Pg, N, []⟩ g w H l a → ∃ v, (results fn a.tmps).run Pg w = .ok v w ∧ RQ w0 g0 H0 post (.returned v) w) :
    DJ ⟨⟨none, Pg, N, []⟩, w0, g0, H0⟩ (bodyPost Pg fn (RQ w0 g0 H0 post)) e l H := fun g w a hr ha => by
  obtain ⟨v, h1, h2⟩ := h g w a hr ha
  cases e <;> first | (exact ⟨ha.1, v, h1, h2⟩) | (simp [Exit.ends] at hE)
theorem DJ.ret1 {rv : ResultVar} {d r : V} (hE : Exit.ends e = true) (hres : fn.results = #[rv]) (h1 : Rd Pg l H rv d) (hw : Wv d (r.ren (sf sel))) (hk : Kp H0 H Hr sel) (hlt : r.lt Hr.length = true) (hp : post r Hr) : DJ ⟨⟨none, Pg, N, []⟩, w0, g0, H0⟩ (bodyPost Pg fn (RQ w0 g0 H0 post)) e l H :=
  body_of (rv := #[]) hE fun g w a hr ha => by
    obtain ⟨v, k1, k2⟩ := h1 _ g w a hr.rs0 ha
    exact ⟨v, by rw [results_eq, hres]; simp [Sem.run_bind, k1, Result.andThen], ret_of hk hlt hp hr (hw _ _ _ _ k2)⟩
theorem DJ.ret2 {rv rv' : ResultVar} {d d' r r' : V} (hE : Exit.ends e = true) (hres : fn.results = #[rv, rv']) (h1 : Rd Pg l H rv d) (h2 : Rd Pg l H rv' d') (hw : Wv d (r.ren (sf sel))) (hw' : Wv d' (r'.ren (sf sel))) (hk : Kp H0 H Hr sel) (hlt : (V.tup [r, r']).lt Hr.length = true) (hp : post (.tup [r, r']) Hr) :
    DJ ⟨⟨none, Pg, N, []⟩, w0, g0, H0⟩ (bodyPost Pg fn (RQ w0 g0 H0 post)) e l H :=
  body_of (rv := #[]) hE fun g w a hr ha => by
    obtain ⟨v, k1, k2⟩ := h1 _ g w a hr.rs0 ha
    obtain ⟨v', k3, k4⟩ := h2 _ g w a hr.rs0 ha
    exact ⟨.tuple #[v, v'], by rw [results_eq, hres]; simp [Sem.run_bind, k1, k3, Result.andThen], ret_of hk hlt hp hr (.tup (.cons (hw _ _ _ _ k2) (.cons (hw' _ _ _ _ k4) .nil)))⟩
theorem DJ.ret3 {rv rv' rv'' : ResultVar} {d d' d'' r r' r'' : V} (hE : Exit.ends e = true) (hres : fn.results = #[rv, rv', rv'']) (h1 : Rd Pg l H rv d) (h2 : Rd Pg l H rv' d') (h3 : Rd Pg l H rv'' d'') (hw : Wv d (r.ren (sf sel))) (hw' : Wv d' (r'.ren (sf sel))) (hw'' : Wv d'' (r''.ren (sf sel))) (hk : Kp H0 H Hr sel)
    (hlt : (V.tup [r, r', r'']).lt Hr.length = true) (hp : post (.tup [r, r', r'']) Hr) : DJ ⟨⟨none, Pg, N, []⟩, w0, g0, H0⟩ (bodyPost Pg fn (RQ w0 g0 H0 post)) e l H :=
  body_of (rv := #[]) hE fun g w a hr ha => by
    obtain ⟨v, k1, k2⟩ := h1 _ g w a hr.rs0 ha
    obtain ⟨v', k3, k4⟩ := h2 _ g w a hr.rs0 ha
    obtain ⟨v'', k5, k6⟩ := h3 _ g w a hr.rs0 ha
    exact ⟨.tuple #[v, v', v''], by rw [results_eq, hres]; simp [Sem.run_bind, k1, k3, k5, Result.andThen], ret_of hk hlt hp hr (.tup (.cons (hw _ _ _ _ k2) (.cons (hw' _ _ _ _ k4) (.cons (hw'' _ _ _ _ k6) .nil))))⟩
end
/-! calls of which not all is said -/
section
variable {Y : Cy} {Q : Exit → Act → World → Prop} {l : Fv} {H : List Ob} {ops : Array Oper} {rest : List Oper}
end
end Go.Dp
namespace Go.Dp
open Go Go.Mi Go.RowKit
/-! structs -/
def fillV (pl : List (Nat × Nat)) : List V → List (Nat × V) → Option (List V)
  | zs, [] => some zs
  | zs, (i, d) :: r => match pl[i]? with
    | none => none
    | some (off, size) => if Nat.beq d.cells.length size && Nat.ble (off + d.cells.length) zs.length then fillV pl (setAllV zs off d.cells) r else none
theorem setAll_fold : ∀ (vs us : List Value) (off j : Nat), ((vs.zipIdx j).foldl (fun (cs : Array Value) (c : Value × Nat) => cs.setIfInBounds (off + c.2) c.1) us.toArray) = (Mi.setAll us (off + j) vs).toArray
  | [], us, off, j => rfl
  | v :: vs, us, off, j => by
    simp only [List.zipIdx_cons, List.foldl_cons, Mi.setAll]
    rw [List.setIfInBounds_toArray, setAll_fold vs _ off (j + 1)]; rfl
theorem fill_rv {g : Gh} {w : World} {H : List Ob} {pl : List (Nat × Nat)} : ∀ {parts : List (Nat × V)} {vs : List Value} {zs out : List V} {us : List Value}, RVs g w H zs us → RVs g w H (parts.map (·.2)) vs → (parts.all fun q => q.2.cells.all V.one) = true → fillV pl zs parts = some out →
    ∃ A : List Value, Instr.fill (fun i => pl[i]?) us.toArray ((parts.map (·.1)).zip vs) = some A.toArray ∧ RVs g w H out A
  | [], vs, zs, out, us, hz, hp, _, hf => by
    cases hp; simp only [fillV, Option.some.injEq] at hf; subst hf
    exact ⟨us, by simp [Instr.fill], hz⟩
  | (i, d) :: r, vs, zs, out, us, hz, hp, ho, hf => by
    cases hp with
    | cons hd hr =>
      replace hd : RV g w H d _ := hd
      simp only [List.all_cons, Bool.and_eq_true] at ho
      replace ho : d.cells.all V.one = true ∧ _ := ho
      simp only [fillV] at hf
      cases hpl : pl[i]? with
      | none => rw [hpl] at hf; cases hf
      | some q =>
        obtain ⟨off, size⟩ := q
        rw [hpl] at hf
        simp only at hf
        split at hf
        · rename_i hc
          simp only [Bool.and_eq_true, Nat.ble_eq] at hc
          have hs := Nat.eq_of_beq_eq_true hc.1
          obtain ⟨cv, e1, e2, _⟩ := hd.cells ho.1
          have hl1 := e2.len
          have hl2 := hz.len
          obtain ⟨A, h1, h2⟩ := fill_rv (RVs.setAll hz e2) hr ho.2 hf
          refine ⟨A, ?_, h2⟩
          simp only [List.map_cons, List.zip_cons_cons, Instr.fill, hpl, e1]
          have e3 : cv.toArray.size = size := by simp; omega
          have e4 : ¬ (off + cv.toArray.size > us.toArray.size) := by simp; omega
          rw [if_neg (by simp only [ne_eq, Bool.or_eq_true, decide_eq_true_eq, not_or, Classical.not_not]; exact ⟨e3, e4⟩)]
          have hfold := setAll_fold cv us off 0
          rw [← h1]
          congr 1
          rw [← Array.foldl_toList, Array.toList_zipIdx]
          exact hfold
        · cases hf
section
variable {Pg : Program} {ty : TypeId} {ρ : Operand → Option V}
theorem i_build {T : Nat} {parts : List (Nat × Operand)} {ds : List V} {pl : List (Nat × Nat)} {zs : List Value} {out : List V} (hb : ∀ (c : Array Value) (ps : List (Nat × Value)) (w : World), Instr.fill (fun i => pl[i]?) zs.toArray ps = some c → (Instr.build T ps.toArray).run Pg w = .ok (.agg c) w)
    (hx : (parts.map (·.2)).map ρ = ds.map some) (ho : (((parts.map (·.1)).zip ds).all fun q => q.2.cells.all V.one) = true) (hf : fillV pl (zs.map fun v => .p (.v v)) ((parts.map (·.1)).zip ds) = some out) : It Pg (.build T parts.toArray) ty ρ [] [] (.agg out) := .pure fun g w H e o ho' _ _ h => by
  have hrv := args_rv (e := e) hx fun x hx u hu => h x (by
    simp only [Op.operands, List.mem_toArray]
    obtain ⟨q, hq, e1⟩ := List.mem_map.1 hx
    simpa using ⟨q.1, by rw [← e1]; exact hq⟩) u hu
  have hlen : (parts.map (·.1)).length = ds.length := by have := congrArg List.length hx; simpa using this
  have hz : RVs g w H (zs.map fun v => V.p (P.v v)) zs := by
    clear hf hb
    induction zs with
    | nil => exact .nil
    | cons u us ih => exact .cons (.v u) ih
  obtain ⟨A, h1, h2⟩ := fill_rv (parts := (parts.map (·.1)).zip ds) (vs := (parts.map (·.2)).map e) hz (by rw [List.map_snd_zip (by omega)]; exact hrv) ho hf
  rw [List.map_fst_zip (by omega)] at h1
  refine ⟨_, ?_, .agg h2⟩
  unfold execOp; rw [ho']
  have e2 : (parts.toArray.map fun (q : Nat × Operand) => (q.1, e q.2)) = ((parts.map (·.1)).zip ((parts.map (·.2)).map e)).toArray := by
    simp only [List.map_toArray, List.zip_map', List.map_map]; rfl
  show (do pure (Next.value (← Instr.build T (parts.toArray.map fun (q : Nat × Operand) => (q.1, e q.2)))) : Sem Next).run Pg w = _
  rw [e2]
  simp only [Sem.run_bind, hb _ _ w h1, Result.andThen, Sem.run_pure]
theorem i_fieldV {S f off : Nat} {x : Operand} {cs : List V} {d : V} (hf : ∀ (cs : List Value) (v : Value) (w : World), cs[off]? = some v → (Instr.field S (.agg cs.toArray) f).run Pg w = .ok v w) (hx : ρ x = some (.agg cs)) (hd : cs[off]? = some d) : It Pg (.field S x f) ty ρ [] [] d := .pure fun g w H e o ho _ _ h => by
  have e1 := h x (by simp [Op.operands]) _ hx
  generalize he : e x = v at e1
  cases e1 with
  | agg hc =>
    obtain ⟨u, h1, h2⟩ := hc.get hd
    exact ⟨u, by unfold execOp; rw [ho]; simp [he, hf _ _ w h1, Sem.run_bind, Result.andThen], h2⟩
theorem i_makeFunc {fn : Go.Fn} {bnd cap : List Operand} {bs cs : List V} (hb : bnd.map ρ = bs.map some) (hc : cap.map ρ = cs.map some) : It Pg (.makeFunc fn bnd.toArray cap.toArray) ty ρ [] [] (.fn fn bs cs) := .pure fun g w H e o ho _ _ h => by
  have h1 := args_rv (e := e) hb fun x hx u hu => h x (by simp [Op.operands, hx]) u hu
  have h2 := args_rv (e := e) hc fun x hx u hu => h x (by simp [Op.operands, hx]) u hu
  exact ⟨_, by unfold execOp; rw [ho]; simp [Instr.makeFunc, Sem.run_bind, Result.andThen], .fn h1 h2⟩
/-! literals of slices -/
theorem flat_rv {g : Gh} {w : World} {H : List Ob} : ∀ {ds : List V} {vs : List Value}, RVs g w H ds vs → (ds.all fun d => d.cells.all V.one) = true → RVs g w H (ds.flatMap V.cells) (vs.flatMap fun v => v.cells.toList) ∧ (∀ u ∈ vs.flatMap (fun v => v.cells.toList), one1 u = true) ∧ ∀ k, (∀ d ∈ ds, d.cells.length = k) → ∀ v ∈ vs, v.cells.size = k
  | _, _, .nil, _ => ⟨.nil, fun u hu => by simp at hu, fun k _ v hv => by simp at hv⟩
  | _, _, .cons (d := d) (v := v) h hs, ho => by
    simp only [List.all_cons, Bool.and_eq_true] at ho
    obtain ⟨cv, e1, e2, e3⟩ := h.cells ho.1
    obtain ⟨h1, h2, h3⟩ := flat_rv hs ho.2
    refine ⟨?_, fun u hu => ?_, fun k hk u hu => ?_⟩
    · simp only [List.flatMap_cons]
      rw [e1]; exact e2.append h1
    · simp only [List.flatMap_cons, List.mem_append] at hu
      rw [e1] at hu
      rcases hu with hu | hu
      · exact e3 u (by simpa using hu)
      · exact h2 u hu
    · rcases List.mem_cons.1 hu with rfl | hu
      · rw [e1]; have := e2.len; have := hk d (by simp); simp; omega
      · exact h3 k (fun d hd => hk d (by simp [hd])) u hu
theorem rps_of {g : Gh} {w : World} {H : List Ob} : ∀ {cs : List P} {us : List Value}, RVs g w H (cs.map .p) us → RPs g.E w cs us
  | [], us, h => by cases h; exact ⟨rfl, fun j c u h => by simp at h⟩
  | c :: cs, us, h => by
    cases h with
    | cons h hs =>
      have ih := rps_of hs
      refine ⟨by simp [ih.1], fun j c' u' h1 h2 => ?_⟩
      match j with
      | 0 => simp at h1 h2; subst h1; subst h2; cases h with | p h => exact h
      | j + 1 => exact ih.2 j c' u' (by simpa using h1) (by simpa using h2)
theorem bsl_run {t e k n : Nat} {z : Value} {os : List Operand} {parts : Array (Nat × Operand)} {ds : List V} {cs : List P} (ht : ∀ w, (underlying t).run Pg w = .ok (.slice e) w) (hk : ∀ w, (sizeOf e).run Pg w = .ok k w) (hz : ∀ w, (zeroValue e).run Pg w = .ok z w)
    (hparts : parts.toList = os.zipIdx.map (fun p => (p.2, p.1))) (hx : os.map ρ = ds.map some) (ho : (ds.all fun d => d.cells.all V.one && Nat.beq d.cells.length k) = true) (hcs : ds.flatMap V.cells = cs.map .p) (hn : ds.length = n) (hle : n * k ≤ 16777216)
    {g : Gh} {w : World} {H : List Ob} {ev : Operand → Value} {o : Oper} (hop : o.op = .buildSlice t n parts) (h : ∀ x ∈ (Op.buildSlice t n parts).operands, ∀ u, ρ x = some u → RV g w H u (ev x)) :
    ∃ us : List Value, (execOp ev o).run Pg w = .ok (.value (.slice (some ⟨w.heap.size, 0, none⟩) n n)) (w.alloc (.cells us.toArray e)) ∧ RPs g.E w cs us ∧ us.length = n * k := by
  have hmem : ∀ x ∈ os, x ∈ (Op.buildSlice t n parts).operands := fun x hx => by
    simp only [Op.operands, hparts, List.mem_toArray, List.map_map]
    obtain ⟨j, hj⟩ := List.getElem?_of_mem hx
    exact List.mem_map.2 ⟨(x, j), by rw [List.mem_zipIdx_iff_getElem?]; exact hj, rfl⟩
  have hrv := args_rv (e := ev) hx fun x hx u hu => h x (hmem x hx) u hu
  have ho1 : (ds.all fun d => d.cells.all V.one) = true := by rw [List.all_eq_true] at ho ⊢; exact fun d hd => by have := ho d hd; simp only [Bool.and_eq_true] at this; exact this.1
  have ho2 : ∀ d ∈ ds, d.cells.length = k := fun d hd => by have := List.all_eq_true.1 ho d hd; simp only [Bool.and_eq_true] at this; exact Nat.eq_of_beq_eq_true this.2
  obtain ⟨h1, h2, h3⟩ := flat_rv hrv ho1
  rw [hcs] at h1
  have hl : (os.map ev).length = n := by rw [← hrv.len, hn]
  have hr := run_bslice (P := Pg) ht hk hz hl (h3 k ho2) hle w
  have hp : parts.map (fun (p : Nat × Operand) => (p.1, ev p.2)) = ((os.map ev).zipIdx.map fun p => (p.2, p.1)).toArray := by
    apply Array.toList_inj.1
    rw [Array.toList_map, hparts]
    simp only [List.map_map, List.zipIdx_map]
    congr 1
  refine ⟨_, ?_, rps_of h1, ?_⟩
  · unfold execOp; rw [hop]
    show (do pure (Next.value (← Instr.buildSlice t n (parts.map fun (q : Nat × Operand) => (q.1, ev q.2)))) : Sem Next).run Pg w = _
    rw [hp]
    simp [Sem.run_bind, hr, Result.andThen]
  · have := h1.len
    rw [List.length_map] at this
    rw [← this]
    have e2 := congrArg List.length hcs
    rw [List.length_map] at e2
    rw [← e2, ← hn]
    clear hrv h1 h2 h3 ho ho1 hx hn hle hcs e2 this h hl hr hp hmem hop
    induction ds with
    | nil => simp
    | cons d ds ih => simp only [List.flatMap_cons, List.length_append, List.length_cons]; rw [ih fun d hd => ho2 d (by simp [hd]), ho2 d (by simp), Nat.add_mul]; omega
theorem i_bslice {t e k n : Nat} {z : Value} {os : List Operand} {parts : Array (Nat × Operand)} {ds : List V} {cs : List P} (ht : ∀ w, (underlying t).run Pg w = .ok (.slice e) w) (hk : ∀ w, (sizeOf e).run Pg w = .ok k w) (hz : ∀ w, (zeroValue e).run Pg w = .ok z w)
    (hparts : parts.toList = os.zipIdx.map (fun p => (p.2, p.1))) (hx : os.map ρ = ds.map some) (ho : (ds.all fun d => d.cells.all V.one && Nat.beq d.cells.length k) = true) (hcs : ds.flatMap V.cells = cs.map .p) (hn : ds.length = n) (hle : n * k ≤ 16777216) : It Pg (.buildSlice t n parts) ty ρ [] [] (.p (.sl k n cs)) := fun g w H ev o hop _ hr _ h => by
  obtain ⟨us, h1, h2, h3⟩ := bsl_run ht hk hz hparts hx ho hcs hn hle hop h
  have hg := Rs.grow (E := upd g.E w.heap.size (n * k)) hr (alloc_below w (.cells us.toArray e)) (fun b hb => upd_ne (by omega))
  refine .inl ⟨_, _, h1, _, hg, .p ?_⟩
  refine RPs.sl (us := us) (h2.mo hg.mo.size hg.mo.E hg.mo.cell) (by rw [h2.1]; exact h3) (Nat.le_refl _) (by show 0 + n * k ≤ upd g.E w.heap.size (n * k) w.heap.size; rw [upd_eq]; omega) (by simp) fun j u hj => ?_
  rw [(alloc_blk w us e).cell, Nat.zero_add]; exact hj
theorem i_bsliceT {t e k n i : Nat} {z : Value} {os : List Operand} {parts : Array (Nat × Operand)} {ds : List V} {cs : List P} (ht : ∀ w, (underlying t).run Pg w = .ok (.slice e) w) (hk : ∀ w, (sizeOf e).run Pg w = .ok k w) (hz : ∀ w, (zeroValue e).run Pg w = .ok z w)
    (hparts : parts.toList = os.zipIdx.map (fun p => (p.2, p.1))) (hx : os.map ρ = ds.map some) (ho : (ds.all fun d => d.cells.all V.one && Nat.beq d.cells.length k) = true) (hcs : ds.flatMap V.cells = cs.map .p) (hn : ds.length = n) (hle : n * k ≤ 16777216) (hm : n ≤ maxLen) : It Pg (.buildSlice t n parts) ty ρ [(i, .dead)] [(i, .tok e k 0)] (.tk k n cs i 0) := fun g w H ev o hop _ hr hrd h => by
  obtain ⟨us, h1, h2, h3⟩ := bsl_run ht hk hz hparts hx ho hcs hn hle hop h
  have hi := hrd.one
  have hg := Rs.tokNew (T := e) (k := k) (n := n) (us := us) hr hi h3 hm
  refine .inl ⟨_, _, h1, _, hg, .tk ?_ ⟨0, ?_, Nat.le_refl _, fun _ => (upd_eq _ _ _).symm⟩⟩
  · refine RPs.sl (us := us) (h2.mo hg.mo.size hg.mo.E hg.mo.cell) (by rw [h2.1]; exact h3) (Nat.le_refl _) (by show 0 + n * k ≤ upd g.E w.heap.size (n * k) w.heap.size; rw [upd_eq]; omega) (by simp) fun j u hj => ?_
    rw [(alloc_blk w us e).cell, Nat.zero_add]; exact hj
  · show curT (H.set i _)[i]? = _
    rw [set_eq (List.getElem?_eq_some_iff.1 hi).1]; rfl
/-! append -/
theorem i_append {t e k bytes n n2 i m : Nat} {z : Value} {s x : Operand} {cs cs2 : List P} {d : V} (ht : Pg.underlying t = some (.slice e)) (hi : (Pg.info? e).map (fun i => (i.zero, i.size, i.bytes)) = some (some z, k, bytes)) (hz : z.cells.size = k) (hk : 0 < k)
    (hs : ρ s = some (.tk k n cs i m)) (hx : ρ x = some d) (hd : d.slc = some (k, n2, cs2)) (ho : ∀ c ∈ cs2, c.one = true) (hmax : n + n2 ≤ 9223372036854775807) (hby : (n + n2) * bytes ≤ 140737488355328) :
    It Pg (.call { callee := .builtin .append, args := #[s, x], argTypes := #[t, t] }) ty ρ [(i, .tok e k m)] [(i, .tok e k (m + 1))] (.tk k (n + n2) (cs ++ cs2) i (m + 1)) := fun g w H ev o hop hty hr hrd h => by
  have e1 := h s (by simp [Op.operands, Call.operands]) _ hs
  have e2 := (h x (by simp [Op.operands, Call.operands]) _ hx).slc hd
  have hH := hrd.one
  have hil := (List.getElem?_eq_some_iff.1 hH).1
  cases e1 with
  | tk hp hk' =>
    obtain ⟨m', hc, _, hv⟩ := hk'
    have hcm : cur H i = some m := by unfold cur; rw [hH]; rfl
    rw [hcm] at hc; cases hc
    have hv := hv rfl
    obtain ⟨n0, us, ho0, hE0⟩ := hr.ob i _ hH
    -- the row of the slice that grows
    have hn0 : n0 = n ∧ RPs g.E w cs us := by
      rcases hp.row with ⟨f1, f2, f3⟩ | ⟨b, o', cap, us', f1, f2, f3, f4, f5, f6, f7⟩
      · rw [hv] at f1
        rcases ho0.2 with ⟨q1, q2⟩ | ⟨q, cp, cr, q1, _⟩
        · have : us = [] := List.eq_nil_of_length_eq_zero (by rw [ho0.1, q2, Nat.zero_mul])
          subst this; subst f3
          exact ⟨by omega, rfl, fun j c u h => by simp at h⟩
        · rw [f1] at q1; cases q1
      · rw [hv] at f1
        rcases ho0.2 with ⟨q1, q2⟩ | ⟨q, cp, cr, q1, _, hg, hnc, _, hcs, htk⟩
        · rw [f1] at q1; cases q1
        · rw [f1] at q1; cases q1
          refine ⟨rfl, ?_⟩
          have : us' = us := by
            apply List.ext_getElem?; intro j
            have hl1 : us'.length = n * k := by rw [← f6.1, f5]
            have hl2 := ho0.1
            by_cases hj : j < n * k
            · have hu' : us'[j]? = some us'[j] := List.getElem?_eq_getElem (by omega)
              have hc := f7 j _ hu'
              unfold World.cell? at hc
              simp only [hg, Nat.zero_add] at hc
              have h9 : (cr.toList.take (n * k))[j]? = cr.toList[j]? := by rw [List.getElem?_take, if_pos hj]
              rw [htk] at h9
              rw [hu', h9]; simpa using hc.symm
            · rw [List.getElem?_eq_none (by omega), List.getElem?_eq_none (by omega)]
          rw [← this]; exact f6
    obtain ⟨rfl, hru⟩ := hn0
    -- what the append does
    have key : ∃ v' w' news, (Builtin.append_ #[t, t] ty #[g.h i, ev x]).run Pg w = .ok v' w' ∧ w'.ownsRow 0 e k v' (n0 + n2) (us ++ news) ∧ w'.os = w.os ∧ w'.tape = w.tape ∧ w'.output = w.output ∧ w.heap.size ≤ w'.heap.size ∧
        ((v'.ownBlock = (g.h i).ownBlock ∧ ∀ b, b < w.heap.size → (g.h i).ownBlock ≠ some b → w'.heap[b]? = w.heap[b]?) ∨ (v'.ownBlock = some w.heap.size ∧ ∀ b, b < w.heap.size → w'.heap[b]? = w.heap[b]?)) ∧ RPs g.E w cs2 news := by
      rcases e2.row with ⟨f1, f2, f3⟩ | ⟨b, o', cap, ns, f1, f2, f3, f4, f5, f6, f7⟩
      · subst f2; subst f3
        obtain ⟨q, hi0, _, his, _⟩ : ∃ q, Pg.info? e = some q ∧ q.zero = some z ∧ q.size = k ∧ q.bytes = bytes := by
          cases hx : Pg.info? e with
          | none => rw [hx] at hi; cases hi
          | some q => rw [hx] at hi; simp only [Option.map_some, Option.some.injEq, Prod.mk.injEq] at hi; exact ⟨q, rfl, hi.1, hi.2.1, hi.2.2⟩
        refine ⟨g.h i, w, [], ?_, by simpa using ho0, rfl, rfl, rfl, Nat.le_refl _, .inl ⟨rfl, fun _ _ _ => rfl⟩, rfl, fun j c u h => by simp at h⟩
        rw [f1]
        rcases ho0.2 with ⟨q, hn⟩ | ⟨gg, cap, cr, q, _, hg, hc, _⟩
        · rw [q]; simp [Builtin.append_, run_underlying ht, sizeOf, typeInfo, hi0, Builtin.lenOf, Builtin.firstCells]
        · rw [q]; simp [Builtin.append_, run_underlying ht, sizeOf, typeInfo, hi0, Builtin.lenOf, Builtin.firstCells, hc, storeCells]
      · rw [f1]
        obtain ⟨v', w', r1, r2, r3, r4, r5, r6, r7⟩ := run_app3 (Pg := Pg) (ty := ty) (m := n2) (c := cap) (a := ⟨b, o', none⟩) (news := ns) ht hi hz hk ho0 (by rw [← f6.1, f5]) (fun j u hj => by rw [addr_add]; exact f7 j u hj) (f6.one ho) hmax hby
        exact ⟨v', w', ns, r1, r2, r3, r4, r5, r6, r7, f6⟩
    obtain ⟨v', w', news, r1, r2, r3, r4, r5, r6, r7, r8⟩ := key
    obtain ⟨hg, hE⟩ := Rs.tokApp hr hH ho0 r2 (Nat.le_add_right _ _) r3 r4 r5 r6 r7
    refine .inl ⟨v', w', ?_, _, hg, .tk ?_ ⟨m + 1, ?_, Nat.le_refl _, fun _ => (upd_eq _ _ _).symm⟩⟩
    · unfold execOp; rw [hop]
      simp [resolve, invoke, builtin, hty, hv, Sem.run_bind, Result.andThen, r1]
    · exact ownsRow.sl r2 ((hru.append r8).mo hg.mo.size hg.mo.E hg.mo.cell) hE
    · show curT (H.set i _)[i]? = _
      rw [set_eq hil]; rfl
end
end Go.Dp
namespace Go.Dp
open Go Go.Mi Go.RowKit
structure Im where
  rd : List (Nat × Ob)
  wr : List (Nat × Ob)
  d : V
  φ : List Ob → Prop := fun _ => True
def Im.keys (m : Im) : List Nat × List Nat := (m.rd.map (·.1), m.wr.map (·.1))
def Im.no : Im := ⟨[], [], .p (.v undef), fun _ => True⟩
/-- the same, where something is known of the objects all the while -/
def ItP (Φ : List Ob → Prop) (Pg : Program) (op : Op) (ty : TypeId) (ρ : Operand → Option V) (rd wr : List (Nat × Ob)) (d : V) : Prop :=
  ∀ (g : Gh) (w : World) (H : List Ob) (e : Operand → Value) (o : Oper), o.op = op → o.type = ty → Rs0 g w H → Φ H → rdOk H rd → (∀ x ∈ op.operands, ∀ u, ρ x = some u → RV g w H u (e x)) → Ex Pg e o w fun v w' => ∃ g', Rs w g H g' w' (setW H wr) ∧ RV g' w' (setW H wr) d v
theorem It.pw {Φ : List Ob → Prop} {Pg : Program} {op : Op} {ty : TypeId} {ρ : Operand → Option V} {rd wr : List (Nat × Ob)} {d : V} (h : It Pg op ty ρ rd wr d) : ItP Φ Pg op ty ρ rd wr d := fun g w H e o h1 h2 h3 _ => h g w H e o h1 h2 h3
inductive ItO (Pg : Program) (os : List Oper) (o : Oper) (l : Fv) (m : Im) : Prop
  | run (hg : o.guard = none) (h : ItP m.φ Pg o.op o.type (evV l) m.rd m.wr m.d) : ItO Pg os o l m
  | on {j dj : Nat} {want : Bool} (hg : o.guard = some (j, want)) (hj : (os[j]?).bind (·.dst) = some dj) (hb : lk l dj = some (.p (.v (.bool want)))) (h : ItP m.φ Pg o.op o.type (evV l) m.rd m.wr m.d) : ItO Pg os o l m
  | off {j dj : Nat} {want : Bool} (hg : o.guard = some (j, want)) (hj : (os[j]?).bind (·.dst) = some dj) (hb : lk l dj = some (.p (.v (.bool (!want))))) (hm : m = Im.no) : ItO Pg os o l m
  | offT {j dj : Nat} {want : Bool} {x : Array Value} (hg : o.guard = some (j, want)) (hj : (os[j]?).bind (·.dst) = some dj) (hb : lk l dj = some (.p (.v (.tuple x)))) (hm : m = Im.no) : ItO Pg os o l m
def Its (Pg : Program) (os0 : List Oper) : List Oper → List Im → Fv → Prop
  | [], [], _ => True
  | o :: os, m :: ms, l => ItO Pg os0 o l m ∧ Its Pg os0 os ms (putV o.dst m.d l)
  | _, _, _ => False
def RdAll : List Im → List Ob → Prop
  | [], _ => True
  | m :: ms, H => rdOk H m.rd ∧ RdAll ms (setW H m.wr)
/-- the frame, and the objects, when some operations have run -/
def frS : Nat → List Oper → List Im → (Nat → Bool) → Fv → Fv
  | k, o :: os, m :: ms, L, l => frS (k + 1) os ms L (if L k then putV o.dst m.d l else l)
  | _, _, _, _, l => l
def hpS : Nat → List Im → (Nat → Bool) → List Ob → List Ob
  | k, m :: ms, L, H => hpS (k + 1) ms L (if L k then setW H m.wr else H)
  | _, [], _, H => H
theorem hpS_len : ∀ (k : Nat) (ms : List Im) (L : Nat → Bool) (H : List Ob), (hpS k ms L H).length = H.length
  | _, [], _, _ => rfl
  | k, m :: ms, L, H => by
    rw [hpS, hpS_len]; split
    · exact setW_len _ _
    · rfl
theorem lk_put {dst : Option Tmp} {d : V} {l : Fv} {t : Nat} (h : dst ≠ some t) : lk (putV dst d l) t = lk l t := by
  cases dst with
  | none => rfl
  | some s =>
    have : s ≠ t := fun e => h (by rw [e])
    simp only [putV, lk, beq_ne this, cond_false]
theorem lk_put_eq {d : V} {l : Fv} {t : Nat} : lk (putV (some t) d l) t = some d := by
  simp only [putV, lk, show Nat.beq t t = true from Nat.beq_refl t, cond_true]
/-- slots that nobody writes who is in one set alone -/
theorem frS_eq {t : Nat} {L L' : Nat → Bool} : ∀ (k : Nat) (os : List Oper) (ms : List Im) (l l' : Fv), lk l t = lk l' t → (∀ (i : Nat) (o : Oper), os[i]? = some o → L (k + i) = L' (k + i) ∨ o.dst ≠ some t) → lk (frS k os ms L l) t = lk (frS k os ms L' l') t
  | k, [], ms, l, l', h, _ => by cases ms <;> exact h
  | k, o :: os, [], l, l', h, _ => h
  | k, o :: os, m :: ms, l, l', h, hd => by
    rw [frS, frS]
    refine frS_eq (k + 1) os ms _ _ ?_ fun i o' hi => by have := hd (i + 1) o' (by simpa using hi); rwa [show k + 1 + i = k + (i + 1) by omega]
    rcases hd 0 o (by simp) with e | e
    · rw [Nat.add_zero] at e
      rw [e]
      split
      · by_cases q : o.dst = some t
        · rw [q, lk_put_eq, lk_put_eq]
        · rw [lk_put q, lk_put q]; exact h
      · exact h
    · have h1 : ∀ (b : Bool) (l : Fv), lk (if b = true then putV o.dst m.d l else l) t = lk l t := fun b l => by
        cases b
        · rfl
        · exact lk_put e
      rw [h1, h1]; exact h
theorem setW_congr {id : Nat} : ∀ (ws : List (Nat × Ob)) (H H' : List Ob), H.length = H'.length → H[id]? = H'[id]? → (setW H ws)[id]? = (setW H' ws)[id]?
  | [], _, _, _, h => h
  | (i, o) :: r, H, H', hl, h => by
    rw [setW, setW]
    refine setW_congr r _ _ (by simp [hl]) ?_
    rw [List.getElem?_set, List.getElem?_set, hl]
    split
    · rfl
    · exact h
theorem hpS_eq {id : Nat} {L L' : Nat → Bool} : ∀ (k : Nat) (ms : List Im) (H H' : List Ob), H.length = H'.length → H[id]? = H'[id]? → (∀ (i : Nat) (m : Im), ms[i]? = some m → L (k + i) = L' (k + i) ∨ ∀ q ∈ m.wr, q.1 ≠ id) → (hpS k ms L H)[id]? = (hpS k ms L' H')[id]?
  | k, [], H, H', _, h, _ => h
  | k, m :: ms, H, H', hl, h, hd => by
    rw [hpS, hpS]
    have hlen : ∀ (b : Bool) (H : List Ob), (if b = true then setW H m.wr else H).length = H.length := fun b H => by cases b; rfl; exact setW_len _ _
    refine hpS_eq (k + 1) ms _ _ (by rw [hlen, hlen, hl]) ?_ fun i m' hi => by have := hd (i + 1) m' (by simpa using hi); rwa [show k + 1 + i = k + (i + 1) by omega]
    rcases hd 0 m (by simp) with e | e
    · rw [Nat.add_zero] at e
      rw [e]
      split
      · exact setW_congr _ _ _ hl h
      · exact h
    · have h1 : ∀ (b : Bool) (H : List Ob), (if b = true then setW H m.wr else H)[id]? = H[id]? := fun b H => by
        cases b
        · rfl
        · exact setW_out _ _ _ e
      rw [h1, h1]; exact h
/-- what an operation reads of the frame -/
def tmpsOf (o : Oper) : List Nat := o.op.operands.toList.filterMap fun | .tmp t => some t | _ => none
def usesO (os : List Oper) (o : Oper) : List Nat := (match o.guard with | some (j, _) => ((os[j]?).bind (·.dst)).toList | none => []) ++ tmpsOf o
def disj (a b : List Nat) : Bool := a.all fun x => !b.contains x
def dstL (o : Oper) : List Nat := o.dst.toList
/-- two operations that come in any order are not in each other's way -/
def apart (os : List Oper) (a b : Oper) (ka kb : List Nat × List Nat) : Bool := disj (dstL a) (usesO os b) && disj (dstL b) (usesO os a) && disj (dstL a) (dstL b) && disj ka.2 kb.1 && disj kb.2 ka.1 && disj ka.2 kb.2
def pairOk (os : List Oper) (b : Oper) (kb : List Nat × List Nat) (mk : Nat) : List Oper → List (List Nat × List Nat) → Nat → Bool
  | a :: as, ka :: kas, i => (mk.testBit i || apart os a b ka kb) && pairOk os b kb mk as kas (i + 1)
  | _, _, _ => true
def allOk (os0 : List Oper) (N : Nat) (ks0 : List (List Nat × List Nat)) : List Oper → List (List Nat × List Nat) → List Nat → Nat → Bool
  | b :: bs, kb :: kbs, mk :: mks, j => backOk b j && dOk N b.dst && (match b.guard with | some (i, _) => mk.testBit i | none => true) && pairOk os0 b kb mk (os0.take j) (ks0.take j) 0 && allOk os0 N ks0 bs kbs mks (j + 1)
  | [], [], [], _ => true
  | _, _, _, _ => false
theorem pairOk_get {os : List Oper} {b : Oper} {kb : List Nat × List Nat} {mk : Nat} : ∀ {as : List Oper} {kas : List (List Nat × List Nat)} {i0 i : Nat} {a : Oper} {ka : List Nat × List Nat}, pairOk os b kb mk as kas i0 = true → as[i]? = some a → kas[i]? = some ka → mk.testBit (i0 + i) = true ∨ apart os a b ka kb = true
  | [], _, i0, i, a, ka, _, h, _ => by simp at h
  | _ :: _, [], i0, i, a, ka, _, _, h => by simp at h
  | x :: as, y :: kas, i0, 0, a, ka, h, h1, h2 => by
    simp at h1 h2; subst h1; subst h2
    simp only [pairOk, Bool.and_eq_true, Bool.or_eq_true] at h
    simpa using h.1
  | x :: as, y :: kas, i0, i + 1, a, ka, h, h1, h2 => by
    simp only [pairOk, Bool.and_eq_true] at h
    have := pairOk_get h.2 (i := i) (by simpa using h1) (by simpa using h2)
    rwa [show i0 + 1 + i = i0 + (i + 1) by omega] at this
theorem allOk_get {os0 : List Oper} {N : Nat} {ks0 : List (List Nat × List Nat)} : ∀ {bs : List Oper} {kbs : List (List Nat × List Nat)} {mks : List Nat} {j0 j : Nat} {b : Oper}, allOk os0 N ks0 bs kbs mks j0 = true → bs[j]? = some b →
    ∃ kb mk, kbs[j]? = some kb ∧ mks[j]? = some mk ∧ backOk b (j0 + j) = true ∧ dOk N b.dst = true ∧ (∀ i want, b.guard = some (i, want) → mk.testBit i = true) ∧ pairOk os0 b kb mk (os0.take (j0 + j)) (ks0.take (j0 + j)) 0 = true
  | [], _, _, j0, j, b, _, h => by simp at h
  | _ :: _, [], _, j0, j, b, h, _ => by simp [allOk] at h
  | _ :: _, _ :: _, [], j0, j, b, h, _ => by simp [allOk] at h
  | x :: bs, y :: kbs, z :: mks, j0, 0, b, h, h1 => by
    simp at h1; subst h1
    simp only [allOk, Bool.and_eq_true] at h
    refine ⟨y, z, rfl, rfl, by simpa using h.1.1.1.1, h.1.1.1.2, fun i want e => ?_, by simpa using h.1.2⟩
    have := h.1.1.2; rw [e] at this; exact this
  | x :: bs, y :: kbs, z :: mks, j0, j + 1, b, h, h1 => by
    simp only [allOk, Bool.and_eq_true] at h
    obtain ⟨kb, mk, a1, a2, a3⟩ := allOk_get h.2 (j := j) (by simpa using h1)
    rw [show j0 + 1 + j = j0 + (j + 1) by omega] at a3
    exact ⟨kb, mk, by simpa using a1, by simpa using a2, a3⟩
theorem disj_spec {a b : List Nat} (h : disj a b = true) {x : Nat} (hx : x ∈ a) : ¬ x ∈ b := fun hb => by
  have := List.all_eq_true.1 h x hx
  simp at this; exact this hb
theorem Its.get {Pg : Program} {os0 : List Oper} : ∀ {os : List Oper} {ms : List Im} {l : Fv} {i : Nat} {o : Oper} {L : Nat → Bool} (k : Nat), Its Pg os0 os ms l → os[i]? = some o → (∀ j, j < i → L (k + j) = true) → (∀ j, i ≤ j → L (k + j) = false) → ∃ m, ms[i]? = some m ∧ ItO Pg os0 o (frS k os ms L l) m
  | [], _, l, i, o, L, k, _, h, _, _ => by simp at h
  | _ :: _, [], l, i, o, L, k, h, _, _, _ => h.elim
  | x :: os, m :: ms, l, 0, o, L, k, h, h1, _, hL => by
    simp at h1; subst h1
    refine ⟨m, rfl, ?_⟩
    have e : frS k (x :: os) (m :: ms) L l = l := by
      have hall : ∀ (k' : Nat) (os : List Oper) (ms : List Im), (∀ j, L (k' + j) = false) → frS k' os ms L l = l := fun k' os => by
        induction os generalizing k' with
        | nil => intro ms _; cases ms <;> rfl
        | cons y os ih =>
          intro ms hk
          cases ms with
          | nil => rfl
          | cons m ms =>
            have := hk 0; rw [Nat.add_zero] at this
            rw [frS, this]
            exact ih (k' + 1) ms fun j => by have := hk (j + 1); rwa [show k' + (j + 1) = k' + 1 + j by omega] at this
      exact hall k _ _ fun j => hL j (Nat.zero_le _)
    rw [e]; exact h.1
  | x :: os, m :: ms, l, i + 1, o, L, k, h, h1, h2, hL => by
    have h0 : L k = true := by have := h2 0 (by omega); rwa [Nat.add_zero] at this
    obtain ⟨m', e, hi⟩ := Its.get (L := L) (k + 1) h.2 (i := i) (by simpa using h1) (fun j hj => by have := h2 (j + 1) (by omega); rwa [show k + 1 + j = k + (j + 1) by omega]) (fun j hj => by have := hL (j + 1) (by omega); rwa [show k + 1 + j = k + (j + 1) by omega])
    refine ⟨m', by simpa using e, ?_⟩
    rw [frS, h0]; exact hi
theorem RdAll.get : ∀ {ms : List Im} {H : List Ob} {i : Nat} {m : Im} {L : Nat → Bool} (k : Nat), RdAll ms H → ms[i]? = some m → (∀ j, j < i → L (k + j) = true) → (∀ j, i ≤ j → L (k + j) = false) → rdOk (hpS k ms L H) m.rd
  | [], H, i, m, L, k, _, h, _, _ => by simp at h
  | x :: ms, H, 0, m, L, k, h, h1, _, hL => by
    simp at h1; subst h1
    have e : hpS k (x :: ms) L H = H := by
      have hall : ∀ (k' : Nat) (ms : List Im), (∀ j, L (k' + j) = false) → hpS k' ms L H = H := fun k' ms => by
        induction ms generalizing k' with
        | nil => intro _; rfl
        | cons y ms ih =>
          intro hk
          have := hk 0; rw [Nat.add_zero] at this
          rw [hpS, this]
          exact ih (k' + 1) fun j => by have := hk (j + 1); rwa [show k' + (j + 1) = k' + 1 + j by omega] at this
      exact hall k _ fun j => hL j (Nat.zero_le _)
    rw [e]; exact h.1
  | x :: ms, H, i + 1, m, L, k, h, h1, h2, hL => by
    have h0 : L k = true := by have := h2 0 (by omega); rwa [Nat.add_zero] at this
    rw [hpS, h0]
    exact RdAll.get (k + 1) h.2 (by simpa using h1) (fun j hj => by have := h2 (j + 1) (by omega); rwa [show k + 1 + j = k + (j + 1) by omega]) (fun j hj => by have := hL (j + 1) (by omega); rwa [show k + 1 + j = k + (j + 1) by omega])
end Go.Dp
