/- Closed calls: regions that draw their order. -/
import Derived.Test.YtpcgfeckokgbfaaGreatDoorJp
set_option linter.all false
namespace Go.Dp
open Go Go.Mi Go.RowKit
theorem It.gv {P : Program} {op : Op} {ty : TypeId} {l : Fv} {rd wr : List (Nat × Ob)} {d : V} (h : It P op ty (evG l) rd wr d) : It P op ty (evV l) rd wr d := fun g w H e o ho ht hr hrd hf =>
  h g w H e o ho ht hr hrd fun x hx u hu => by
    cases x with
    | tmp t => exact hf _ hx u hu
    | const v => exact hf _ hx u hu
    | func f => exact hf _ hx u hu
    | global q =>
      have e1 := (hf _ hx _ (rfl : evV l (.global q) = some (.p (.v (.pointer (some ⟨q, 0, none⟩)))))).vi
      have : some (glob GL q) = some u := hu
      cases this
      rw [e1]; exact glob_rv hr.gl GL q fun _ h => h
theorem evG_congr {l l' : Fv} (h : ∀ t, lk l t = lk l' t) : evG l = evG l' := by
  funext x
  cases x with
  | tmp t => exact h t
  | const v => rfl
  | func f => rfl
  | global q => rfl
/-! equality of words -/
theorem vlEq_ok {a b : Value} (h : vlEq a b = true) : a = b := vlIs_ok h
mutual
theorem plEq_ok : ∀ {a b : P}, plEq a b = true → a = b
  | .v x, .v y, h => by
    simp only [plEq] at h
    rw [vlEq_ok h]
  | .sl k n cs, .sl k' n' cs', h => by
    simp only [plEq] at h
    obtain ⟨h1, h2⟩ := an_ok h
    obtain ⟨h3, h4⟩ := an_ok h2
    rw [Nat.eq_of_beq_eq_true h1, Nat.eq_of_beq_eq_true h3, plsEq_ok h4]
  | .v _, .sl .., h => by simp [plEq] at h
  | .sl .., .v _, h => by simp [plEq] at h
theorem plsEq_ok : ∀ {a b : List P}, plsEq a b = true → a = b
  | [], [], _ => rfl
  | x :: xs, y :: ys, h => by
    simp only [plsEq] at h
    obtain ⟨h1, h2⟩ := an_ok h
    rw [plEq_ok h1, plsEq_ok h2]
  | [], _ :: _, h => by simp [plsEq] at h
  | _ :: _, [], h => by simp [plsEq] at h
end
theorem vEq_ok {a b : V} (h : vEq a b = true) : a = b := by
  unfold vEq at h
  split at h
  · rw [plEq_ok h]
  · obtain ⟨h1, h2⟩ := an_ok h
    obtain ⟨h3, h4⟩ := an_ok h2
    obtain ⟨h5, h6⟩ := an_ok h4
    obtain ⟨h7, h8⟩ := an_ok h6
    rw [Nat.eq_of_beq_eq_true h1, Nat.eq_of_beq_eq_true h3, Nat.eq_of_beq_eq_true h5, Nat.eq_of_beq_eq_true h7, plsEq_ok h8]
  · obtain ⟨h1, h2⟩ := an_ok h
    rw [Nat.eq_of_beq_eq_true h1, Nat.eq_of_beq_eq_true h2]
  · rw [Nat.eq_of_beq_eq_true h]
  · obtain ⟨h1, h2⟩ := an_ok h
    obtain ⟨h3, h4⟩ := an_ok h2
    obtain ⟨h5, h6⟩ := an_ok h4
    rw [Nat.eq_of_beq_eq_true h1, Nat.eq_of_beq_eq_true h3, Nat.eq_of_beq_eq_true h5, Nat.eq_of_beq_eq_true h6]
  · cases h
def IsCell (off : Nat) (d : V) (o : Ob) : Prop := ∃ T cs, o = .cells T cs ∧ cs[off]? = some d
theorem cellIs_ok {o : Ob} {off : Nat} {d : V} (h : cellIs o off d = true) : IsCell off d o := by
  unfold cellIs at h
  split at h
  · rename_i T cs
    rw [nthO_eq] at h
    cases hc : cs[off]? with
    | none => rw [hc] at h; cases h
    | some x => rw [hc] at h; rw [← vEq_ok (show vEq x d = true from h)]; exact ⟨T, cs, rfl, hc⟩
  · cases h
/-! one operation of a region -/
structure It1 where
  d : V
  m : Nat
  rd : List (Nat × Ob)
  wr : List (Nat × Ob)
  ld : Option (Nat × Nat × V)
def It1.ac (x : It1) : Ac := .mk (x.rd.map (·.1)) (x.wr.map (·.1)) x.wr x.ld
structure Ld (P : Program) (op : Op) (l : Fv) (H : List Ob) (x : It1) (q : Nat × Nat × V) : Prop where
  d : q.2.2 = x.d
  w : x.wr = []
  ty : ∃ T y, op = .load T y ∧ evG l y = some (.ref q.1 q.2.1) ∧ ∀ w, (isAgg T).run P w = .ok false w
def Gd (os0 : List Oper) (o : Oper) (l : Fv) : Prop := o.guard = none ∨ ∃ j dj want, o.guard = some (j, want) ∧ (os0[j]?).bind (·.dst) = some dj ∧ lk l dj = some (.p (.v (.bool want)))
structure Ran (P : Program) (os0 : List Oper) (o : Oper) (l : Fv) (H : List Ob) (x : It1) : Prop where
  gd : Gd os0 o l
  it : It P o.op o.type (evG l) x.rd x.wr x.d
  rd : rdOk (H ++ List.replicate x.m .dead) x.rd
  wr : ∀ q ∈ x.wr, q.1 < H.length + x.m
  ld : ∀ q, x.ld = some q → Ld P o.op l H x q
inductive St (P : Program) (os0 : List Oper) (o : Oper) (l : Fv) (H : List Ob) (x : It1) : Prop
  | ran (h : Ran P os0 o l H x)
  | off {j dj : Nat} {want : Bool} (hg : o.guard = some (j, want)) (hj : (os0[j]?).bind (·.dst) = some dj) (hb : lk l dj = some (.p (.v (.bool (!want))))) (hx : x = ⟨.p (.v undef), 0, [], [], none⟩) : St P os0 o l H x
  | offT {j dj : Nat} {want : Bool} {y : Array Value} (hg : o.guard = some (j, want)) (hj : (os0[j]?).bind (·.dst) = some dj) (hb : lk l dj = some (.p (.v (.tuple y)))) (hx : x = ⟨.p (.v undef), 0, [], [], none⟩) : St P os0 o l H x
def Rn (P : Program) (os0 : List Oper) : List Oper → List It1 → Fv → List Ob → Prop
  | [], [], _, _ => True
  | o :: os, x :: xs, l, H => St P os0 o l H x ∧ Rn P os0 os xs (putV o.dst x.d l) (setW (H ++ List.replicate x.m .dead) x.wr)
  | _, _, _, _ => False
def endL : List Oper → List It1 → Fv → Fv
  | o :: os, x :: xs, l => endL os xs (putV o.dst x.d l)
  | _, _, l => l
def endH : List It1 → List Ob → List Ob
  | x :: xs, H => endH xs (setW (H ++ List.replicate x.m .dead) x.wr)
  | [], H => H
theorem putV_congr {l l' : Fv} (h : ∀ t, lk l t = lk l' t) (dst : Option Tmp) (d : V) : ∀ t, lk (putV dst d l) t = lk (putV dst d l') t := fun t => by
  cases dst with
  | none => exact h t
  | some s => simp only [putV, lk, h]
theorem St.congr {P : Program} {os0 : List Oper} {o : Oper} {l l' : Fv} {H : List Ob} {x : It1} (h : ∀ t, lk l t = lk l' t) (hs : St P os0 o l H x) : St P os0 o l' H x := by
  cases hs with
  | ran hr =>
    refine .ran ⟨?_, by rw [← evG_congr h]; exact hr.it, hr.rd, hr.wr, fun q hq => ⟨(hr.ld q hq).d, (hr.ld q hq).w, by rw [← evG_congr h]; exact (hr.ld q hq).ty⟩⟩
    rcases hr.gd with h1 | ⟨j, dj, want, h1, h2, h3⟩
    · exact .inl h1
    · exact .inr ⟨j, dj, want, h1, h2, by rw [← h]; exact h3⟩
  | off hg hj hb hx => exact .off hg hj (by rw [← h]; exact hb) hx
  | offT hg hj hb hx => exact .offT hg hj (by rw [← h]; exact hb) hx
theorem Rn.congr {P : Program} {os0 : List Oper} : ∀ {os : List Oper} {xs : List It1} {l l' : Fv} {H : List Ob}, (∀ t, lk l t = lk l' t) → Rn P os0 os xs l H → Rn P os0 os xs l' H
  | [], [], _, _, _, _, _ => trivial
  | o :: os, x :: xs, _, _, _, h, hr => ⟨hr.1.congr h, hr.2.congr (putV_congr h _ _)⟩
  | [], _ :: _, _, _, _, _, h => h.elim
  | _ :: _, [], _, _, _, _, h => h.elim
theorem endL_congr : ∀ {os : List Oper} {xs : List It1} {l l' : Fv}, (∀ t, lk l t = lk l' t) → ∀ t, lk (endL os xs l) t = lk (endL os xs l') t
  | o :: os, x :: xs, _, _, h, t => endL_congr (os := os) (xs := xs) (putV_congr h _ _) t
  | [], [], _, _, h, t => h t
  | [], _ :: _, _, _, h, t => h t
  | _ :: _, [], _, _, h, t => h t
section
variable {β : Type} {b : β} {E : Env} {ih : IH} {N : Nat}
theorem goA_ok {dst : Option Tmp} {go : Fm → List Ob → List Ac → M β} {f : Fm} {H : List Ob} {acc : List Ac} {ld : V → Option (Nat × Nat × V)} {d : V} {m : Nat} {rd wr : List (Nat × Ob)} (h : goA dst go f H acc ld d m rd wr = .ok b) :
    ∃ f', go f' (setW (H ++ List.replicate m .dead) wr) ((⟨d, m, rd, wr, ld d⟩ : It1).ac :: acc) = .ok b ∧ f'.u = f.u ∧ ∀ t, lk f'.fv t = lk (putV dst d f.fv) t := by
  have h : putM dst (fun f => go f (newH H m wr) (.mk (mapL (·.1) rd) (mapL (·.1) wr) wr (ld d) :: acc)) d f = .ok b := h
  rw [newH_eq, mapL_eq, mapL_eq] at h
  obtain ⟨f', h1, h2, h3⟩ := putM_u (dst := dst) (k := fun f => go f (setW (H ++ List.replicate m .dead) wr) (.mk (rd.map (·.1)) (wr.map (·.1)) wr (ld d) :: acc)) (d := d) (f := f)
  exact ⟨f', h1.symm.trans h, h2, h3⟩
theorem opA_ne {op : Op} {ty : TypeId} {dst : Option Tmp} {go : Fm → List Ob → List Ac → M β} {f : Fm} {H : List Ob} {acc : List Ac} (hn : ¬ ∃ T x, op = .load T x) :
    opA op ty dst E ih go f H acc = evOp op ty E.P f H (fun d => goA dst go f H acc (fun _ => none) d 0 [] []) (goA dst go f H acc fun _ => none) (callA E ih f H (goA dst go f H acc fun _ => none)) fun _ => .no "defer" := by
  cases op <;> first | rfl | exact absurd ⟨_, _, rfl⟩ hn
theorem opA_ok (hE : EnvOk E) (hih : IHok E ih) {os0 : List Oper} {o : Oper} {go : Fm → List Ob → List Ac → M β} {f : Fm} {H : List Ob} {acc : List Ac} (hgd : Gd os0 o f.fv) (h : opA o.op o.type o.dst E ih go f H acc = .ok b) :
    ∃ x f', Ran E.P os0 o f.fv H x ∧ go f' (setW (H ++ List.replicate x.m .dead) x.wr) (x.ac :: acc) = .ok b ∧ f'.u = f.u ∧ ∀ t, lk f'.fv t = lk (putV o.dst x.d f.fv) t := by
  have fin : ∀ d m rd wr, It E.P o.op o.type (evG f.fv) rd wr d → rdOk (H ++ List.replicate m .dead) rd → (∀ q ∈ wr, q.1 < H.length + m) → goA o.dst go f H acc (fun _ => none) d m rd wr = .ok b →
      ∃ x f', Ran E.P os0 o f.fv H x ∧ go f' (setW (H ++ List.replicate x.m .dead) x.wr) (x.ac :: acc) = .ok b ∧ f'.u = f.u ∧ ∀ t, lk f'.fv t = lk (putV o.dst x.d f.fv) t := fun d m rd wr hi hrd hwr h => by
    obtain ⟨f', h1, h2, h3⟩ := goA_ok h
    exact ⟨⟨d, m, rd, wr, none⟩, f', ⟨hgd, hi, hrd, hwr, fun q hq => by cases hq⟩, h1, h2, h3⟩
  by_cases hld : ∃ T x, o.op = .load T x
  · obtain ⟨T, x, hop⟩ := hld
    rw [hop] at h
    obtain ⟨a0, h0, hz⟩ := ev_ok (show ev f x _ = .ok b from h)
    split at hz
    · rename_i t m off
      obtain ⟨T', cs, g1, g2⟩ := grK_ok hz
      obtain ⟨ag, g3, g4⟩ := ty_ok g2
      rcases bb_ok g4 with ⟨_, g5⟩ | ⟨rfl, g5⟩
      · cases g5
      · obtain ⟨c, g6, g7⟩ := nth_ok g5
        obtain ⟨a', g8, g9⟩ := ev_ok g7
        rw [h0] at g8
        cases g8
        exact fin (.p c) 0 _ [] (by rw [hop]; exact i_gLoad (semP_run g3) h0 g6) (by simp [rdOk, g1]) (fun q hq => by cases hq) g9
    obtain ⟨a, h1, h2⟩ := ev_ok (show ev f x _ = .ok b from hz)
    split at h2
    · rcases eLoadEl_ok (ty := o.type) (f := f) (H := H) (k := fun _ _ _ _ => .no "") h1 h2 with ⟨d, hi, hk⟩ | ⟨_, _, _, _, _, _, _, hk⟩
      · exact fin d 0 [] [] (by rw [hop]; exact hi) (by simp [rdOk]) (fun q hq => by cases hq) hk
      · cases hk
    · rename_i i off
      obtain ⟨ob, d, h3, h4, h5⟩ := eLoadRef_it h2
      have hi : It E.P o.op o.type (evG f.fv) [(i, ob)] [] d := by rw [hop]; exact h5 _ _ _ h1
      obtain ⟨a', h6, h7⟩ := ev_ok h4
      rw [h1] at h6
      cases h6
      obtain ⟨ag, h8, h9⟩ := ty_ok h7
      have hrd : rdOk (H ++ List.replicate 0 .dead) [(i, ob)] := by simp [rdOk, h3]
      rcases bb_ok h9 with ⟨rfl, h10⟩ | ⟨rfl, h10⟩
      · exact fin d 0 _ [] hi hrd (fun q hq => by cases hq) h10
      · obtain ⟨f', h11, h12, h13⟩ := goA_ok h10
        exact ⟨⟨d, 0, [(i, ob)], [], some (i, off, d)⟩, f', ⟨hgd, hi, hrd, (fun q hq => by cases hq), fun q hq => by cases hq; exact ⟨rfl, rfl, T, x, hop, h1, semP_run h8⟩⟩, h11, h12, h13⟩
    · cases h2
  rw [opA_ne hld] at h
  rcases evOp_ok h with (⟨d, hi, hk⟩ | ⟨d, m, rd, wr, hi, hrd, hwr, hk⟩) | ⟨c, x, hop, hcx, hk⟩ | ⟨c, hop, hk⟩
  · exact fin d 0 [] [] hi (by simp [rdOk]) (fun q hq => by cases hq) hk
  · exact fin d m rd wr hi hrd hwr hk
  · obtain ⟨fv, h1, h2⟩ := ev_ok (show ev f x _ = .ok b from hk)
    obtain ⟨xs, h3, h4⟩ := evl_ok h2
    have ho : ∀ {d rd wr}, It E.P (.call { callee := .value x, args := c.args, argTypes := c.argTypes }) o.type (evG f.fv) rd wr d → It E.P o.op o.type (evG f.fv) rd wr d := fun h6 => by
      obtain ⟨cc, ca, ct⟩ := c
      have hcx : cc = .value x := hcx
      subst hcx
      rw [hop]; exact h6
    split at h4
    · obtain ⟨r', m, rd, wr, h6, h7, h8, h9⟩ := callY_it (tys := c.argTypes) (ty := o.type) hih h1 h3 h4
      exact fin _ _ _ _ (ho h6) h7 h8 h9
    · obtain ⟨r', m, rd, wr, h6, h7, h8, h9⟩ := callV_it (tys := c.argTypes) (ty := o.type) hE hih h1 h3 h4
      exact fin _ _ _ _ (ho h6) h7 h8 h9
  · cases hk
end
end Go.Dp
namespace Go.Dp
open Go Go.Mi Go.RowKit
section
variable {β : Type} {b : β} {E : Env} {ih : IH} {N : Nat}
noncomputable def regA' (E : Env) (ih : IH) (N : Nat) (os0 : List Oper) (H0 : List Ob) (k : Fm → List Ob → M β) (os : List Oper) : Fm → List Ob → List Ac → M β :=
  List.rec (motive := fun _ => Fm → List Ob → List Ac → M β) (fun f H acc => ck "order" (ordB os0 N H0 acc.reverse) (k f H))
    (fun o _ go f H acc => Oper.rec (motive := fun _ => M β) (fun dst op ty _ _ g => Option.rec (motive := fun _ => M β) (opA op ty dst E ih go f H acc)
      (fun q => gdK os0 q f (opA op ty dst E ih go f H acc) (putM dst (fun f => go f H (.mk [] [] [] none :: acc)) (.p (.v undef)) f)) g) o) os
theorem regA_ok (hE : EnvOk E) (hih : IHok E ih) {os0 : List Oper} {H0 : List Ob} {k : Fm → List Ob → M β} : ∀ {os : List Oper} {f : Fm} {H : List Ob} {acc : List Ac}, regA' E ih N os0 H0 k os f H acc = .ok b →
    ∃ xs f' H', Rn E.P os0 os xs f.fv H ∧ ordB os0 N H0 (acc.reverse ++ xs.map It1.ac) = true ∧ k f' H' = .ok b ∧ f'.u = f.u ∧ (∀ t, lk f'.fv t = lk (endL os xs f.fv) t) ∧ H' = endH xs H
  | [], f, H, acc, h => by
    obtain ⟨h1, h2⟩ := ck_ok (show ck "order" (ordB os0 N H0 acc.reverse) (k f H) = .ok b from h)
    exact ⟨[], f, H, trivial, by simpa using h1, h2, rfl, fun _ => rfl, rfl⟩
  | o :: os, f, H, acc, h => by
    have step : ∀ x f1, St E.P os0 o f.fv H x → f1.u = f.u → (∀ t, lk f1.fv t = lk (putV o.dst x.d f.fv) t) → regA' E ih N os0 H0 k os f1 (setW (H ++ List.replicate x.m .dead) x.wr) (x.ac :: acc) = .ok b →
        ∃ xs f' H', Rn E.P os0 (o :: os) xs f.fv H ∧ ordB os0 N H0 (acc.reverse ++ xs.map It1.ac) = true ∧ k f' H' = .ok b ∧ f'.u = f.u ∧ (∀ t, lk f'.fv t = lk (endL (o :: os) xs f.fv) t) ∧ H' = endH xs H := fun x f1 hs hu hl h => by
      obtain ⟨xs, f', H', h1, h2, h3, h4, h5, h6⟩ := regA_ok hE hih h
      refine ⟨x :: xs, f', H', ⟨hs, h1.congr hl⟩, by simpa using h2, h3, h4.trans hu, fun t => ?_, h6⟩
      rw [h5]; exact endL_congr hl t
    obtain ⟨dst, op, ty, pos, af, gd⟩ := o
    have hop : ∀ gd, Gd os0 { dst := dst, op := op, type := ty, pos := pos, after := af, guard := gd } f.fv → opA op ty dst E ih (regA' E ih N os0 H0 k os) f H acc = .ok b →
        ∃ x f1, Ran E.P os0 { dst := dst, op := op, type := ty, pos := pos, after := af, guard := gd } f.fv H x ∧ regA' E ih N os0 H0 k os f1 (setW (H ++ List.replicate x.m .dead) x.wr) (x.ac :: acc) = .ok b ∧ f1.u = f.u ∧ ∀ t, lk f1.fv t = lk (putV dst x.d f.fv) t := fun gd hg h =>
      opA_ok (o := { dst := dst, op := op, type := ty, pos := pos, after := af, guard := gd }) hE hih hg h
    cases gd with
    | none =>
      obtain ⟨x, f1, h1, h2, h3, h4⟩ := hop none (.inl rfl) h
      exact step x f1 (.ran h1) h3 h4 h2
    | some q =>
      obtain ⟨j, want⟩ := q
      obtain ⟨dj, h1, h2⟩ := gdK_ok (show gdK os0 (j, want) f _ _ = .ok b from h)
      rcases h2 with ⟨h3, h4⟩ | ⟨h3, h4⟩
      · obtain ⟨x, f1, h5, h6, h7, h8⟩ := hop (some (j, want)) (.inr ⟨j, dj, want, rfl, h1, h3⟩) h4
        exact step x f1 (.ran h5) h7 h8 h6
      · obtain ⟨f1, h5, h6, h7⟩ := putM_u (dst := dst) (k := fun f => regA' E ih N os0 H0 k os f H (.mk [] [] [] none :: acc)) (d := .p (.v undef)) (f := f)
        have h8 := h5.symm.trans h4
        have h8 : regA' E ih N os0 H0 k os f1 (setW (H ++ List.replicate 0 .dead) []) ((⟨.p (.v undef), 0, [], [], none⟩ : It1).ac :: acc) = .ok b := by simpa [setW, It1.ac] using h8
        refine step ⟨.p (.v undef), 0, [], [], none⟩ f1 ?_ h6 h7 h8
        rcases h3 with h3 | ⟨y, h3⟩
        · exact .off rfl h1 h3 rfl
        · exact .offT rfl h1 h3 rfl
end
/-! loads that read what nobody turns -/
def phiL (q : Nat × Nat × V) (H : List Ob) : Prop := ∃ o, H[q.1]? = some o ∧ IsCell q.2.1 q.2.2 o
theorem setW_phi {q : Nat × Nat × V} : ∀ {wr : List (Nat × Ob)} {H : List Ob}, wrStill q wr = true → phiL q H → phiL q (setW H wr)
  | [], H, _, h => h
  | x :: wr, H, hw, h => by
    replace hw : (Bool.rec (motive := fun _ => Bool) (wrStill q wr) (an (cellIs x.2 q.2.1 q.2.2) (wrStill q wr)) (Nat.beq x.1 q.1) : Bool) = true := hw
    have e : setW H (x :: wr) = setW (H.set x.1 x.2) wr := rfl
    rw [e]
    cases hb : Nat.beq x.1 q.1 with
    | false =>
      rw [hb] at hw
      refine setW_phi hw ?_
      obtain ⟨o, h1, h2⟩ := h
      exact ⟨o, by rw [set_ne fun e => by rw [e, Nat.beq_refl] at hb; cases hb]; exact h1, h2⟩
    | true =>
      rw [hb] at hw
      obtain ⟨h3, h4⟩ := an_ok hw
      refine setW_phi h4 ?_
      obtain ⟨o, h1, h2⟩ := h
      have e2 := Nat.eq_of_beq_eq_true hb
      exact ⟨x.2, by rw [e2, set_eq (List.getElem?_eq_some_iff.1 h1).1], cellIs_ok h3⟩
theorem stillAt_ok {i : Nat} {q : Nat × Nat × V} : ∀ {as : List Ac} {ms : List Nat}, stillAt i q as ms = true → ∀ (j : Nat) (rk wk : List Nat) (wr : List (Nat × Ob)) (ld : Option (Nat × Nat × V)), as[j]? = some (.mk rk wk wr ld) → tb (ms.getD j 0) i = true ∨ wrStill q wr = true
  | [], ms, _, j, _, _, _, _, ha => by simp at ha
  | a :: as, [], h, _, _, _, _, _, _ => by cases h
  | a :: as, m :: ms, h, j, rk, wk, wr, ld, ha => by
    replace h : an (Bool.rec (motive := fun _ => Bool) (match a with | .mk _ _ wr _ => wrStill q wr) true (tb m i)) (stillAt i q as ms) = true := h
    obtain ⟨h1, h2⟩ := an_ok h
    cases j with
    | zero =>
      simp at ha
      subst ha
      cases hb : tb m i with
      | true => exact .inl (by simpa using hb)
      | false => rw [hb] at h1; exact .inr h1
    | succ j =>
      simp at ha
      have := stillAt_ok h2 j rk wk wr ld ha
      simpa using this
theorem stillB_ok {n : Nat} {H : List Ob} {acc0 : List Ac} {mks : List Nat} : ∀ {acc : List Ac} {i0 : Nat}, stillB n H acc0 mks acc i0 = true → ∀ (i : Nat) (rk wk : List Nat) (wr : List (Nat × Ob)) (q : Nat × Nat × V), acc[i]? = some (.mk rk wk wr (some q)) → q.1 < n →
    (∃ o, H[q.1]? = some o ∧ IsCell q.2.1 q.2.2 o) ∧ stillAt (i0 + i) q acc0 mks = true
  | [], _, _, i, _, _, _, _, ha, _ => by simp at ha
  | a :: acc, i0, h, i, rk, wk, wr, q, ha, hq => by
    have hh : stillB n H acc0 mks acc (Nat.succ i0) = true ∧ ∀ rk wk wr q, a = .mk rk wk wr (some q) → (Bool.rec (motive := fun _ => Bool) true (an (Option.rec (motive := fun _ => Bool) false (fun o => cellIs o q.2.1 q.2.2) (nthO H q.1)) (stillAt i0 q acc0 mks)) (Nat.ble (Nat.succ q.1) n) : Bool) = true := by
      obtain ⟨rk', wk', wr', ld'⟩ := a
      cases ld' with
      | none => exact ⟨(an_ok (show an true (stillB n H acc0 mks acc (Nat.succ i0)) = true from h)).2, fun _ _ _ _ e => by cases e⟩
      | some q' =>
        obtain ⟨h1, h2⟩ := an_ok (show an (Bool.rec (motive := fun _ => Bool) true (an (Option.rec (motive := fun _ => Bool) false (fun o => cellIs o q'.2.1 q'.2.2) (nthO H q'.1)) (stillAt i0 q' acc0 mks)) (Nat.ble (Nat.succ q'.1) n)) (stillB n H acc0 mks acc (Nat.succ i0)) = true from h)
        exact ⟨h2, fun _ _ _ _ e => by cases e; exact h1⟩
    obtain ⟨h2, h1'⟩ := hh
    cases i with
    | zero =>
      simp at ha
      have h1 := h1' _ _ _ _ ha
      have hb : Nat.ble (Nat.succ q.1) n = true := Nat.ble_eq_true_of_le hq
      rw [hb] at h1
      obtain ⟨h3, h4⟩ := an_ok h1
      rw [nthO_eq] at h3
      refine ⟨?_, by simpa using h4⟩
      cases ho : H[q.1]? with
      | none => rw [ho] at h3; cases h3
      | some o => rw [ho] at h3; exact ⟨o, rfl, cellIs_ok h3⟩
    | succ i =>
      simp at ha
      obtain ⟨h3, h4⟩ := stillB_ok h2 i rk wk wr q ha hq
      exact ⟨h3, by rw [show i0 + (i + 1) = Nat.succ i0 + i by omega]; exact h4⟩
/-! from what was run to the rule -/
open Classical in
noncomputable def imOf (lo : Nat) (x : It1) : Im := match x.ld with
  | some q => if q.1 < lo then ⟨[], x.wr, x.d, phiL q⟩ else ⟨x.rd, x.wr, x.d, fun _ => True⟩
  | none => ⟨x.rd, x.wr, x.d, fun _ => True⟩
theorem imOf_wr (lo : Nat) (x : It1) : (imOf lo x).wr = x.wr := by unfold imOf; split <;> (try split) <;> rfl
theorem imOf_d (lo : Nat) (x : It1) : (imOf lo x).d = x.d := by unfold imOf; split <;> (try split) <;> rfl
theorem imOf_rd (lo : Nat) (x : It1) {q : Nat × Ob} (h : q ∈ (imOf lo x).rd) : q ∈ x.rd := by
  unfold imOf at h; split at h
  · split at h
    · cases h
    · exact h
  · exact h
theorem imOf_keys (lo : Nat) (x : It1) : (imOf lo x).keys = key2 lo x.ac := by
  obtain ⟨d, m, rd, wr, ld⟩ := x
  cases ld with
  | none => rfl
  | some q =>
    unfold imOf
    by_cases h : q.1 < lo
    · simp only [h, if_true]
      show _ = (Bool.rec (motive := fun _ => List Nat) _ [] (Nat.ble (Nat.succ q.1) lo), _)
      rw [show Nat.ble (Nat.succ q.1) lo = true from Nat.ble_eq_true_of_le h]; rfl
    · simp only [h, if_false]
      show _ = (Bool.rec (motive := fun _ => List Nat) _ [] (Nat.ble (Nat.succ q.1) lo), _)
      rw [show Nat.ble (Nat.succ q.1) lo = false from by cases hb : Nat.ble (Nat.succ q.1) lo with | false => rfl | true => exact absurd (Nat.le_of_ble_eq_true hb) h]; rfl
theorem imOf_zero (x : It1) : (imOf 0 x).keys = key1 x.ac ∧ (imOf 0 x).φ = fun _ => True := by
  obtain ⟨d, m, rd, wr, ld⟩ := x
  cases ld with
  | none => exact ⟨rfl, rfl⟩
  | some q =>
    refine ⟨?_, ?_⟩
    · unfold imOf; simp only [Nat.not_lt_zero, if_false]; rfl
    · unfold imOf; simp only [Nat.not_lt_zero, if_false]
theorem St.ito {P : Program} {os0 : List Oper} {o : Oper} {l : Fv} {H : List Ob} {x : It1} (lo : Nat) (h : St P os0 o l H x) : ItO P os0 o l (imOf lo x) := by
  cases h with
  | ran h =>
    have hit : ItP (imOf lo x).φ P o.op o.type (evV l) (imOf lo x).rd (imOf lo x).wr (imOf lo x).d := by
      unfold imOf
      split
      · rename_i q hq
        split
        · obtain ⟨h1, h2, T, y, h3, h4, h5⟩ := h.ld q hq
          rw [h2, ← h1]
          intro g w H e o' ho ht hr hφ hrd hf
          obtain ⟨ob, k1, T', cs, rfl, k2⟩ := hφ
          have := (i_loadR (Pg := P) (ty := o.type) (ρ := evG l) (T := T) (T' := T') (x := y) (i := q.1) (off := q.2.1) (d := q.2.2) h5 h4 k2).gv
          exact this g w H e o' (ho.trans h3) ht hr (rd1 k1) (by rw [← h3]; exact hf)
        · exact h.it.gv.pw
      · exact h.it.gv.pw
    rcases h.gd with h1 | ⟨j, dj, want, h1, h2, h3⟩
    · exact .run h1 hit
    · exact .on h1 h2 h3 hit
  | off hg hj hb hx => subst hx; exact .off hg hj hb rfl
  | offT hg hj hb hx => subst hx; exact .offT hg hj hb rfl
def sumM : List It1 → Nat
  | [] => 0
  | x :: xs => x.m + sumM xs
theorem setW_app : ∀ (wr : List (Nat × Ob)) (H : List Ob) (n : Nat), (∀ q ∈ wr, q.1 < H.length) → setW (H ++ List.replicate n Ob.dead) wr = setW H wr ++ List.replicate n Ob.dead
  | [], _, _, _ => rfl
  | q :: wr, H, n, h => by
    have hq := h q (by simp)
    show setW ((H ++ List.replicate n Ob.dead).set q.1 q.2) wr = setW (H.set q.1 q.2) wr ++ _
    rw [List.set_append_left _ _ hq]
    exact setW_app wr _ n fun x hx => by simpa using h x (by simp [hx])
theorem rep_add (H : List Ob) (a c : Nat) : H ++ List.replicate (a + c) Ob.dead = (H ++ List.replicate a Ob.dead) ++ List.replicate c Ob.dead := by
  rw [List.append_assoc, List.replicate_append_replicate]
section
variable {P : Program} {os0 : List Oper} {lo : Nat}
theorem St.wr {o : Oper} {l : Fv} {H : List Ob} {x : It1} (h : St P os0 o l H x) : (∀ q ∈ x.wr, q.1 < (H ++ List.replicate x.m Ob.dead).length) ∧ rdOk (H ++ List.replicate x.m .dead) x.rd := by
  cases h with
  | ran h => exact ⟨fun q hq => by simpa using h.wr q hq, h.rd⟩
  | off hg hj hb hx => subst hx; exact ⟨fun q hq => (by cases hq), fun q hq => (by cases hq)⟩
  | offT hg hj hb hx => subst hx; exact ⟨fun q hq => (by cases hq), fun q hq => (by cases hq)⟩
theorem Rn.its : ∀ {os : List Oper} {xs : List It1} {l : Fv} {H : List Ob}, Rn P os0 os xs l H → Its P os0 os (xs.map (imOf lo)) l
  | [], [], _, _, _ => trivial
  | [], _ :: _, _, _, h => h.elim
  | _ :: _, [], _, _, h => h.elim
  | o :: os, x :: xs, l, H, h => ⟨h.1.ito lo, by rw [imOf_d]; exact Rn.its h.2⟩
theorem Rn.rdAll : ∀ {os : List Oper} {xs : List It1} {l : Fv} {H : List Ob}, Rn P os0 os xs l H → RdAll (xs.map (imOf lo)) (H ++ List.replicate (sumM xs) .dead)
  | [], [], _, _, _ => trivial
  | [], _ :: _, _, _, h => h.elim
  | _ :: _, [], _, _, h => h.elim
  | o :: os, x :: xs, l, H, h => by
    obtain ⟨h1, h2⟩ := h.1.wr
    have e : H ++ List.replicate (sumM (x :: xs)) Ob.dead = (H ++ List.replicate x.m Ob.dead) ++ List.replicate (sumM xs) Ob.dead := rep_add _ _ _
    refine ⟨fun q hq => ?_, ?_⟩
    · have h3 := h2 q (imOf_rd lo x hq)
      rw [e, List.getElem?_append_left (List.getElem?_eq_some_iff.1 h3).1]; exact h3
    · rw [e, imOf_wr, setW_app _ _ _ h1]
      exact Rn.rdAll h.2
theorem Rn.len : ∀ {os : List Oper} {xs : List It1} {l : Fv} {H : List Ob}, Rn P os0 os xs l H → xs.length = os.length
  | [], [], _, _, _ => rfl
  | [], _ :: _, _, _, h => h.elim
  | _ :: _, [], _, _, h => h.elim
  | o :: os, x :: xs, l, H, h => by simp [Rn.len h.2]
theorem Rn.endF : ∀ {os : List Oper} {xs : List It1} {l : Fv} {H : List Ob} (k : Nat), Rn P os0 os xs l H → frS k os (xs.map (imOf lo)) (fun _ => true) l = endL os xs l ∧ hpS k (xs.map (imOf lo)) (fun _ => true) (H ++ List.replicate (sumM xs) .dead) = endH xs H
  | [], [], _, _, _, _ => ⟨rfl, by simp [sumM, hpS, endH]⟩
  | [], _ :: _, _, _, _, h => h.elim
  | _ :: _, [], _, _, _, h => h.elim
  | o :: os, x :: xs, l, H, k, h => by
    obtain ⟨h1, h2⟩ := h.1.wr
    have e : H ++ List.replicate (sumM (x :: xs)) Ob.dead = (H ++ List.replicate x.m Ob.dead) ++ List.replicate (sumM xs) Ob.dead := rep_add _ _ _
    obtain ⟨h3, h4⟩ := Rn.endF (k + 1) h.2
    refine ⟨?_, ?_⟩
    · simp only [List.map_cons, frS, if_true, imOf_d, endL]; exact h3
    · rw [e]
      simp only [List.map_cons, hpS, if_true, imOf_wr, endH]
      rw [setW_app _ _ _ h1]; exact h4
end
section
variable {β : Type} {b : β} {E : Env} {ih : IH} {N : Nat} {r rn : Option Nat} {w0 : World} {g0 : Gh} {H0 : List Ob} {Q : Exit → Act → World → Prop}
theorem ordB_ok {os : List Oper} {H : List Ob} {xs : List It1} {n : Nat} (h : ordB os N H (xs.map It1.ac) = true) : ∃ lo, PhiOk os (xs.map (imOf lo)) (H ++ List.replicate n .dead) ∧ allOk os N ((xs.map (imOf lo)).map Im.keys) os ((xs.map (imOf lo)).map Im.keys) (masks os []) 0 = true := by
  unfold ordB at h
  simp only [mapL_eq, lenL_eq] at h
  have k1 : (xs.map It1.ac).map key1 = (xs.map (imOf 0)).map Im.keys := by
    rw [List.map_map, List.map_map]; exact List.map_congr_left fun x _ => (imOf_zero x).1.symm
  have k2 : (xs.map It1.ac).map (key2 H.length) = (xs.map (imOf H.length)).map Im.keys := by
    rw [List.map_map, List.map_map]; exact List.map_congr_left fun x _ => (imOf_keys _ x).symm
  rw [k1, k2] at h
  cases hb : allOk os N ((xs.map (imOf 0)).map Im.keys) os ((xs.map (imOf 0)).map Im.keys) (masks os []) 0 with
  | true => exact ⟨0, .of fun m hm => (by obtain ⟨x, _, rfl⟩ := List.mem_map.1 hm; exact (imOf_zero x).2), hb⟩
  | false =>
    rw [hb] at h
    obtain ⟨h1, h2⟩ := an_ok h
    refine ⟨H.length, fun i m hm => ?_, h1⟩
    rw [List.getElem?_map] at hm
    obtain ⟨x, hx, rfl⟩ := Option.map_eq_some_iff.1 hm
    obtain ⟨d, mm, rd, wr, ld⟩ := x
    have triv : (imOf H.length ⟨d, mm, rd, wr, ld⟩).φ = (fun _ => True) → (imOf H.length ⟨d, mm, rd, wr, ld⟩).φ (H ++ List.replicate n .dead) ∧ ∀ j mj, (xs.map (imOf H.length))[j]? = some mj → waitsT os j i = true ∨ ∀ H', (imOf H.length ⟨d, mm, rd, wr, ld⟩).φ H' → (imOf H.length ⟨d, mm, rd, wr, ld⟩).φ (setW H' mj.wr) := fun e => by
      rw [e]; exact ⟨trivial, fun _ _ _ => .inr fun _ _ => trivial⟩
    cases ld with
    | none => exact triv rfl
    | some q =>
      by_cases hq : q.1 < H.length
      · have hac : (xs.map It1.ac)[i]? = some (.mk (rd.map (·.1)) (wr.map (·.1)) wr (some q)) := by rw [List.getElem?_map, hx]; rfl
        obtain ⟨⟨o, h3, h4⟩, h5⟩ := stillB_ok h2 i _ _ _ q hac hq
        have e : (imOf H.length ⟨d, mm, rd, wr, some q⟩).φ = phiL q := by unfold imOf; simp only [hq, if_true]
        rw [e]
        refine ⟨⟨o, by rw [List.getElem?_append_left hq]; exact h3, h4⟩, fun j mj hj => ?_⟩
        rw [List.getElem?_map] at hj
        obtain ⟨y, hy, rfl⟩ := Option.map_eq_some_iff.1 hj
        rcases stillAt_ok h5 j _ _ _ _ (by rw [List.getElem?_map, hy]; rfl) with h6 | h6
        · refine .inl ?_
          rw [tb_eq, Nat.zero_add] at h6; exact h6
        · refine .inr fun H' hH' => ?_
          rw [imOf_wr]; exact setW_phi h6 hH'
      · exact triv (by unfold imOf; simp only [hq, if_false])
theorem regA_wp (hE : EnvOk E) (hih : IHok E ih) {id : Nat} {os : List Oper} {f : Fm} {H : List Ob} {ds : List Df} {k : Fm → List Ob → M β} (hm : E.P.follows .mixedOrders = true) (h : regA E ih N os f H k = .ok b)
    (hk : ∀ f' H', f'.u = f.u → k f' H' = .ok b → ∀ g w a, Rs w0 g0 H0 g w H' → OkE r N rn g w H' f'.fv ds a → Q .normal a w) :
    ∀ g w a, Rs w0 g0 H0 g w H → OkE r N rn g w H f.fv ds a → (Code.region id os.toArray true).wpIn (Fw r) 0 E.P Q a w := fun g w a hr ha => by
  obtain ⟨xs, f', H', h1, h2, h3, h4, h5, h6⟩ := regA_ok (acc := []) hE hih (show regA' E ih N os H k os f H [] = .ok b from h)
  simp only [List.reverse_nil, List.nil_append] at h2
  obtain ⟨lo, k1, k2⟩ := ordB_ok (n := sumM xs) h2
  obtain ⟨e1, e2⟩ := h1.endF (lo := lo) 0
  have hr1 := hr.ext (sumM xs)
  have ha1 := ha.mo (Mo.ext g w H (sumM xs))
  have hJ := J.anyP (Y := ⟨⟨r, E.P, N, a.defers⟩, w, g, H ++ List.replicate (sumM xs) .dead⟩) (id := id) (l := f.fv) (H := H ++ List.replicate (sumM xs) .dead)
    (Q := fun e a' w' => e = .normal ∧ ∃ g', Rs w g (H ++ List.replicate (sumM xs) .dead) g' w' H' ∧ OkD ⟨r, E.P, N, a.defers⟩ g' w' H' (endL os xs f.fv) a') hm (xs.map (imOf lo)) h1.its h1.rdAll k1 k2
    (by rw [e1, e2, ← h6]; exact fun g' w' a' k3 k4 => ⟨rfl, g', k3, k4⟩)
  refine wpIn_mono (hJ g w a hr1.rs0.rs ⟨rfl, ha1.sz, ha1.fr⟩) ?_
  rintro e a' w' ⟨rfl, g', k3, k4⟩
  have ha2 := ha1.mo k3.mo
  refine hk f' H' h4 h3 g' w' a' (hr1.then k3) ⟨?_, k4.2.1, fun t d ht => k4.2.2 t d (by rw [← h5]; exact ht), ha2.rn⟩
  rw [k4.1]; exact ha2.df
end
end Go.Dp
