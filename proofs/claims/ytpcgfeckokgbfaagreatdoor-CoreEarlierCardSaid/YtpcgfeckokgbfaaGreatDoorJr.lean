/- Closed calls: codes; the evaluator is sound. -/
import Derived.Test.YtpcgfeckokgbfaaGreatDoorJq
import Derived.LoopNIn
import Derived.RecoverIn
set_option linter.all false
namespace Go.Dp
open Go Go.Mi Go.RowKit Go.MapKept
theorem ddK_go {β : Type} {b : β} {k : Fr → M β} : ∀ {l : Fr} {mask : Nat} {acc : Fr}, (Fr.rec (motive := fun _ => Nat → Fr → M β) (fun _ acc => k acc) (fun t v _ ih mask acc => bb (tb mask t) (ih mask acc) (ih (sb mask t) (.c t v acc))) l mask acc : M β) = .ok b →
    ∃ l', k l' = .ok b ∧ ∀ t d, lk l'.fv t = some d → lk acc.fv t = some d ∨ (tb mask t = false ∧ lk l.fv t = some d)
  | .e, mask, acc, h => ⟨acc, h, fun t d ht => .inl ht⟩
  | .c t v r, mask, acc, h => by
    rcases bb_ok (show bb (tb mask t) _ _ = .ok b from h) with ⟨h1, h2⟩ | ⟨h1, h2⟩
    · obtain ⟨l', h3, h4⟩ := ddK_go h2
      refine ⟨l', h3, fun s d hs => ?_⟩
      rcases h4 s d hs with h5 | ⟨h5, h6⟩
      · exact .inl h5
      · refine .inr ⟨h5, ?_⟩
        have hne : ¬ t = s := fun e => by subst e; rw [h1] at h5; cases h5
        simp only [Fr.fv, lk, beq_ne hne, cond_false]; exact h6
    · obtain ⟨l', h3, h4⟩ := ddK_go h2
      refine ⟨l', h3, fun s d hs => ?_⟩
      rcases h4 s d hs with h5 | ⟨h5, h6⟩
      · by_cases e : t = s
        · subst e
          simp only [Fr.fv, lk, show Nat.beq t t = true from Nat.beq_refl t, cond_true] at h5
          exact .inr ⟨h1, by simp only [Fr.fv, lk, show Nat.beq t t = true from Nat.beq_refl t, cond_true]; exact h5⟩
        · simp only [Fr.fv, lk, beq_ne e, cond_false] at h5
          exact .inl h5
      · rw [sb_eq] at h5
        simp at h5
        have hne : ¬ t = s := fun e => h5.2 e.symm
        exact .inr ⟨h5.1, by simp only [Fr.fv, lk, beq_ne hne, cond_false]; exact h6⟩
theorem ddK_ok {β : Type} {b : β} {l : Fr} {k : Fr → M β} (h : ddK l k = .ok b) : ∃ l', k l' = .ok b ∧ ∀ t d, lk l'.fv t = some d → lk l.fv t = some d := by
  obtain ⟨l', h1, h2⟩ := ddK_go h
  refine ⟨l', h1, fun t d ht => ?_⟩
  rcases h2 t d ht with h3 | h3
  · cases h3
  · exact h3.2
theorem fu_mono {l l' : Fr} {U : Nat} (h : ∀ t d, lk l'.fv t = some d → lk l.fv t = some d) : ∀ t d, lk (l'.fu U) t = some d → lk (l.fu U) t = some d := fun t d ht => by
  rw [lk_fu] at ht ⊢
  cases hb : tb U t with
  | true => rw [hb] at ht; exact h t d ht
  | false => rw [hb] at ht; cases ht
theorem xtN_ok {β : Type} {b : β} {t : M β} {f : Xt → M β} {x : Xt} (h : xtN t f x = .ok b) : (x = .n ∧ t = .ok b) ∨ (x ≠ .n ∧ f x = .ok b) := by
  cases x with
  | n => exact .inl ⟨rfl, h⟩
  | ret => exact .inr ⟨(fun e => by cases e), h⟩
  | exit id => exact .inr ⟨(fun e => by cases e), h⟩
theorem codN_region {N id : Nat} {ops : Array Oper} {draw : Bool} (h : codN N (.region id ops draw) = true) : ∀ o ∈ ops.toList, dOk N o.dst = true := by
  have h : (List.rec (motive := fun _ => Bool) true (fun o _ ih => an (match o.dst with | some t => Nat.ble (Nat.succ t) N | none => true) ih) ops.toList : Bool) = true := h
  generalize ops.toList = l at h
  induction l with
  | nil => intro o ho; cases ho
  | cons q l ih =>
    obtain ⟨h1, h2⟩ := an_ok (show an (match q.dst with | some t => Nat.ble (Nat.succ t) N | none => true) _ = true from h)
    intro o ho
    rcases List.mem_cons.1 ho with rfl | ho
    · cases hd : o.dst with
      | none => rfl
      | some t => rw [hd] at h1; exact h1
    · exact ih h2 o ho
section
variable {E : Env} {ih : IH}
def IHlp (E : Env) (ih : IH) (n : Nat) : Prop := ∀ (N : Nat) (rn : Option Nat) (fn : FuncId) (c : Code) (l : Fr) (H : List Ob) (ds : List Df) (e : Xt) (l' : Fr) (H' : List Ob) (ds' : List Df), ih N rn fn (.loop c) l H ds = .ok (.mk e l' H' ds') → codN N c = true →
  ∀ (r : Option Nat) (w0 : World) (g0 : Gh) (H0 : List Ob) (g : Gh) (w : World) (a : Act), Rs w0 g0 H0 g w H → OkE r N rn g w H (l.fu (useF E.P fn)) ds a → Code.roundsIn (Fw r) 0 E.P c (QE E.P N r rn fn w0 g0 H0 e l' H' ds') n a w
section
variable {N : Nat} {rn : Option Nat} {fn : FuncId} {l l' : Fr} {H H' : List Ob} {ds ds' : List Df} {e : Xt} {r : Option Nat} {w0 : World} {g0 : Gh} {H0 : List Ob} {g : Gh} {w : World} {a : Act}
theorem region_ok (hE : EnvOk E) (hih : IHok E ih) {id : Nat} {ops : Array Oper} {draw : Bool} (h : cRegion ops draw E ih N rn fn l H ds = .ok (.mk e l' H' ds')) (hc : codN N (.region id ops draw) = true) (hr : Rs w0 g0 H0 g w H) (ha : OkE r N rn g w H (l.fu (useF E.P fn)) ds a) :
    (Code.region id ops draw).wpIn (Fw r) 0 E.P (QE E.P N r rn fn w0 g0 H0 e l' H' ds') a w := by
  have ha' : OkE r N rn g w H (Fm.fv (.mk (useF E.P fn) .e l)) ds a := ha.sub fun t d ht => by rw [← fm_fu]; exact ht
  have hend : ∀ (f' : Fm) (H1 : List Ob) (ds1 : List Df), f'.u = useF E.P fn → endR H1 ds1 f' = .ok (.mk e l' H' ds') → ∀ g w a, Rs w0 g0 H0 g w H1 → OkE r N rn g w H1 f'.fv ds1 a → QE E.P N r rn fn w0 g0 H0 e l' H' ds' .normal a w := fun f' H1 ds1 hu he g w a hr ha => by
    obtain ⟨U, lc, l1⟩ := f'
    have hu : U = useF E.P fn := hu
    have he : (.ok (.mk .n l1 H1 ds1) : M Rt) = .ok (.mk e l' H' ds') := he
    cases he
    subst hu
    refine ⟨rfl, g, hr, ha.sub fun t d ht => ?_⟩
    rw [lk_fm]
    rw [lk_fu] at ht
    cases hb : tb (useF E.P fn) t with
    | true => rw [hb] at ht; exact ht
    | false => rw [hb] at ht; cases ht
  cases draw with
  | false =>
    have h : regS (tb E.gm fn) rn E ih ops.toList (fun f H ds => endR H ds f) ops.toList (.mk (useF E.P fn) .e l) H ds = .ok (.mk e l' H' ds') := h
    have hs := regS_ok (r := r) (w0 := w0) (g0 := g0) (H0 := H0) (N := N) (Q := QE E.P N r rn fn w0 g0 H0 e l' H' ds') hE hih (U := useF E.P fn) (fun f' H1 ds1 hu he g w a hr ha => hend f' H1 ds1 hu he g w a hr ha) rfl (codN_region hc) h
    refine wpIn_region ?_
    have := segL_sound (X := ⟨r, E.P, N, []⟩) (ops := ops.toList.toArray) (Q := QE E.P N r rn fn w0 g0 H0 e l' H' ds') ops.toList 0 a w (fun j => by simp) (hs g w a hr ha')
    simpa [List.range_eq_range'] using this
  | true =>
    obtain ⟨h1, h2⟩ := ck_ok (show ck "orders" (E.P.follows .mixedOrders) (regA E ih N ops.toList (.mk (useF E.P fn) .e l) H fun f H => endR H ds f) = .ok (.mk e l' H' ds') from h)
    have := regA_wp (id := id) hE hih h1 h2 (fun f' H1 hu he g w a hr ha => hend f' H1 ds hu he g w a hr ha) g w a hr ha'
    simpa using this
theorem then_ok {c : Code} {e1 : Xt} {l1 : Fr} {H1 : List Ob} {ds1 : List Df} {P : Program} {Q : Exit → Act → World → Prop} {K : Act → World → Prop} (hw : c.wpIn (Fw r) 0 P (QE P N r rn fn w0 g0 H0 e1 l1 H1 ds1) a w)
    (hn : e1 = .n → ∀ g w a, Rs w0 g0 H0 g w H1 → OkE r N rn g w H1 (l1.fu (useF P fn)) ds1 a → K a w) (hx : e1 ≠ .n → ∀ a w, QE P N r rn fn w0 g0 H0 e1 l1 H1 ds1 e1.ex a w → Q e1.ex a w) : c.wpIn (Fw r) 0 P (Exit.then K Q) a w := by
  refine wpIn_mono hw ?_
  rintro e' a' w' ⟨rfl, g', k1, k2⟩
  cases e1 with
  | n => exact hn rfl g' w' a' k1 k2
  | ret => exact hx (fun e => by cases e) a' w' ⟨rfl, g', k1, k2⟩
  | exit id => exact hx (fun e => by cases e) a' w' ⟨rfl, g', k1, k2⟩
/-! ranges over functions -/
theorem set_last (H : List Ob) (o o' : Ob) : (H ++ List.replicate 1 o).set H.length o' = H ++ [o'] := by
  rw [List.set_append_right _ _ (Nat.le_refl _)]; simp
theorem Rs.push {o : Ob} {ob : Obj} (h : Rs0 g w H) (ho : ∀ g b, ownO g H.length b (some o) → b = g.β H.length) (hc : ∀ g' : Gh, g'.β H.length = w.heap.size → Mo g w H g' (w.alloc ob) (H ++ [o]) → RO g' (w.alloc ob) (H ++ [o]) H.length o) :
    ∃ g', Rs w g H g' (w.alloc ob) (H ++ [o]) ∧ g'.β H.length = w.heap.size := by
  have h1 : Rs w g H g w (H ++ List.replicate 1 .dead) := h.rs.ext 1
  have h2 := Rs.newO (o := o) (ob := ob) h1.rs0 (dead_at H) ho fun g' e hmo => by
    rw [set_last] at hmo ⊢
    exact hc g' e (h1.mo.trans hmo)
  rw [set_last] at h2
  exact ⟨_, h1.then h2, by simp [upd_eq]⟩
theorem range2_ok (hE : EnvOk E) (hih : IHok E ih) {fv : V} {x : Operand} {ps : Array Tmp} {as bd : Code} {j : Nat} {H1 : List Ob} {ds1 : List Df} {f0 : FuncId} (h : cRange2 E ih N fn l fv ps as bd j H1 ds1 = .ok (.mk e l' H' ds')) {g1 : Gh} {w1 : World} {mark : List Deferred} (hr : Rs w0 g0 H0 g1 w1 H1)
    (ha : OkE r N rn g1 w1 H1 (l.fu (useF E.P fn)) ds1 { a with defers := mark ++ a.defers }) (hx : RV g1 w1 H1 fv (a.eval x)) (hj : live H1 j) :
    ∃ (w₂ : World) (d : Deferred) (f : FuncId) (args : Array Value),
      w₂ = w1.alloc (.loop { state := .ready, pending := none, fn := f0, tmps := a.tmps, params := ps, assign := as, body := bd, defers := g1.β j }) ∧
      (resolve a.eval (rangeCall x w1.heap.size) 0).run E.P w₂ = .ok d w₂ ∧ (invoke d.target d.args).run E.P w₂ = .ok (.enter f args) w₂ ∧
      CallsIn (Fw r) 0 E.P f args w₂ (rangePost (Fw r) 0 E.P w1.heap.size (QE E.P N r rn fn w0 g0 H0 e l' H' ds') { a with defers := mark ++ a.defers }) := by
  unfold cRange2 at h
  rw [fN_eq, lenL_eq] at h
  have hlive : live (H1 ++ [Ob.loop .ready none fn N (l.fu (useF E.P fn)) ps as bd j]) H1.length := by unfold live; simp [liveO]
  obtain ⟨g2, hp, hb⟩ := Rs.push (H := H1) (o := .loop .ready none fn N (l.fu (useF E.P fn)) ps as bd j) (ob := .loop { state := .ready, pending := none, fn := f0, tmps := a.tmps, params := ps, assign := as, body := bd, defers := g1.β j }) hr.rs0 (fun g b h => h) fun g' e hmo =>
    ⟨f0, a.tmps, by rw [e, (hmo.live j hj).2]; exact (heap_alloc w1 _).1, ha.sz, (hmo.live j hj).1, ha.fr.mo hmo⟩
  obtain ⟨f, bs, cs, r', m, rd, wr, h1, h2, h3, h4, _, h5⟩ := callV_ok hE hih h
  rw [newH_eq] at h5
  obtain ⟨us, vs, k1, k2, k3⟩ := h1.rv (hx.mo hp.mo)
  refine ⟨_, { target := .fn (.func f) vs.toArray, args := (us ++ [Value.func (.yield w1.heap.size) #[] #[]]).toArray }, f, (us ++ [Value.func (.yield w1.heap.size) #[] #[]] ++ vs).toArray, rfl, ?_, ?_, ?_⟩
  · simp only [resolve, k1]
    simp [go_sem, Act.eval, Deferred.ofValue, Sem.run_bind, Result.andThen]
  · simp [invoke]; have := h2 (us ++ Value.func (.yield w1.heap.size) #[] #[] :: vs).toArray (w1.alloc (.loop { state := .ready, pending := none, fn := f0, tmps := a.tmps, params := ps, assign := as, body := bd, defers := g1.β j })); simpa using this
  · obtain ⟨H2, hH2⟩ : ∃ H2, H1 ++ [Ob.loop .ready none fn N (l.fu (useF E.P fn)) ps as bd j] = H2 := ⟨_, rfl⟩
    obtain ⟨W2, hW2⟩ : ∃ W2, w1.alloc (.loop { state := .ready, pending := none, fn := f0, tmps := a.tmps, params := ps, assign := as, body := bd, defers := g1.β j }) = W2 := ⟨_, rfl⟩
    rw [hH2] at hp h4 h5 k2 k3
    rw [hW2] at hp k2 k3 ⊢
    have hli : live H2 H1.length := by rw [← hH2]; exact hlive
    have hm := Mo.ext g2 W2 H2 m
    have hr2 := hp.rs0.rs.ext m
    have hargs : RVs g2 W2 (H2 ++ List.replicate m .dead) (bs ++ [V.yld H1.length] ++ cs) (us ++ [Value.func (.yield w1.heap.size) #[] #[]] ++ vs) :=
      ((k2.mo hm).append (.cons (by rw [← hb]; exact .yld ((hm.live _ hli).1)) .nil)).append (k3.mo hm)
    refine callsIn_of (n := 0) (Calls.mono (h3 g2 W2 _ _ hr2.rs0 h4 hargs) ?_)
    rintro en w3 ⟨v, rfl, g3, k4, _⟩
    have k5 := hr2.then k4
    have hli3 := k5.mo.live _ hli
    obtain ⟨o, q1, q2⟩ := nth_ok h5
    split at q2
    · rename_i st pd f' N' fr' ps' a' b' j'
      obtain ⟨f1, tm, t1, t2, t3, t4⟩ := k5.ob _ _ q1
      have hbl : g3.β H1.length = w1.heap.size := hli3.2.trans hb
      rw [hbl] at t1
      have fin : ∀ (he : st ≠ .busy), ∃ g4 w4, (Instr.endLoop w1.heap.size).run E.P w3 = .ok pd w4 ∧ Rs w0 g0 H0 g4 w4 ((setW (H2 ++ List.replicate m .dead) wr).set H1.length (.loop .exhausted pd f' N' fr' ps' a' b' j')) ∧
          OkE r N rn g4 w4 ((setW (H2 ++ List.replicate m .dead) wr).set H1.length (.loop .exhausted pd f' N' fr' ps' a' b' j')) (l.fu (useF E.P fn)) ds1 { a with defers := mark ++ a.defers } := fun he => by
        have s := Rs.loopSt (st' := .exhausted) (pd' := pd) k5.rs0 q1 (by rw [hbl]; exact t1)
        rw [hbl] at s
        exact ⟨g3, _, run_endLoop t1 he, hr.then (hp.then (k5.then s)), ((ha.mo hp.mo).mo k5.mo).mo s.mo⟩
      split at q2
      · cases q2
      · rename_i hst
        obtain ⟨g4, w4, e1, e2, e3⟩ := fin (fun e => hst e)
        split at q2
        · cases q2; exact ⟨_, w4, e1, rfl, g4, e2, e3⟩
        · cases q2; exact ⟨_, w4, e1, wpIn_exit ⟨rfl, g4, e2, e3⟩⟩
        · cases q2; exact ⟨_, w4, e1, wpIn_ret ⟨rfl, g4, e2, e3⟩⟩
        · cases q2
    · cases q2
theorem range_ok (hE : EnvOk E) (hih : IHok E ih) {x : Operand} {ps : Array Tmp} {as bd : Code} (h : cRange x ps as bd E ih N rn fn l H ds = .ok (.mk e l' H' ds')) (hr : Rs w0 g0 H0 g w H) (ha : OkE r N rn g w H (l.fu (useF E.P fn)) ds a) :
    (Code.rangeFunc x ps as bd).wpIn (Fw r) 0 E.P (QE E.P N r rn fn w0 g0 H0 e l' H' ds') a w := by
  obtain ⟨fv, h1, h2⟩ := ev_ok (show ev (.mk (useF E.P fn) .e l) x _ = .ok _ from h)
  have ha' : OkE r N rn g w H (Fm.fv (.mk (useF E.P fn) .e l)) ds a := ha.sub fun t d ht => by rw [← fm_fu]; exact ht
  have hv := ha'.ev hr.gl h1
  refine wpIn_rangeFunc fun f0 _ => ?_
  cases rn with
  | none =>
    have hr0 : r = none := ha.rn
    subst hr0
    have h2 : fN (lenL H) (fun n => cRange2 E ih N fn l fv ps as bd n (H ++ [.dfr true]) (.mark n :: ds)) = .ok (.mk e l' H' ds') := h2
    rw [fN_eq, lenL_eq] at h2
    obtain ⟨g1, hp, hb⟩ := Rs.push (H := H) (o := .dfr true) (ob := .deferred (some [])) hr.rs0 (fun g b h => h) fun g' e hmo => by
      show (w.alloc _).heap[g'.β H.length]? = _
      rw [e]; exact (heap_alloc w _).1
    have hli : live (H ++ [Ob.dfr true]) H.length := by unfold live; simp [liveO]
    have hm := ha.mo hp.mo
    obtain ⟨w2, d, f, args, e1, e2, e3, e4⟩ := range2_ok (f0 := f0) (x := x) (mark := [{ target := .collected w.heap.size, args := #[] }]) (a := a) hE hih h2 (hr.then hp) ⟨⟨hli, by rw [hb], hm.df⟩, hm.sz, hm.fr, hm.rn⟩ (hv.mo hp.mo) hli
    have hs : (w.alloc (.deferred (some []))).heap.size = w.heap.size + 1 := by simp
    rw [hs] at e2 e4
    refine ⟨w.heap.size + 1, _, w2, d, w2, f, args, w2, ?_, e2, (fun _ _ => trivial), e3, (fun h => by cases h), e4⟩
    rw [e1, hb]; exact run_enterLoop_outer _ _ _ _ _
  | some i =>
    obtain ⟨hr0, hli⟩ := ha.rn
    subst hr0
    obtain ⟨o, q1, q2⟩ := nth_ok h2
    split at q2
    · rename_i st pd f' N' fr' ps' a' b' j
      obtain ⟨f1, tm, t1, t2, t3, t4⟩ := hr.ob _ _ q1
      obtain ⟨w2, d, f, args, e1, e2, e3, e4⟩ := range2_ok (f0 := f0) (x := x) (mark := []) (a := a) hE hih q2 hr ⟨ha.df, ha.sz, ha.fr, ha.rn⟩ hv t3
      refine ⟨w.heap.size, _, w2, d, w2, f, args, w2, ?_, e2, (fun _ _ => trivial), e3, (fun h => by cases h), e4⟩
      rw [e1]; exact run_enterLoop_inner t1 _ _ _ _ _
    · cases q2
end
theorem stC_ok (hE : EnvOk E) {n : Nat} (hih : IHok E ih) (hlp : IHlp E ih n) : IHok E (fun N rn fn c l H ds => stC c E ih N rn fn l H ds) ∧ IHlp E (fun N rn fn c l H ds => stC c E ih N rn fn l H ds) (n + 1) := by
  have loop : IHlp E (fun N rn fn c l H ds => stC c E ih N rn fn l H ds) (n + 1) := by
    intro N rn fn c l H ds e l' H' ds' h hc r w0 g0 H0 g w a hr ha
    obtain ⟨⟨e1, l1, H1, ds1⟩, h1, h2⟩ := M.b_ok (show (ih N rn fn c l H ds).b _ = .ok _ from h)
    have h2 : xtN (ddK l1 fun l => ih N rn fn (.loop c) l H1 ds1) (fun e => .ok (.mk e l1 H1 ds1)) e1 = .ok (.mk e l' H' ds') := h2
    rw [roundsIn_succ]
    refine then_ok (hih _ _ _ _ _ _ _ _ _ _ _ h1 hc r w0 g0 H0 g w a hr ha) (fun he g w a hr ha => ?_) (fun hne a w hq => ?_)
    · rcases xtN_ok h2 with ⟨_, h3⟩ | ⟨h3, _⟩
      · obtain ⟨l2, h4, h5⟩ := ddK_ok h3
        exact hlp _ _ _ _ _ _ _ _ _ _ _ h4 hc r w0 g0 H0 g w a hr (ha.sub (fu_mono h5))
      · exact absurd he h3
    · rcases xtN_ok h2 with ⟨h3, _⟩ | ⟨_, h3⟩
      · exact absurd h3 hne
      · cases h3; exact hq
  refine ⟨?_, loop⟩
  intro N rn fn c l H ds e l' H' ds' h hc r w0 g0 H0 g w a hr ha
  cases c with
  | skip =>
    have h : (.ok (.mk .n l H ds) : M Rt) = .ok (.mk e l' H' ds') := h
    cases h; exact wpIn_skip ⟨rfl, g, hr, ha⟩
  | label i =>
    have h : (.ok (.mk .n l H ds) : M Rt) = .ok (.mk e l' H' ds') := h
    cases h; exact wpIn_label ⟨rfl, g, hr, ha⟩
  | ret =>
    have h : (.ok (.mk .ret l H ds) : M Rt) = .ok (.mk e l' H' ds') := h
    cases h; exact wpIn_ret ⟨rfl, g, hr, ha⟩
  | exit id =>
    have h : (.ok (.mk (.exit id) l H ds) : M Rt) = .ok (.mk e l' H' ds') := h
    cases h; exact wpIn_exit ⟨rfl, g, hr, ha⟩
  | goto i => cases h
  | refuse s => cases h
  | region id ops draw => exact region_ok hE hih h hc hr ha
  | seq x y =>
    obtain ⟨c1, c2⟩ := an_ok (show an (codN N x) (codN N y) = true from hc)
    obtain ⟨⟨e1, l1, H1, ds1⟩, h1, h2⟩ := M.b_ok (show (ih N rn fn x l H ds).b _ = .ok _ from h)
    have h2 : xtN (ih N rn fn y l1 H1 ds1) (fun e => .ok (.mk e l1 H1 ds1)) e1 = .ok (.mk e l' H' ds') := h2
    refine wpIn_seq (then_ok (hih _ _ _ _ _ _ _ _ _ _ _ h1 c1 r w0 g0 H0 g w a hr ha) (fun he g w a hr ha => ?_) (fun hne a w hq => ?_))
    · rcases xtN_ok h2 with ⟨_, h3⟩ | ⟨h3, _⟩
      · exact hih _ _ _ _ _ _ _ _ _ _ _ h3 c2 r w0 g0 H0 g w a hr ha
      · exact absurd he h3
    · rcases xtN_ok h2 with ⟨h3, _⟩ | ⟨_, h3⟩
      · exact absurd h3 hne
      · cases h3; exact hq
  | cond x y z =>
    obtain ⟨c1, c2⟩ := an_ok (show an (codN N y) (codN N z) = true from hc)
    obtain ⟨d, h1, h2⟩ := ev_ok (show ev (.mk (useF E.P fn) .e l) x _ = .ok _ from h)
    have ha' : OkE r N rn g w H (Fm.fv (.mk (useF E.P fn) .e l)) ds a := ha.sub fun t d ht => by rw [← fm_fu]; exact ht
    have hv := ha'.ev hr.gl h1
    rcases asB_ok h2 with ⟨rfl, h3⟩ | ⟨rfl, h3⟩
    · exact wpIn_cond_true hv.vi (hih _ _ _ _ _ _ _ _ _ _ _ h3 c1 r w0 g0 H0 g w a hr ha)
    · exact wpIn_cond_false hv.vi (hih _ _ _ _ _ _ _ _ _ _ _ h3 c2 r w0 g0 H0 g w a hr ha)
  | block id x =>
    obtain ⟨⟨e1, l1, H1, ds1⟩, h1, h2⟩ := M.b_ok (show (ih N rn fn x l H ds).b _ = .ok _ from h)
    refine wpIn_block (wpIn_mono (hih _ _ _ _ _ _ _ _ _ _ _ h1 hc r w0 g0 H0 g w a hr ha) ?_)
    rintro e' a' w' ⟨rfl, g', k1, k2⟩
    cases e1 with
    | n =>
      have h2 : (.ok (.mk .n l1 H1 ds1) : M Rt) = .ok (.mk e l' H' ds') := h2
      cases h2; exact ⟨rfl, g', k1, k2⟩
    | ret =>
      have h2 : (.ok (.mk .ret l1 H1 ds1) : M Rt) = .ok (.mk e l' H' ds') := h2
      cases h2; exact ⟨rfl, g', k1, k2⟩
    | exit j =>
      have h2 : (.ok (.mk (Bool.rec (motive := fun _ => Xt) (.exit j) .n (Nat.beq j id)) l1 H1 ds1) : M Rt) = .ok (.mk e l' H' ds') := h2
      cases hb : Nat.beq j id with
      | true =>
        rw [hb] at h2; cases h2
        have := Nat.eq_of_beq_eq_true hb
        subst this
        simp only [Xt.ex, Exit.inBlock, if_true]; exact ⟨rfl, g', k1, k2⟩
      | false =>
        rw [hb] at h2; cases h2
        have hne : ¬ j = id := fun e => by subst e; rw [Nat.beq_refl] at hb; cases hb
        simp only [Xt.ex, Exit.inBlock, hne, if_false]; exact ⟨rfl, g', k1, k2⟩
  | loop x => exact wpIn_loop_rounds (n + 1) (loop _ _ _ _ _ _ _ _ _ _ _ h hc r w0 g0 H0 g w a hr ha)
  | scope x => cases h
  | rangeFunc x ps y z => exact range_ok hE hih h hr ha
theorem evC_ok (hE : EnvOk E) : ∀ n, IHok E (evC E n) ∧ IHlp E (evC E n) n
  | 0 => ⟨fun _ _ _ _ _ _ _ _ _ _ _ h => (by cases h), fun _ _ _ _ _ _ _ _ _ _ _ h => (by cases h)⟩
  | n + 1 => stC_ok hE (evC_ok hE n).1 (evC_ok hE n).2
/-- A call that the evaluator works out is what it works out. -/
theorem runF_ok (hE : EnvOk E) {n : Nat} {f : FuncId} {xs : List V} {r : V} {H : List Ob} (h : runF E n f xs = .ok (r, H)) : Runs E.P f ∧ CE E.P f xs [] r H := by
  obtain ⟨r', Hr, h1, h2, h3⟩ := evF_ok hE (evC_ok hE n).1 h
  cases h1
  exact ⟨h2, h3⟩
end
end Go.Dp
namespace Go.Dp
open Go Go.Mi Go.RowKit
theorem runs_of {P : Program} (h : (P.funcs.toList.all fun fn => !(fn.name == "runtime.NumGoroutine")) = true) : ∀ f fn c, P.funcs[f]? = some fn → fn.body = some c → Runs P f := fun f fn c hf hb args w => by
  have hm : fn ∈ P.funcs.toList := by
    have := Array.mem_of_getElem? hf
    simpa using this
  have hn := List.all_eq_true.1 h fn hm
  have hn : (fn.name == "runtime.NumGoroutine") = false := by simpa using hn
  have hn' : ¬ fn.name = "runtime.NumGoroutine" := by simpa using hn
  unfold callFunc
  simp [hf, hn', hb, Sem.run_bind, Sem.run, Result.andThen, program]
theorem np_of {P : Program} {f : FuncId} {fn : Func} {i0 i1 i3 i4 : Nat} {a b d : Nat} {T U : TypeId} {p0 p1 p2 : String} {t0 t1 t2 : TypeId} {rest : Code} (hr : Runs P f) (hf : P.funcs[f]? = some fn)
    (hb : fn.body = some (.seq (.region i0 #[{ dst := some a, op := .call { callee := .builtin .recover, args := #[], argTypes := #[] }, type := t0, pos := p0, after := #[], guard := none }] false)
      (.block i1 (.seq (.region i3 #[{ dst := some b, op := .binOp .eql T (.tmp a) (.const .nilIface) U, type := t1, pos := p1, after := #[], guard := none }] false)
        (.cond (.tmp b) (.region i4 #[{ dst := some d, op := .assign (.tmp a), type := t2, pos := p2, after := #[], guard := none }] false) rest)))))
    (hres : fn.results = #[]) (ha : Nat.blt a fn.ntmps = true) (hbb : Nat.blt b fn.ntmps = true) (hdd : Nat.blt d fn.ntmps = true) (hba : Nat.beq b a = false)
    (he : semP P (do eqGuard .eql T (.tmp a) (.const .nilIface) .nilIface .nilIface; binOp .eql T .nilIface .nilIface) = some (.bool true)) : NpOk P f := by
  refine ⟨hr, fun w args => callsDIn_of_wpSIn hf hb trivial fun c₀ cs hu => wpSIn_seq (wpSIn_region ?_)⟩
  have hrec : recoverD (c₀ :: cs) = none := by simp [recoverD, hu]
  have hrun : ∀ (e : Operand → Value), (execOp e { dst := some a, op := .call { callee := .builtin .recover, args := #[], argTypes := #[] }, type := t0, pos := p0, after := #[], guard := none }).run P w = .ok .recover w := fun e => by
    unfold execOp; simp [resolve, invoke, builtin, Sem.run_bind, Result.andThen]
  have hra : List.range (#[({ dst := some a, op := .call { callee := .builtin .recover, args := #[], argTypes := #[] }, type := t0, pos := p0, after := #[], guard := none } : Oper)].size) = [0] := rfl
  rw [hra]
  refine ⟨fun _ _ => trivial, ?_⟩
  simp only [Region.wanted, if_true, hrun, hrec, wpOpsSIn]
  show Code.wpSIn _ _ _ _ _ _ _ _
  refine wpSIn_of_wpIn rfl ?_
  obtain ⟨N, hN⟩ : ∃ N, args.size + (fn.ntmps - args.size) = N := ⟨_, rfl⟩
  have lt : ∀ {x : Nat}, Nat.blt x fn.ntmps = true → Nat.blt x N = true := fun {x} h => by
    have : x < fn.ntmps := by simpa [Nat.blt_eq] using h
    simp [Nat.blt_eq]; omega
  have look1 : Mi.look [(a, Value.nilIface)] a = some .nilIface := by simp [Mi.look]
  have look2 : Mi.look [(b, Value.bool true), (a, Value.nilIface)] b = some (.bool true) := by simp [Mi.look]
  have look3 : Mi.look [(b, Value.bool true), (a, Value.nilIface)] a = some .nilIface := by simp only [Mi.look, hba, cond_false]; exact look1
  have hW : W ⟨none, P, N, []⟩ (.block i1 (.seq (.region i3 #[{ dst := some b, op := .binOp .eql T (.tmp a) (.const .nilIface) U, type := t1, pos := p1, after := #[], guard := none }] false)
        (.cond (.tmp b) (.region i4 #[{ dst := some d, op := .assign (.tmp a), type := t2, pos := p2, after := #[], guard := none }] false) rest)))
      (fun e a' w' => bodyPostS P fn c₀ cs (fun e u w' => (∃ v, e = .returned v) ∧ settle u = .returning ∧ Below w.heap.size w w') e a' (c₀ :: cs) w') [(a, .nilIface)] w := by
    refine W_block (W_seq (W_region (os := [_]) (SG_q (v := .bool true) (Rq_bin (vx := .nilIface) (vy := .nilIface) look1 rfl fun w' _ => semP_run he w') (lt hbb) (SG_nil (D_then (W_condT look2 (W_region (os := [_]) (SG_q (Rq_assign (v := .nilIface) look3) (lt hdd) (SG_nil ?_)))))))))
    refine D_block fun a' hok => ?_
    refine ⟨hok.1, c₀.mode, rfl, .tuple #[], by simp [results, hres], ⟨_, rfl⟩, by rw [hu]; rfl, Below.refl _ _⟩
  have ha' : a < fn.ntmps := by simpa [Nat.blt_eq] using ha
  exact hW _ ⟨rfl, by simp [Act.put, hN], fun t v ht => by
    by_cases e : a = t
    · subst e
      rw [look1] at ht; cases ht
      have hsz : a < (args ++ Array.replicate (fn.ntmps - args.size) undef).size := by simp; omega
      exact Array.getElem?_setIfInBounds_self_of_lt hsz
    · simp [Mi.look, beq_ne e] at ht⟩
/-! calls that are known -/
def MemoOk (P : Program) (m : Memo) : Prop := Runs P m.f ∧ m.xs.all plainV = true ∧ CE P m.f m.xs [] m.r m.H
def AllK (P : Program) : List Memo → Prop
  | [] => True
  | m :: l => MemoOk P m ∧ AllK P l
theorem AllK.mem {P : Program} : ∀ {l : List Memo} {m : Memo}, AllK P l → m ∈ l → MemoOk P m
  | _ :: _, _, h, hm => by
    rcases List.mem_cons.1 hm with rfl | hm
    · exact h.1
    · exact AllK.mem h.2 hm
/-- the program, as far as the evaluator asks -/
structure PgOk (P : Program) (np : List Nat) : Prop where
  nm : ∀ f fn c, P.funcs[f]? = some fn → fn.body = some c → Runs P f
  np : ∀ f, f ∈ np → NpOk P f
theorem PgOk.env {P : Program} {np : List Nat} (h : PgOk P np) {k gm : Nat} {l : List Memo} (hl : AllK P l) : EnvOk ⟨P, np, k, l, gm⟩ := ⟨h.nm, h.np, fun m hm => hl.mem hm⟩
theorem PgOk.memo {P : Program} {np : List Nat} (h : PgOk P np) {k gm : Nat} {l : List Memo} (hl : AllK P l) {m : Memo} (n : Nat) (hp : m.xs.all plainV = true) (he : runF ⟨P, np, k, l, gm⟩ n m.f m.xs = .ok (m.r, m.H)) : MemoOk P m := by
  obtain ⟨h1, h2⟩ := runF_ok (h.env hl) he
  exact ⟨h1, hp, h2⟩
end Go.Dp
