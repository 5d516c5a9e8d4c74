/- Closed calls: calls. -/
import Derived.Test.YtpcgfeckokgbfaaGreatDoorJo
set_option linter.all false
namespace Go.Dp
open Go Go.Mi Go.RowKit
def CF (Pg : Program) (f : FuncId) (xs : List V) (rd wr : List (Nat × Ob)) (r : V) : Prop :=
  ∀ (g : Gh) (w : World) (H : List Ob) (vs : List Value), Rs0 g w H → rdOk H rd → RVs g w H xs vs → Calls Pg f vs.toArray w fun en w' => ∃ v, en = .returned v ∧ ∃ g', Rs w g H g' w' (setW H wr) ∧ RV g' w' (setW H wr) r v
theorem vlIs_ok {a b : Value} (h : vlEq a b = true) : a = b := by
  unfold vlEq at h
  split at h
  · obtain ⟨h1, h2⟩ := an_ok h
    rw [ikEq_eq h1]; rw [iEq_eq] at h2; simp at h2; rw [h2]
  · rw [sEq_eq] at h; simp at h; rw [h]
  all_goals first | rfl | cases h
mutual
theorem plIs_ok {E : Nat → Nat} {w : World} : ∀ {a b : P} {v : Value}, plIs a b = true → RP E w a v → RP E w b v
  | .sl k n cs, .sl k' n' cs', v, h, hr => by
    simp only [plIs] at h
    obtain ⟨h1, h2⟩ := an_ok h
    obtain ⟨h3, h4⟩ := an_ok h2
    have e1 := Nat.eq_of_beq_eq_true h1
    have e2 := Nat.eq_of_beq_eq_true h3
    subst e1 e2
    obtain ⟨hl, hc⟩ := plsIs_ok h4
    cases hr with
    | nil =>
      have : cs' = [] := List.eq_nil_of_length_eq_zero (by rw [← hl]; rfl)
      subst this; exact .nil
    | sl u hl' hcap hE hb hu hh =>
      refine .sl u (by rw [← hl]; exact hl') hcap hE hb hu fun j c hj => ?_
      cases h5 : cs[j]? with
      | none =>
        have h6 := List.getElem?_eq_none_iff.1 h5
        have h7 := (List.getElem?_eq_some_iff.1 hj).1
        rw [hl] at h6; omega
      | some c0 => exact hc j c0 c (u j) h5 hj (hh j c0 h5)
  | .v (.slice none 0 0), .sl k n cs, v, h, hr => by
    simp only [plIs] at h
    obtain ⟨h1, h2⟩ := an_ok h
    have e1 := Nat.eq_of_beq_eq_true h1
    subst e1
    cases cs with
    | nil => cases hr; exact .nil
    | cons c cs => simp [plsIs] at h2
  | .v x, .v y, v, h, hr => by
    have h : vlEq x y = true := by simpa [plIs] using h
    rw [← vlIs_ok h]; exact hr
  | .sl .., .v _, _, h, _ => by simp [plIs] at h
  | .v (.int ..), .sl .., _, h, _ => by simp [plIs] at h
  | .v (.bool ..), .sl .., _, h, _ => by simp [plIs] at h
  | .v (.string ..), .sl .., _, h, _ => by simp [plIs] at h
  | .v (.float ..), .sl .., _, h, _ => by simp [plIs] at h
  | .v (.complex ..), .sl .., _, h, _ => by simp [plIs] at h
  | .v (.pointer ..), .sl .., _, h, _ => by simp [plIs] at h
  | .v (.slice (some _) _ _), .sl .., _, h, _ => by simp [plIs] at h
  | .v (.slice none (_ + 1) _), .sl .., _, h, _ => by simp [plIs] at h
  | .v (.slice none 0 (_ + 1)), .sl .., _, h, _ => by simp [plIs] at h
theorem plsIs_ok {E : Nat → Nat} {w : World} : ∀ {as bs : List P}, plsIs as bs = true → as.length = bs.length ∧ ∀ (j : Nat) (a b : P) (v : Value), as[j]? = some a → bs[j]? = some b → RP E w a v → RP E w b v
  | [], [], _ => ⟨rfl, fun j a b v h => by simp at h⟩
  | x :: xs, y :: ys, h => by
    simp only [plsIs] at h
    obtain ⟨h1, h2⟩ := an_ok h
    obtain ⟨h3, h4⟩ := plsIs_ok (E := E) (w := w) h2
    refine ⟨by simp [h3], fun j a b v ha hb hr => ?_⟩
    cases j with
    | zero => simp at ha hb; subst ha hb; exact plIs_ok h1 hr
    | succ j => simp at ha hb; exact h4 j a b v ha hb hr
  | [], _ :: _, h => by simp [plsIs] at h
  | _ :: _, [], h => by simp [plsIs] at h
end
section
variable {g : Gh} {w : World} {H : List Ob}
theorem cIs_ok {d y : V} {v : Value} (h : cIs d y = true) (hr : RV g w H d v) : RV g w H y v := by
  unfold cIs at h
  split at h
  · cases hr with | p hr => exact .p (plIs_ok h hr)
  · cases hr with | tk hr _ => exact .p (plIs_ok h hr)
  · cases h
theorem csIs_ok : ∀ {ds ys : List V} {vs : List Value}, csIs ds ys = true → RVs g w H ds vs → RVs g w H ys vs
  | [], [], _, _, .nil => .nil
  | [], _ :: _, _, h, _ => by cases h
  | _ :: _, [], _, h, _ => by cases h
  | d :: ds, y :: ys, _, h, .cons hr hs => by
    obtain ⟨h1, h2⟩ := an_ok (show an (cIs d y) (csIs ds ys) = true from h)
    exact .cons (cIs_ok h1 hr) (csIs_ok h2 hs)
theorem vIs_ok {d y : V} {v : Value} (h : vIs d y = true) (hr : RV g w H d v) : RV g w H y v := by
  unfold vIs at h
  split at h
  · cases hr with | agg hs => exact .agg (csIs_ok h hs)
  · exact cIs_ok h hr
theorem vsIs_ok : ∀ {ds ys : List V} {vs : List Value}, vsIs ds ys = true → RVs g w H ds vs → RVs g w H ys vs
  | [], [], _, _, .nil => .nil
  | [], _ :: _, _, h, _ => by cases h
  | _ :: _, [], _, h, _ => by cases h
  | d :: ds, y :: ys, _, h, .cons hr hs => by
    obtain ⟨h1, h2⟩ := an_ok (show an (vIs d y) (vsIs ds ys) = true from h)
    exact .cons (vIs_ok h1 hr) (vsIs_ok h2 hs)
end
theorem memoK_ok {β : Type} {b : β} {f : Nat} {xs : List V} {hit : V → List Ob → M β} {miss : M β} : ∀ {mm : List Memo}, memoK mm f xs hit miss = .ok b →
    (∃ m ∈ mm, m.f = f ∧ hit m.r m.H = .ok b ∧ ∀ g w H us, RVs g w H xs us → RVs g w H m.xs us) ∨ miss = .ok b
  | [], h => .inr h
  | q :: mm, h => by
    have rest : memoK mm f xs hit miss = .ok b → (∃ m ∈ q :: mm, m.f = f ∧ hit m.r m.H = .ok b ∧ ∀ g w H us, RVs g w H xs us → RVs g w H m.xs us) ∨ miss = .ok b := fun h => by
      rcases memoK_ok h with ⟨m, h1, h2⟩ | h1
      · exact .inl ⟨m, List.mem_cons_of_mem _ h1, h2⟩
      · exact .inr h1
    replace h : bb (Nat.beq q.f f) (bb (vsIs xs q.xs) (hit q.r q.H) (memoK mm f xs hit miss)) (memoK mm f xs hit miss) = .ok b := h
    rcases bb_ok h with ⟨h1, h2⟩ | ⟨h1, h2⟩
    · rcases bb_ok h2 with ⟨h3, h4⟩ | ⟨_, h4⟩
      · exact .inl ⟨q, by simp, Nat.eq_of_beq_eq_true h1, h4, fun g w H us hu => vsIs_ok h3 hu⟩
      · exact rest h4
    · exact rest h2
theorem cf_of {Pg : Program} {f : FuncId} {xs xs' : List V} {H Hc Hr : List Ob} {sel : List Nat} {r : V} {m : Nat} (hc : CE Pg f xs' Hc r Hr) (hx : renL (sf sel) xs' = xs) (hlt : ltL Hc.length xs' = true) (hp : Pk H Hc sel) (hle : sel.length ≤ Hr.length) (hm : m = Hr.length - sel.length) :
    CF Pg f xs (wl (sf sel) sel Hc ++ (List.range' H.length m).map fun j => (j, .dead)) (wl (sf (sel ++ List.range' H.length m)) (sel ++ List.range' H.length m) Hr) (r.ren (sf (sel ++ List.range' H.length m))) ∧
    rdOk (H ++ List.replicate m .dead) (wl (sf sel) sel Hc ++ (List.range' H.length m).map fun j => (j, .dead)) ∧ ∀ q ∈ wl (sf (sel ++ List.range' H.length m)) (sel ++ List.range' H.length m) Hr, q.1 < H.length + m := by
  have hsl : ∀ j ∈ sel, j < H.length := fun j hj => by
    obtain ⟨i, hi⟩ := List.mem_iff_getElem?.1 hj
    have hil : i < Hc.length := by rw [← hp.sl.1]; exact (List.getElem?_eq_some_iff.1 hi).1
    have h1 := hp.sl.2 i Hc[i] (List.getElem?_eq_getElem hil)
    rw [sf_lt (by rw [hp.sl.1]; exact hil)] at hi
    cases hi
    exact (List.getElem?_eq_some_iff.1 h1).1
  have hnd : (sel ++ List.range' H.length m).Nodup := by
    refine List.nodup_append.2 ⟨hp.nd, List.nodup_range', fun a ha c hc e => ?_⟩
    have := hsl a ha
    have := (List.mem_range'_1.1 hc).1
    omega
  have hcl : Cl Hc Hr xs' sel (List.range' H.length m) := ⟨hp.sl.1, hlt, hp.lt, hnd, hle, by simp; omega⟩
  refine ⟨fun g w H' vs hr hrd hv => ?_, fun q hq => ?_, fun q hq => ?_⟩
  · refine Calls.mono (call_run hc hr (fun q hq => hrd q (List.mem_append_left _ hq)) (fun j hj => hrd (j, .dead) (List.mem_append_right _ (List.mem_map.2 ⟨j, hj, rfl⟩))) (fun r' H2 hp' => by obtain ⟨rfl, rfl⟩ := hp'; exact hcl) ⟨hcl.len, hcl.lt, hcl.lo, hp.nd⟩ (by rw [hx]; exact hv)) ?_
    rintro en w' ⟨v, rfl, r', H2, g', ⟨rfl, rfl⟩, k1, k2⟩
    exact ⟨v, rfl, g', k1, k2⟩
  · rcases List.mem_append.1 hq with hq | hq
    · have h1 := hp.rd q hq
      rw [List.getElem?_append_left (List.getElem?_eq_some_iff.1 h1).1]; exact h1
    · obtain ⟨j, hj, rfl⟩ := List.mem_map.1 hq
      obtain ⟨h1, h2⟩ := List.mem_range'_1.1 hj
      rw [List.getElem?_append_right h1, List.getElem?_replicate, if_pos (by omega)]
  · obtain ⟨i, _, h1⟩ := wl_mem _ _ _ q hq
    have := List.mem_of_getElem? h1
    rcases List.mem_append.1 this with h2 | h2
    · have := hsl _ h2; omega
    · exact (List.mem_range'_1.1 h2).2
section
variable {β : Type} {b : β} {E : Env} {ih : IH} {H : List Ob} {k : K β}
theorem callR_ok {f : FuncId} {xs xs' : List V} {sel : List Nat} {Hc Hr : List Ob} {r : V} (hrun : Runs E.P f) (hc : CE E.P f xs' Hc r Hr) (hv : ∀ g w H us, RVs g w H xs us → RVs g w H (renL (sf sel) xs') us) (hlt : ltL Hc.length xs' = true) (hp : Pk H Hc sel) (h : callR H sel Hc k r Hr = .ok b) :
    ∃ r m rd wr, Runs E.P f ∧ CF E.P f xs rd wr r ∧ rdOk (H ++ List.replicate m .dead) rd ∧ (∀ q ∈ wr, q.1 < H.length + m) ∧ k r m rd wr = .ok b := by
  obtain ⟨h9, h10⟩ := ck_ok h
  rw [fN_eq, fN_eq, lenL_eq, lenL_eq, lenL_eq] at h10
  rw [lenL_eq, lenL_eq] at h9
  obtain ⟨k1, k2, k3⟩ := cf_of hc rfl hlt hp (Nat.le_of_ble_eq_true h9) rfl
  exact ⟨_, _, _, _, hrun, fun g w H' vs hr hrd hvs => k1 g w H' vs hr hrd (hv _ _ _ _ hvs), k2, k3, h10⟩
theorem callG_ok {f : FuncId} {xs : List V} (hE : EnvOk E) (hih : IHok E ih) (h : callG E ih f xs H k = .ok b) :
    ∃ r m rd wr, Runs E.P f ∧ CF E.P f xs rd wr r ∧ rdOk (H ++ List.replicate m .dead) rd ∧ (∀ q ∈ wr, q.1 < H.length + m) ∧ k r m rd wr = .ok b := by
  unfold callG at h
  obtain ⟨sel, hsel⟩ : ∃ sel, reach H (idsL xs []) = sel := ⟨_, rfl⟩
  simp only [hsel] at h
  obtain ⟨h1, h2⟩ := ck_ok h
  obtain ⟨xs', h3, h4⟩ := ob_ok h2
  obtain ⟨Hc, h5, h6⟩ := Pk.of h1 h4
  obtain ⟨h7, h8⟩ := rnL_ok (Rnm.idx sel) h3
  have h8 : ltL Hc.length xs' = true := by rw [← h5.sl.1]; exact h8
  obtain ⟨r, Hr, h10, hrun, hc⟩ := evF_ok hE hih h6
  exact callR_ok hrun hc (fun g w H us hu => by rw [h7]; exact hu) h8 h5 h10
theorem plainL_ren {s : Nat → Nat} : ∀ {ds : List V}, (ds.all fun d => match d with | .p _ => true | _ => false) = true → renL s ds = ds ∧ ltL 0 ds = true
  | [], _ => ⟨rfl, rfl⟩
  | .p x :: ds, h => by
    obtain ⟨h1, h2⟩ := plainL_ren (s := s) (ds := ds) (by simpa using h)
    exact ⟨by simp [renL, V.ren, h1], by simp [ltL, V.lt, h2]⟩
  | .tk .. :: _, h => by simp at h
  | .ref .. :: _, h => by simp at h
  | .el _ :: _, h => by simp at h
  | .arr .. :: _, h => by simp at h
  | .map _ :: _, h => by simp at h
  | .fn .. :: _, h => by simp at h
  | .agg _ :: _, h => by simp at h
  | .tup _ :: _, h => by simp at h
  | .yld _ :: _, h => by simp at h
  | .z :: _, h => by simp at h
  | .gs .. :: _, h => by simp at h
  | .gp .. :: _, h => by simp at h
theorem plainV_ren {s : Nat → Nat} {d : V} (h : plainV d = true) : d.ren s = d ∧ d.lt 0 = true := by
  cases d with
  | p x => exact ⟨rfl, rfl⟩
  | agg ds =>
    obtain ⟨h1, h2⟩ := plainL_ren (s := s) (show (ds.all fun d => match d with | .p _ => true | _ => false) = true from h)
    exact ⟨by simp [V.ren, h1], by simpa [V.lt] using h2⟩
  | _ => cases h
theorem plainVs_ren {s : Nat → Nat} : ∀ {ds : List V}, ds.all plainV = true → renL s ds = ds ∧ ltL 0 ds = true
  | [], _ => ⟨rfl, rfl⟩
  | d :: ds, h => by
    simp at h
    obtain ⟨h1, h2⟩ := plainV_ren (s := s) h.1
    obtain ⟨h3, h4⟩ := plainVs_ren (s := s) (ds := ds) (by simpa using h.2)
    exact ⟨by simp [renL, h1, h3], by simp [ltL, h2, h4]⟩
theorem callF_ok {f : FuncId} {xs : List V} (hE : EnvOk E) (hih : IHok E ih) (h : callF E ih f xs H k = .ok b) :
    ∃ r m rd wr, Runs E.P f ∧ CF E.P f xs rd wr r ∧ rdOk (H ++ List.replicate m .dead) rd ∧ (∀ q ∈ wr, q.1 < H.length + m) ∧ k r m rd wr = .ok b := by
  rcases bb_ok h with ⟨_, h⟩ | ⟨_, h⟩
  · rcases memoK_ok h with ⟨m, h9, rfl, h11, h12⟩ | h9
    · obtain ⟨hrun, hpl, hc⟩ := hE.mm m h9
      obtain ⟨e1, e2⟩ := plainVs_ren (s := sf []) hpl
      exact callR_ok (xs' := m.xs) (sel := []) (Hc := []) hrun hc (fun g w H us hu => by rw [e1]; exact h12 _ _ _ _ hu) e2 ⟨⟨rfl, fun i o hi => by simp at hi⟩, List.nodup_nil, rfl⟩ h11
    · exact callG_ok hE hih h9
  · exact callG_ok hE hih h
/-- a function's value -/
inductive FvIs (f : FuncId) : V → List V → List V → Prop
  | fn {b c : List V} : FvIs f (.fn (.func f) b c) b c
  | v : FvIs f (.p (.v (.func (.func f) #[] #[]))) [] []
theorem FvIs.rv {f : FuncId} {fv : V} {bs cs : List V} (h : FvIs f fv bs cs) {g : Gh} {w : World} {H : List Ob} {u : Value} (hu : RV g w H fv u) : ∃ us vs : List Value, u = .func (.func f) us.toArray vs.toArray ∧ RVs g w H bs us ∧ RVs g w H cs vs := by
  cases h with
  | fn => cases hu with | fn h1 h2 => exact ⟨_, _, rfl, h1, h2⟩
  | v => exact ⟨[], [], hu.vi, .nil, .nil⟩
theorem callV_ok {fv : V} {xs : List V} (hE : EnvOk E) (hih : IHok E ih) (h : callV E ih fv xs H k = .ok b) :
    ∃ f bs cs r m rd wr, FvIs f fv bs cs ∧ Runs E.P f ∧ CF E.P f (bs ++ xs ++ cs) rd wr r ∧ rdOk (H ++ List.replicate m .dead) rd ∧ (∀ q ∈ wr, q.1 < H.length + m) ∧ k r m rd wr = .ok b := by
  unfold callV at h
  split at h
  · obtain ⟨r, m, rd, wr, h1, h2, h3, h4, h5⟩ := callF_ok hE hih h
    exact ⟨_, _, _, r, m, rd, wr, .fn, h1, h2, h3, h4, h5⟩
  · rename_i f p q
    obtain ⟨h0, h⟩ := ck_ok h
    simp only [Bool.and_eq_true, Array.isEmpty_iff] at h0
    obtain ⟨rfl, rfl⟩ := h0
    obtain ⟨r, m, rd, wr, h1, h2, h3, h4, h5⟩ := callF_ok hE hih h
    exact ⟨_, [], [], r, m, rd, wr, .v, h1, by simpa using h2, h3, h4, h5⟩
  · cases h
theorem callV_it {l : Fv} {x : Operand} {args : Array Operand} {tys : Array TypeId} {ty : TypeId} {fv : V} {xs : List V} (hE : EnvOk E) (hih : IHok E ih) (hx : evG l x = some fv) (ha : args.toList.map (evG l) = xs.map some) (h : callV E ih fv xs H k = .ok b) :
    ∃ r m rd wr, It E.P (.call { callee := .value x, args := args, argTypes := tys }) ty (evG l) rd wr r ∧ rdOk (H ++ List.replicate m .dead) rd ∧ (∀ q ∈ wr, q.1 < H.length + m) ∧ k r m rd wr = .ok b := by
  obtain ⟨f, bs, cs, r, m, rd, wr, h1, h2, h3, h4, h5, h6⟩ := callV_ok hE hih h
  refine ⟨r, m, rd, wr, fun g w H' e o ho _ hr hrd hf => ?_, h4, h5, h6⟩
  obtain ⟨us, vs, k1, k2, k3⟩ := h1.rv (hf x (by simp [Op.operands, Call.operands]) _ hx)
  have hv : RVs g w H' (bs ++ xs ++ cs) (us ++ args.toList.map e ++ vs) := (k2.append (args_rv ha fun y hy => hf y (by simp [Op.operands, Call.operands]; exact .inr (by simpa using hy)))).append k3
  refine .inr (.inr ⟨_, run_fv (args := args.toList) k1 (by simpa using ho) h2, .of (Calls.mono (h3 g w H' _ hr hrd hv) ?_)⟩)
  rintro en w' ⟨v, rfl, g', k4, k5⟩
  exact ⟨v, rfl, g', k4, k5⟩
end
end Go.Dp
namespace Go.Dp
open Go Go.Mi Go.RowKit
def Fm.u : Fm → Nat
  | .mk U _ _ => U
theorem putM_u {β : Type} {dst : Option Tmp} {k : Fm → β} {d : V} {f : Fm} : ∃ f', putM dst k d f = k f' ∧ f'.u = f.u ∧ ∀ t, lk f'.fv t = lk (putV dst d f.fv) t := by
  cases dst with
  | none => exact ⟨f, rfl, rfl, fun _ => rfl⟩
  | some t =>
    cases f with
    | mk U lc l =>
      cases hb : tb U t with
      | false =>
        refine ⟨.mk U (.c t d lc) l, by show (Bool.rec _ _ (tb U t) : β) = _; rw [hb], rfl, fun s => ?_⟩
        rw [lk_fm]
        simp only [putV, lk, Fr.fv]
        cases hs : Nat.beq t s with
        | true => have := Nat.eq_of_beq_eq_true hs; subst this; rw [hb]; rfl
        | false => simp only [cond_false]; rw [lk_fm]
      | true =>
        refine ⟨.mk U lc (.c t d l), by show (Bool.rec _ _ (tb U t) : β) = _; rw [hb], rfl, fun s => ?_⟩
        rw [lk_fm]
        simp only [putV, lk, Fr.fv]
        cases hs : Nat.beq t s with
        | true => have := Nat.eq_of_beq_eq_true hs; subst this; rw [hb]; rfl
        | false => simp only [cond_false]; rw [lk_fm]
theorem padO_eq (H : List Ob) (m : Nat) : padO H m = H ++ List.replicate m .dead := by
  cases m with
  | zero => simp [padO]
  | succ m => rfl
theorem newH_eq (H : List Ob) (m : Nat) (wr : List (Nat × Ob)) : newH H m wr = setW (H ++ List.replicate m .dead) wr := by
  cases m with
  | zero =>
    cases wr with
    | nil => show H = setW (H ++ List.replicate 0 .dead) []; simp [setW]
    | cons q wr => show setW H (q :: wr) = _; simp
  | succ m => show setW (padO H (m + 1)) wr = _; rw [padO_eq]
/-! one operation -/
section
variable {P : Program} {N : Nat} {r rn : Option Nat} {w0 : World} {g0 : Gh} {H0 : List Ob} {Q : Exit → Act → World → Prop}
/-- what is known of a region's rest -/
def SE (P : Program) (N : Nat) (r rn : Option Nat) (w0 : World) (g0 : Gh) (H0 : List Ob) (ops : Array Oper) (Q : Exit → Act → World → Prop) (rest : List Oper) (l : Fv) (H : List Ob) (ds : List Df) : Prop :=
  ∀ g w a, Rs w0 g0 H0 g w H → OkE r N rn g w H l ds a → segL ⟨r, P, N, []⟩ ops Q rest a w
variable {ops : Array Oper} {rest : List Oper} {l : Fv} {H : List Ob} {ds : List Df}
theorem SE.sub {l' : Fv} (hs : ∀ t d, lk l' t = some d → lk l t = some d) (h : SE P N r rn w0 g0 H0 ops Q rest l' H ds) : SE P N r rn w0 g0 H0 ops Q rest l H ds := fun g w a hr ha => h g w a hr (ha.sub hs)
theorem SE.ext (m : Nat) (h : SE P N r rn w0 g0 H0 ops Q rest l (H ++ List.replicate m .dead) ds) : SE P N r rn w0 g0 H0 ops Q rest l H ds := fun g w a hr ha => h g w a (hr.ext m) (ha.mo (Mo.ext g w H m))
/-- the operation o, carried out, comes to the rest -/
def OpR (P : Program) (N : Nat) (r rn : Option Nat) (w0 : World) (g0 : Gh) (H0 : List Ob) (ops : Array Oper) (Q : Exit → Act → World → Prop) (o : Oper) (rest : List Oper) (l : Fv) (H : List Ob) (ds : List Df) : Prop :=
  ∀ g w a, Rs w0 g0 H0 g w H → OkE r N rn g w H l ds a → o.wpIn (Fw r) 0 P a w (segL ⟨r, P, N, []⟩ ops Q rest) Q
theorem OpR.it {o : Oper} {rd wr : List (Nat × Ob)} {d : V} (h : It P o.op o.type (evG l) rd wr d) (hrd : rdOk H rd) (hd : dOk N o.dst = true) (k : SE P N r rn w0 g0 H0 ops Q rest (putV o.dst d l) (setW H wr) ds) :
    OpR P N r rn w0 g0 H0 ops Q o rest l H ds := fun g w a hr ha => by
  refine ⟨fun _ _ => trivial, ?_⟩
  have fin : ∀ v w' g', Rs w g H g' w' (setW H wr) → RV g' w' (setW H wr) d v → segL ⟨r, P, N, []⟩ ops Q rest (a.put o.dst v) w' := fun v w' g' h1 h2 =>
    k g' w' _ (hr.then h1) ((ha.mo h1.mo).put hd h2)
  rcases h g w H a.eval o rfl rfl hr.rs0 hrd (fun x _ u hu => ha.ev hr.gl hu) with ⟨v, w', h1, g', h2, h3⟩ | ⟨w', h1, g', h2, h3⟩ | ⟨n, h1, h2⟩
  · rw [semAt_of h1 (by intro d h; cases h)]
    exact fin v w' g' h2 h3
  · rw [semAt_of h1 (by intro d h; cases h)]
    exact fin undef w' g' h2 h3
  · rw [semAt_of h1 h2.ne]
    exact h2.upon fun v w' ⟨g', h3, h4⟩ => fin v w' g' h3 h4
theorem OpR.ext {o : Oper} (m : Nat) (h : OpR P N r rn w0 g0 H0 ops Q o rest l (H ++ List.replicate m .dead) ds) : OpR P N r rn w0 g0 H0 ops Q o rest l H ds := fun g w a hr ha => h g w a (hr.ext m) (ha.mo (Mo.ext g w H m))
theorem OpR.sub {o : Oper} {l' : Fv} (hs : ∀ t d, lk l' t = some d → lk l t = some d) (h : OpR P N r rn w0 g0 H0 ops Q o rest l' H ds) : OpR P N r rn w0 g0 H0 ops Q o rest l H ds := fun g w a hr ha => h g w a hr (ha.sub hs)
/-- a deferred call -/
theorem OpR.defer {o : Oper} {c : Call} {x : Operand} {f : FuncId} {caps : List V} (ho : o.op = .defer c) (hc : c.callee = .value x) (hx : evG l x = some (.fn (.func f) [] caps)) (ha0 : c.args = #[]) (hrn : rn = none) (hd : dOk N o.dst = true)
    (k : SE P N r rn w0 g0 H0 ops Q rest (putV o.dst (.p (.v undef)) l) H (.fn f caps :: ds)) : OpR P N r rn w0 g0 H0 ops Q o rest l H ds := fun g w a hr ha => by
  subst hrn
  have hr0 : r = none := ha.rn
  subst hr0
  refine ⟨fun _ _ => trivial, ?_⟩
  have hv := ha.ev hr.gl hx
  generalize he : a.eval x = v at hv
  cases hv with
  | fn h1 h2 =>
    rename_i us vs
    cases h1
    have e : (o.semAt none a.eval).run P w = .ok (.defer { target := .fn (.func f) vs.toArray, args := #[] }) w := by
      rw [Oper.semAt_none]
      unfold execOp; rw [ho]
      obtain ⟨cc, ca, ct⟩ := c
      simp only at hc ha0
      subst hc ha0
      simp [resolve, he, Deferred.ofValue, Sem.run_bind, Result.andThen]
    show o.uponIn (Fw none) 0 P a _ Q ((o.semAt none a.eval).run P w)
    rw [e]
    show segL ⟨none, P, N, []⟩ ops Q rest (({ a with defers := { target := .fn (.func f) vs.toArray, args := #[] } :: a.defers } : Act).put o.dst undef) w
    have hok : OkE none N none g w H l (.fn f caps :: ds) { a with defers := { target := .fn (.func f) vs.toArray, args := #[] } :: a.defers } := ⟨⟨⟨vs, rfl, h2⟩, ha.df⟩, ha.sz, ha.fr, ha.rn⟩
    exact k g w _ hr (hok.put hd (.v _))
end
/-! rounds -/
theorem Rs.loopSt {g : Gh} {w : World} {H : List Ob} {i f N j : Nat} {st st' : LoopState} {pd pd' : Option Code} {fr : List (Nat × V)} {ps : Array Nat} {asg bd : Code} {rec : Loop} (h : Rs0 g w H) (hi : H[i]? = some (.loop st pd f N fr ps asg bd j)) (hrec : w.heap[g.β i]? = some (.loop rec)) :
    Rs w g H g (w.putObj (g.β i) (.loop { rec with state := st', pending := pd' })) (H.set i (.loop st' pd' f N fr ps asg bd j)) := by
  have hil := (List.getElem?_eq_some_iff.1 hi).1
  have hown : ∀ b, own g H i b ↔ b = g.β i := fun b => by unfold own; rw [hi]; exact Iff.rfl
  obtain ⟨f0, tm, h1, h2, h3, h4⟩ := h.ob i _ hi
  rw [hrec] at h1
  cases h1
  have hlt0 := (Array.getElem?_eq_some_iff.1 hrec).1
  refine Rs.one h hil rfl rfl rfl (by simp) (fun b hl hn => ⟨World.putObj_heap_other fun e => hn ((hown b).2 e), rfl⟩) (fun b o ho hlt => ?_) (fun b _ => Nat.le_refl _) (fun j _ => ⟨rfl, rfl⟩) (fun _ => ⟨trivial, rfl⟩)
    (fun m hm => by rw [hi] at hm; cases hm) (fun b ho => .inl ((hown b).2 ho)) (fun hmo => ⟨f0, tm, World.putObj_heap_same hlt0, h2, (hmo.live j h3).1, h4.mo hmo⟩)
  have := (hown b).1 ho
  subst this
  simp [World.cell?, World.putObj_heap_same hlt0, hrec]
theorem pairs_fr {g : Gh} {w : World} {H : List Ob} {N : Nat} : ∀ {ps : List Nat} {xs : List V} {vs : List Value} {l : Fr} {tm : Array Value}, ps.length = xs.length → RVs g w H xs vs → (∀ p ∈ ps, p < N) → tm.size = N → FrR g w H l.fv tm →
    FrR g w H (pairsF ps xs l).fv ((ps.zip vs).foldl (fun tm q => tm.setIfInBounds q.1 q.2) tm) ∧ ((ps.zip vs).foldl (fun tm q => tm.setIfInBounds q.1 q.2) tm).size = N
  | [], [], _, l, tm, _, hv, _, hs, hf => by cases hv; exact ⟨hf, hs⟩
  | [], _ :: _, _, _, _, h, _, _, _, _ => by simp at h
  | _ :: _, [], _, _, _, h, _, _, _, _ => by simp at h
  | p :: ps, x :: xs, _, l, tm, hl, .cons (v := v) (vs := vs) h hs, hp, hz, hf => by
    have hp0 := hp p (by simp)
    refine pairs_fr (ps := ps) (xs := xs) (l := .c p x l) (tm := tm.setIfInBounds p v) (by simpa using hl) hs (fun q hq => hp q (by simp [hq])) (by simp [hz]) fun t d ht => ?_
    simp only [Fr.fv, lk] at ht
    by_cases e : p = t
    · subst e
      rw [show Nat.beq p p = true from Nat.beq_refl p] at ht
      simp only [cond_true, Option.some.injEq] at ht
      subst ht; exact ⟨v, by simp [hz, hp0], h⟩
    · rw [beq_ne e] at ht
      obtain ⟨u, h1, h2⟩ := hf t d ht
      exact ⟨u, by simp [e, h1], h2⟩
theorem ofL_fv : ∀ (l : Fv), (Fr.ofL l).fv = l
  | [] => rfl
  | q :: l => by show (q.1, q.2) :: (Fr.ofL l).fv = _; rw [ofL_fv l]
theorem codN_range {N : Nat} {x : Operand} {ps : Array Tmp} {a b : Code} (h : codN N (.rangeFunc x ps a b) = true) : (∀ p ∈ ps.toList, p < N) ∧ codN N a = true ∧ codN N b = true := by
  obtain ⟨h1, h2⟩ := an_ok (show an _ (an (codN N a) (codN N b)) = true from h)
  obtain ⟨h3, h4⟩ := an_ok h2
  refine ⟨?_, h3, h4⟩
  generalize ps.toList = l at h1
  induction l with
  | nil => intro p hp; cases hp
  | cons q l ih =>
    obtain ⟨h5, h6⟩ := an_ok (show an (Nat.ble (Nat.succ q) N) _ = true from h1)
    intro p hp
    rcases List.mem_cons.1 hp with rfl | hp
    · exact Nat.le_of_ble_eq_true h5
    · exact ih h6 p hp
section
variable {β : Type} {b : β} {E : Env} {ih : IH}
theorem fu_sub {l : Fr} {U t : Nat} {d : V} (h : lk (l.fu U) t = some d) : lk l.fv t = some d := by
  rw [lk_fu] at h
  cases hb : tb U t with
  | true => rw [hb] at h; exact h
  | false => rw [hb] at h; cases h
/-- a round: where it comes to, what it yields -/
theorem roundK_ok {i : Nat} {xs : List V} {H : List Ob} {k : Bool → List Ob → M β} (hih : IHok E ih) (h : roundK ih i xs H k = .ok b) : ∃ (q : Bool) (H' : List Ob), k q H' = .ok b ∧
    ∀ (n : Nat) (w0 : World) (g0 : Gh) (H0 : List Ob) (g : Gh) (w : World) (vs : List Value) (r : Option Nat), Rs w0 g0 H0 g w H → RVs g w H xs vs → ∃ f tmps asg bd, live H i ∧ (Instr.yield (g.β i) vs.toArray).run E.P w = .ok (.round (g.β i) f tmps asg bd) w ∧
      RoundIn (Fw r) 0 E.P (g.β i) f tmps asg bd w fun en w' => en = .returned (.bool q) ∧ ∃ g', Rs w0 g0 H0 g' w' H' ∧ Mo g w H g' w' H' := by
  unfold roundK at h
  obtain ⟨o, h1, h2⟩ := nth_ok h
  split at h2
  · rename_i pd f N fr ps asg bd j
    obtain ⟨h3, h4⟩ := ck_ok h2
    obtain ⟨c1, h5⟩ := an_ok h3
    obtain ⟨c2, h6⟩ := an_ok h5
    obtain ⟨c3, c4⟩ := an_ok h6
    obtain ⟨⟨e1, l1, H1, ds1⟩, h7, h8⟩ := M.b_ok h4
    split at h8
    · rename_i l1' H1' heq
      cases heq
      obtain ⟨o1, h9, h10⟩ := nth_ok h8
      split at h10
      · rename_i pd1 f1 N1 fr1 ps1 asg1 bd1 j1
        obtain ⟨⟨e2, l2, H2, ds2⟩, h11, h12⟩ := M.b_ok h10
        split at h12
        · rename_i e2' l2' H2' heq
          cases heq
          obtain ⟨o2, h13, h14⟩ := nth_ok h12
          split at h14
          · rename_i st2 pd2 f2 N2 fr2 ps2 asg2 bd2 j2
            have key : ∀ (n : Nat) (w0 : World) (g0 : Gh) (H0 : List Ob) (g : Gh) (w : World) (vs : List Value) (r : Option Nat), Rs w0 g0 H0 g w H → RVs g w H xs vs → ∃ ff tmps asg bd, live H i ∧ (Instr.yield (g.β i) vs.toArray).run E.P w = .ok (.round (g.β i) ff tmps asg bd) w ∧
                RoundIn (Fw r) 0 E.P (g.β i) ff tmps asg bd w fun en w' => en = .returned (.bool (match e2 with | .n => true | _ => false)) ∧ ∃ g', Rs w0 g0 H0 g' w' (H2.set i (match e2 with | .n => .loop .ready none f2 N2 fr2 ps2 asg2 bd2 j2 | .ret => .loop .done (some .ret) f2 N2 fr2 ps2 asg2 bd2 j2 | .exit id => .loop .done (some (.exit id)) f2 N2 fr2 ps2 asg2 bd2 j2)) ∧
                  Mo g w H g' w' (H2.set i (match e2 with | .n => .loop .ready none f2 N2 fr2 ps2 asg2 bd2 j2 | .ret => .loop .done (some .ret) f2 N2 fr2 ps2 asg2 bd2 j2 | .exit id => .loop .done (some (.exit id)) f2 N2 fr2 ps2 asg2 bd2 j2)) := fun n w0 g0 H0 g w vs r hr hv => by
              obtain ⟨f0, tm, k1, k2, k3, k4⟩ := hr.ob i _ h1
              have hli : live H i := by unfold live; rw [h1]; trivial
              rw [lenL_eq, lenL_eq] at c1
              have c1 := Nat.eq_of_beq_eq_true c1
              have hvl := hv.len
              have hps := codN_range c4
              obtain ⟨p1, p2⟩ := pairs_fr (l := Fr.ofL fr) c1 hv hps.1 k2 (by rw [ofL_fv]; exact k4)
              have hsz : vs.toArray.size = ps.size := by simp; rw [← hvl, ← c1]; simp
              refine ⟨f0, _, asg, bd, hli, run_yield k1 hsz, roundIn_of_wpIn trivial ?_⟩
              have etm : ((ps.zip vs.toArray).foldl (fun tmps (x : Tmp × Value) => tmps.setIfInBounds x.1 x.2) tm) = (ps.toList.zip vs).foldl (fun tm q => tm.setIfInBounds q.1 q.2) tm := by
                rw [← Array.foldl_toList, Array.toList_zip]
              have hok : OkE (some (g.β i)) N (some i) g w H ((pairsF ps.toList xs (Fr.ofL fr)).fu (useF E.P f)) [] { tmps := (ps.zip vs.toArray).foldl (fun tmps (x : Tmp × Value) => tmps.setIfInBounds x.1 x.2) tm, defers := [] } :=
                ⟨trivial, by show Array.size _ = N; rw [etm]; exact p2, fun t d ht => by rw [etm]; exact p1 t d (fu_sub ht), ⟨rfl, hli⟩⟩
              refine wpIn_mono (hih _ _ _ _ _ _ _ _ _ _ _ h7 c2 (some (g.β i)) w g H g w _ hr.rs0.rs hok) ?_
              rintro e' a1 w1 ⟨rfl, g1, r1, o1⟩
              have hbi1 : g1.β i = g.β i := (r1.mo.live i hli).2
              obtain ⟨f01, tm1, q1, q2, q3, q4⟩ := r1.ob i _ h9
              have s1 := Rs.loopSt (st' := .busy) (pd' := pd1) r1.rs0 h9 q1
              refine ⟨_, by rw [← hbi1]; exact run_beginRound q1 rfl, ?_⟩
              have r2 := r1.then s1
              have o2 := o1.mo s1.mo
              refine wpIn_mono (hih _ _ _ _ _ _ _ _ _ _ _ h11 c3 (some (g.β i)) w g H g1 _ a1 r2 o2) ?_
              rintro e'' a2 w2 ⟨rfl, g2, r3, o3⟩
              have hbi2 : g2.β i = g.β i := (r3.mo.live i hli).2
              obtain ⟨f02, tm2, t1, t2, t3, t4⟩ := r3.ob i _ h13
              cases e2 with
              | n =>
                have s2 := Rs.loopSt (st' := .ready) (pd' := none) r3.rs0 h13 t1
                exact ⟨_, _, by rw [← hbi2]; exact run_endRound none t1, rfl, g2, hr.then (r3.then s2), (r3.then s2).mo⟩
              | ret =>
                have s2 := Rs.loopSt (st' := .done) (pd' := some .ret) r3.rs0 h13 t1
                exact ⟨_, _, by rw [← hbi2]; exact run_endRound (some .ret) t1, rfl, g2, hr.then (r3.then s2), (r3.then s2).mo⟩
              | exit id =>
                have s2 := Rs.loopSt (st' := .done) (pd' := some (.exit id)) r3.rs0 h13 t1
                exact ⟨_, _, by rw [← hbi2]; exact run_endRound (some (.exit id)) t1, rfl, g2, hr.then (r3.then s2), (r3.then s2).mo⟩
            cases e2 with
            | n => exact ⟨_, _, h14, key⟩
            | ret => exact ⟨_, _, h14, key⟩
            | exit id => exact ⟨_, _, h14, key⟩
          · cases h14
        · cases h12
      · cases h10
    · cases h8
  · cases h2
end
end Go.Dp
namespace Go.Dp
open Go Go.Mi Go.RowKit
theorem gdV_ok {β : Type} {b : β} {want : Bool} {v : V} {t e : M β} (h : gdV want v t e = .ok b) : (v = .p (.v (.bool want)) ∧ t = .ok b) ∨ ((v = .p (.v (.bool (!want))) ∨ ∃ x, v = .p (.v (.tuple x))) ∧ e = .ok b) := by
  unfold gdV at h
  split at h
  · rename_i c
    cases c with
    | false =>
      rcases bb_ok (show bb want e t = .ok b from h) with ⟨rfl, h1⟩ | ⟨rfl, h1⟩
      · exact .inr ⟨.inl rfl, h1⟩
      · exact .inl ⟨rfl, h1⟩
    | true =>
      rcases bb_ok (show bb want t e = .ok b from h) with ⟨rfl, h1⟩ | ⟨rfl, h1⟩
      · exact .inl ⟨rfl, h1⟩
      · exact .inr ⟨.inl rfl, h1⟩
  · exact .inr ⟨.inr ⟨_, rfl⟩, h⟩
  · cases h
theorem gdK_ok {β : Type} {b : β} {ops : List Oper} {q : Nat × Bool} {f : Fm} {t e : M β} (h : gdK ops q f t e = .ok b) : ∃ dj, (ops[q.1]?).bind (·.dst) = some dj ∧ ((lk f.fv dj = some (.p (.v (.bool q.2))) ∧ t = .ok b) ∨ ((lk f.fv dj = some (.p (.v (.bool (!q.2)))) ∨ ∃ x, lk f.fv dj = some (.p (.v (.tuple x)))) ∧ e = .ok b)) := by
  obtain ⟨o, h1, h2⟩ := nth_ok h
  obtain ⟨d, h3, h4⟩ := ob_ok h2
  obtain ⟨v, h5, h6⟩ := ev_ok h4
  have h5 : lk f.fv d = some v := h5
  refine ⟨d, by rw [h1]; exact h3, ?_⟩
  rcases gdV_ok h6 with ⟨rfl, h7⟩ | ⟨rfl | ⟨x, rfl⟩, h7⟩
  · exact .inl ⟨h5, h7⟩
  · exact .inr ⟨.inl h5, h7⟩
  · exact .inr ⟨.inr ⟨x, h5⟩, h7⟩
section
variable {P : Program} {N : Nat} {r rn : Option Nat} {g : Gh} {w : World} {H : List Ob} {l : Fv} {ds : List Df} {a : Act} {ops : Array Oper}
theorem yield_b (ha : OkE r N rn g w H l ds a) {j dj : Nat} {b : Bool} (hj : (ops[j]?).bind (·.dst) = some dj) (hb : lk l dj = some (.p (.v (.bool b)))) : yielded ops a.tmps j = some b := by
  obtain ⟨v, h1, h2⟩ := ha.fr dj _ hb
  have := h2.vi
  unfold yielded; rw [hj]; simp [h1, this]
theorem yield_t (ha : OkE r N rn g w H l ds a) {j dj : Nat} {x : Array Value} (hj : (ops[j]?).bind (·.dst) = some dj) (hb : lk l dj = some (.p (.v (.tuple x)))) : yielded ops a.tmps j = none := by
  obtain ⟨v, h1, h2⟩ := ha.fr dj _ hb
  have := h2.vi
  unfold yielded; rw [hj]; simp [h1, this]
end
section
variable {β : Type} {b : β} {E : Env} {ih : IH} {N : Nat} {r rn : Option Nat} {w0 : World} {g0 : Gh} {H0 : List Ob} {Q : Exit → Act → World → Prop} {ops : Array Oper} {rest : List Oper}
theorem goP_ok {dst : Option Tmp} {go : Fm → List Ob → List Df → M β} {f : Fm} {H : List Ob} {ds : List Df} {d : V} (h : goP dst go f H ds d = .ok b) : ∃ f', go f' H ds = .ok b ∧ f'.u = f.u ∧ ∀ t, lk f'.fv t = lk (putV dst d f.fv) t := by
  obtain ⟨f', h1, h2, h3⟩ := putM_u (dst := dst) (k := fun f => go f H ds) (d := d) (f := f)
  exact ⟨f', h1.symm.trans h, h2, h3⟩
theorem goK_ok {dst : Option Tmp} {go : Fm → List Ob → List Df → M β} {f : Fm} {H : List Ob} {ds : List Df} {d : V} {m : Nat} {rd wr : List (Nat × Ob)} (h : goK dst go f H ds d m rd wr = .ok b) :
    ∃ f', go f' (setW (H ++ List.replicate m .dead) wr) ds = .ok b ∧ f'.u = f.u ∧ ∀ t, lk f'.fv t = lk (putV dst d f.fv) t := by
  have h : putM dst (fun f => go f (newH H m wr) ds) d f = .ok b := h
  rw [newH_eq] at h
  obtain ⟨f', h1, h2, h3⟩ := putM_u (dst := dst) (k := fun f => go f (setW (H ++ List.replicate m .dead) wr) ds) (d := d) (f := f)
  exact ⟨f', h1.symm.trans h, h2, h3⟩
theorem opS_ok (hE : EnvOk E) (hih : IHok E ih) {o : Oper} {go : Fm → List Ob → List Df → M β} {f : Fm} {H : List Ob} {ds : List Df} (hd : dOk N o.dst = true)
    (hgo : ∀ f' H' ds', f'.u = f.u → go f' H' ds' = .ok b → SE E.P N r rn w0 g0 H0 ops Q rest f'.fv H' ds') (h : opS rn o.op o.type o.dst E ih go f H ds = .ok b) : OpR E.P N r rn w0 g0 H0 ops Q o rest f.fv H ds := by
  have outK : ∀ d m rd wr, It E.P o.op o.type (evG f.fv) rd wr d → rdOk (H ++ List.replicate m .dead) rd → goK o.dst go f H ds d m rd wr = .ok b → OpR E.P N r rn w0 g0 H0 ops Q o rest f.fv H ds := fun d m rd wr hi hrd hk => by
    obtain ⟨f', h1, h2, h3⟩ := goK_ok hk
    exact .ext m (.it hi hrd hd (.sub (fun t d ht => by rw [← h3]; exact ht) (hgo _ _ _ h2 h1)))
  rcases evOp_ok h with (⟨d, hi, hk⟩ | ⟨d, m, rd, wr, hi, hrd, _, hk⟩) | ⟨c, x, hop, hcx, hk⟩ | ⟨c, hop, hk⟩
  · obtain ⟨f', h1, h2, h3⟩ := goP_ok hk
    exact .it hi rd0 hd (.sub (fun t d ht => by rw [← h3]; exact ht) (hgo _ _ _ h2 h1))
  · exact outK _ _ _ _ hi hrd hk
  · obtain ⟨fv, h1, h2⟩ := ev_ok (show ev f x _ = .ok b from hk)
    obtain ⟨xs, h3, h4⟩ := evl_ok h2
    have hcall : callV E ih fv xs H (goK o.dst go f H ds) = .ok b → OpR E.P N r rn w0 g0 H0 ops Q o rest f.fv H ds := fun h5 => by
      obtain ⟨r', m, rd, wr, h6, h7, _, h8⟩ := callV_it (tys := c.argTypes) (ty := o.type) hE hih h1 h3 h5
      refine outK _ _ _ _ ?_ h7 h8
      obtain ⟨cc, ca, ct⟩ := c
      have hcx : cc = .value x := hcx
      subst hcx
      rw [hop]; exact h6
    split at h4
    · rename_i i
      obtain ⟨q, H', h5, h6⟩ := roundK_ok hih h4
      obtain ⟨f', h7, h8, h9⟩ := goP_ok h5
      intro g w a hr ha
      have hv := ha.ev hr.gl h1
      have hvs : RVs g w H xs (c.args.toList.map a.eval) := args_rv h3 fun y _ u hu => ha.ev hr.gl hu
      obtain ⟨ff, tmps, asg, bd, hli, hy, hround⟩ := h6 0 w0 g0 H0 g w _ r hr hvs
      refine ⟨fun _ _ => trivial, ?_⟩
      have hrun : (execOp a.eval o).run E.P w = .ok (.round (g.β i) ff tmps asg bd) w := by
        unfold execOp; rw [hop]
        generalize he : a.eval x = v at hv
        cases hv with
        | yld hl =>
          obtain ⟨cc, ca, ct⟩ := c
          have hcx : cc = .value x := hcx
          subst hcx
          simp [resolve, he, Deferred.ofValue, invoke, Sem.run_bind, Result.andThen]
          have e : ca.map a.eval = (ca.toList.map a.eval).toArray := by rw [← Array.toList_map, Array.toArray_toList]
          rw [e, hy]
      rw [semAt_of hrun (by intro d h; cases h)]
      rw [Oper.uponIn_round]
      refine ⟨(fun h => by cases h), RoundIn.mono hround ?_⟩
      rintro en w' ⟨rfl, g', k1, k2⟩
      exact hgo _ _ _ h8 h7 g' w' _ k1 (((ha.mo k2).put hd (.v _)).sub fun t d ht => by rw [← h9]; exact ht)
    · exact hcall h4
  · cases rn with
    | some i => cases hk
    | none =>
      have hk : deferS f (fun g caps => goP o.dst go f H (.fn g caps :: ds) (.p (.v undef))) c = .ok b := hk
      unfold deferS at hk
      split at hk
      · rename_i x hcx
        obtain ⟨fv, h1, h2⟩ := ev_ok hk
        split at h2
        · rename_i gf caps
          obtain ⟨h3, h4⟩ := ck_ok h2
          obtain ⟨f', h5, h6, h7⟩ := goP_ok h4
          exact .defer hop hcx h1 (by simpa using h3) rfl hd (.sub (fun t d ht => by rw [← h7]; exact ht) (hgo _ _ _ h6 h5))
        · cases h2
      · cases hk
theorem callY_it {β : Type} {b : β} {E : Env} {ih : IH} {H : List Ob} {k : K β} {l : Fv} {x : Operand} {args : Array Operand} {tys : Array TypeId} {ty : TypeId} {i : Nat} {xs : List V} (hih : IHok E ih) (hx : evG l x = some (.yld i)) (ha : args.toList.map (evG l) = xs.map some) (h : callY ih i xs H k = .ok b) :
    ∃ r m rd wr, It E.P (.call { callee := .value x, args := args, argTypes := tys }) ty (evG l) rd wr r ∧ rdOk (H ++ List.replicate m .dead) rd ∧ (∀ q ∈ wr, q.1 < H.length + m) ∧ k r m rd wr = .ok b := by
  unfold callY at h
  obtain ⟨sel, hsel⟩ : ∃ sel, reach H (i :: idsL xs []) = sel := ⟨_, rfl⟩
  simp only [hsel] at h
  obtain ⟨h1, h2⟩ := ck_ok h
  obtain ⟨ys, h3, h4⟩ := ob_ok h2
  split at h4
  · rename_i i' xs'
    obtain ⟨Hc, h5, h6⟩ := Pk.of h1 h4
    obtain ⟨q, H', h7, h8⟩ := roundK_ok hih h6
    obtain ⟨h9, h10⟩ := rnL_ok (Rnm.idx sel) h3
    have h10 : ltL Hc.length (.yld i' :: xs') = true := by rw [← h5.sl.1]; exact h10
    obtain ⟨h11, h12⟩ := ck_ok h7
    rw [fN_eq, fN_eq, lenL_eq, lenL_eq, lenL_eq] at h12
    rw [lenL_eq, lenL_eq] at h11
    have hle := Nat.le_of_ble_eq_true h11
    obtain ⟨m, hm⟩ : ∃ m, H'.length - sel.length = m := ⟨_, rfl⟩
    rw [hm] at h12
    have hsl : ∀ j ∈ sel, j < H.length := fun j hj => by
      obtain ⟨n, hn⟩ := List.mem_iff_getElem?.1 hj
      have hil : n < Hc.length := by rw [← h5.sl.1]; exact (List.getElem?_eq_some_iff.1 hn).1
      have q1 := h5.sl.2 n Hc[n] (List.getElem?_eq_getElem hil)
      rw [sf_lt (by rw [h5.sl.1]; exact hil)] at hn
      cases hn
      exact (List.getElem?_eq_some_iff.1 q1).1
    have hnd : (sel ++ List.range' H.length m).Nodup := List.nodup_append.2 ⟨h5.nd, List.nodup_range', fun a ha c hc e => by
      have := hsl a ha
      have := (List.mem_range'_1.1 hc).1
      omega⟩
    refine ⟨_, m, _, _, ?_, fun q hq => ?_, fun q hq => ?_, h12⟩
    · intro g w H0 e o ho _ hr hrd hf
      have hsl0 : rdOk H0 (wl (sf sel) sel Hc) := fun q hq => hrd q (List.mem_append_left _ hq)
      have hs := sel_of h5.sl.1 hsl0
      have hvs : RVs g w H0 (.yld i :: xs) (e x :: args.toList.map e) := .cons (hf x (by simp [Op.operands, Call.operands]) _ hx) (args_rv ha fun y hy => hf y (by simp [Op.operands, Call.operands]; exact .inr (by simpa using hy)))
      rw [← h9] at hvs
      have hvs' := renL_to hs.lnk _ _ h10 hvs
      cases hvs' with
      | cons hy hxs =>
        have hr0 := hr.sel hs h5.nd h5.lt
        obtain ⟨ff, tmps, asg, bd, hli, hyr, hround⟩ := h8 0 w (g.ren (sf sel)) Hc (g.ren (sf sel)) w _ none hr0.rs hxs
        generalize he : e x = u at hy
        cases hy with
        | yld hl =>
          have hrun : (execOp e o).run E.P w = .ok (.round ((g.ren (sf sel)).β i') ff tmps asg bd) w := by
            unfold execOp; rw [ho]
            simp [resolve, he, Deferred.ofValue, invoke, Sem.run_bind, Result.andThen]
            have e2 : args.map e = (args.toList.map e).toArray := by rw [← Array.toList_map, Array.toArray_toList]
            rw [e2, hyr]
          refine .inr (.inr ⟨_, hrun, .inr ⟨_, _, _, _, _, rfl, RoundIn.mono hround ?_⟩⟩)
          rintro en w' ⟨rfl, g', k1, _⟩
          obtain ⟨g2, k2, k3⟩ := merge hr hs hnd (fun j hj => hrd (j, .dead) (List.mem_append_right _ (List.mem_map.2 ⟨j, hj, rfl⟩))) hle (by simp; omega) k1
          exact ⟨_, rfl, g2, k2, k3 (vB q) _ (.v _)⟩
    · rcases List.mem_append.1 hq with hq | hq
      · have h1 := h5.rd q hq
        rw [List.getElem?_append_left (List.getElem?_eq_some_iff.1 h1).1]; exact h1
      · obtain ⟨j, hj, rfl⟩ := List.mem_map.1 hq
        obtain ⟨h1, h2⟩ := List.mem_range'_1.1 hj
        rw [List.getElem?_append_right h1, List.getElem?_replicate, if_pos (by omega)]
    · obtain ⟨i, _, h1⟩ := wl_mem _ _ _ q hq
      have := List.mem_of_getElem? h1
      rcases List.mem_append.1 this with h2 | h2
      · have := hsl _ h2; omega
      · exact (List.mem_range'_1.1 h2).2
  · cases h4
theorem opG_ok (hE : EnvOk E) (hih : IHok E ih) {o : Oper} {go : Fm → List Ob → List Df → M β} {f : Fm} {H : List Ob} {ds : List Df} (hd : dOk N o.dst = true)
    (hgo : ∀ f' H' ds', f'.u = f.u → go f' H' ds' = .ok b → SE E.P N r rn w0 g0 H0 ops Q rest f'.fv H' ds') (h : opG rn o.op o.type o.dst E ih go f H ds = .ok b) : OpR E.P N r rn w0 g0 H0 ops Q o rest f.fv H ds := by
  have old := fun h : opS rn o.op o.type o.dst E ih go f H ds = .ok b => opS_ok (r := r) (w0 := w0) (g0 := g0) (H0 := H0) (Q := Q) hE hih hd hgo h
  unfold opG at h
  split at h
  · rename_i c hop
    split at h
    · rename_i x y T U hc1 hc2 hc3
      obtain ⟨a, h1, h2⟩ := ev_ok h
      split at h2
      · obtain ⟨h3, h4⟩ := ck_ok h2
        have e1 := Nat.eq_of_beq_eq_true h3
        subst e1
        obtain ⟨d, h5, h6⟩ := ev_ok h4
        have hop' : o.op = .call { callee := .builtin .append, args := #[x, y], argTypes := #[T, T] } := by
          rw [hop]
          obtain ⟨cc, ca, ct⟩ := c
          have e2 : ca = #[x, y] := Array.toList_inj.1 hc2
          have e3 : ct = #[T, T] := Array.toList_inj.1 hc3
          have e4 : cc = .builtin .append := hc1
          rw [e2, e3, e4]
        rcases eGNew_ok (ty := o.type) (f := f) (kp := fun _ => .no "") h1 h5 h6 with ⟨_, _, hk⟩ | ⟨d', m, rd, wr, hi, hrd, _, hk⟩
        · cases hk
        · rw [← hop'] at hi
          obtain ⟨f', h7, h8, h9⟩ := goK_ok hk
          exact .ext m (.it hi hrd hd (.sub (fun t d ht => by rw [← h9]; exact ht) (hgo _ _ _ h8 h7)))
      · exact old h2
    · exact old h
  · exact old h
theorem regS_ok (hE : EnvOk E) (hih : IHok E ih) {k : Fm → List Ob → List Df → M β} {ol : List Oper} {U : Nat} {gm : Bool} (hk : ∀ f' H' ds', f'.u = U → k f' H' ds' = .ok b → ∀ g w a, Rs w0 g0 H0 g w H' → OkE r N rn g w H' f'.fv ds' a → Q .normal a w) :
    ∀ {os : List Oper} {f : Fm} {H : List Ob} {ds : List Df}, f.u = U → (∀ o ∈ os, dOk N o.dst = true) → regS gm rn E ih ol k os f H ds = .ok b → SE E.P N r rn w0 g0 H0 ol.toArray Q os f.fv H ds
  | [], f, H, ds, hu, _, h => hk f H ds hu h
  | o :: os, f, H, ds, hu, hd, h => by
    obtain ⟨dst, op, ty, pos, af, gd⟩ := o
    replace h : operS gm rn E ih ol (regS gm rn E ih ol k os) f H ds dst op ty gd = .ok b := h
    have hgo : ∀ f' H' ds', f'.u = f.u → regS gm rn E ih ol k os f' H' ds' = .ok b → SE E.P N r rn w0 g0 H0 ol.toArray Q os f'.fv H' ds' := fun f' H' ds' hu' h' => regS_ok hE hih hk (hu'.trans hu) (fun o ho => hd o (by simp [ho])) h'
    have hd0 : dOk N dst = true := hd _ (List.mem_cons_self ..)
    have hop := fun (gd : Option (Nat × Bool)) (h : bb gm (opG rn op ty dst E ih (regS gm rn E ih ol k os) f H ds) (opS rn op ty dst E ih (regS gm rn E ih ol k os) f H ds) = .ok b) => (bb_ok h).elim
      (fun h => opG_ok (o := { dst := dst, op := op, type := ty, pos := pos, after := af, guard := gd }) (r := r) (w0 := w0) (g0 := g0) (H0 := H0) (Q := Q) hE hih hd0 hgo h.2)
      (fun h => opS_ok (o := { dst := dst, op := op, type := ty, pos := pos, after := af, guard := gd }) (r := r) (w0 := w0) (g0 := g0) (H0 := H0) (Q := Q) hE hih hd0 hgo h.2)
    intro g w a hr ha
    cases gd with
    | none =>
      have := hop none h g w a hr ha
      simpa only [segL, Region.wanted, if_true] using this
    | some q =>
      obtain ⟨j, want⟩ := q
      obtain ⟨dj, h1, h2⟩ := gdK_ok (show gdK ol (j, want) f _ _ = .ok b from h)
      have hj : (ol.toArray[j]?).bind (·.dst) = some dj := by simpa using h1
      rcases h2 with ⟨h3, h4⟩ | ⟨h3, h4⟩
      · have := hop (some (j, want)) h4 g w a hr ha
        simp only [segL, Region.wanted, yield_b ha hj h3, beq_self_eq_true, if_true]
        exact this
      · obtain ⟨f', h5, h6, h7⟩ := goP_ok h4
        have hno : Region.wanted { dst := dst, op := op, type := ty, pos := pos, after := af, guard := some (j, want) } (yielded ol.toArray a.tmps) = false := by
          rcases h3 with h3 | ⟨x, h3⟩
          · simp only [Region.wanted, yield_b ha hj h3]; cases want <;> rfl
          · simp only [Region.wanted, yield_t ha hj h3]; rfl
        simp only [segL, hno]
        exact hgo f' H ds h6 h5 g w _ hr ((ha.put hd0 (.v _)).sub fun t d ht => by rw [← h7]; exact ht)
end
end Go.Dp
