/- Closed calls: maps. -/
import Derived.Test.YtpcgfeckokgbfaaGreatDoorJl
set_option linter.all false
namespace Go.Dp
open Go Go.Mi Go.RowKit Go.MapKept
theorem keyFits_ok {d : TypeDesc} {k : Value} (h : keyFits d k = true) : IsKey d k := by
  unfold keyFits at h
  split at h
  · exact (ikEq_eq h).symm
  · trivial
  · cases h
theorem keyEq_ok {d : TypeDesc} {k q : Value} {r : Bool} (hk : IsKey d k) (h : keyEq k q = some r) : Instr.sameNow d k q = some r ∧ (r = true → q = k) := by
  unfold keyEq at h
  split at h
  · rename_i i a j b'
    cases hb : ikEq i j with
    | false => rw [hb] at h; cases h
    | true =>
      rw [hb] at h
      have e := ikEq_eq hb
      subst e
      simp only [cond_true, Option.some.injEq, iEq_eq] at h
      subst h
      cases d <;> first | exact hk.elim | skip
      refine ⟨?_, fun e => by rw [of_decide_eq_true e]⟩
      simp only [Instr.sameNow, if_true, Option.some.injEq]
      rfl
  · rename_i a b'
    simp only [Option.some.injEq] at h
    subst h
    cases d <;> first | exact hk.elim | skip
    refine ⟨?_, fun e => by rw [of_decide_eq_true e]⟩
    simp only [Instr.sameNow, Option.some.injEq]
    rw [Bool.eq_iff_iff, bytes_beq, decide_eq_true_iff]
  · cases h
theorem kFind_ok {d : TypeDesc} {k : Value} (hk : IsKey d k) : ∀ (kv : List (Value × V)) (bs : List Nat) (us : List Value) (i : Nat) (r : Option (Nat × V)), bs.length = kv.length → us.length = kv.length → kFind k kv i = some r →
    (r = none ∧ Instr.findNow d k (mkEs bs (kv.map (·.1)) us) i = some none) ∨ ∃ n v u, r = some (i + n, v) ∧ kv[n]? = some (k, v) ∧ us[n]? = some u ∧ Instr.findNow d k (mkEs bs (kv.map (·.1)) us) i = some (some (i + n, u))
  | [], bs, us, i, r, _, _, h => by
    have : some none = some r := h
    cases this
    refine .inl ⟨rfl, ?_⟩
    cases bs <;> cases us <;> rfl
  | (q, v) :: kv, [], us, i, r, h, _, _ => by cases h
  | (q, v) :: kv, b :: bs, [], i, r, _, h, _ => by cases h
  | (q, v) :: kv, b :: bs, u :: us, i, r, h1, h2, h => by
    simp only [kFind] at h
    split at h
    · rename_i e
      obtain ⟨e1, e2⟩ := keyEq_ok hk e
      cases h
      have := e2 rfl
      subst this
      exact .inr ⟨0, v, u, rfl, rfl, rfl, by simp [mkEs, Instr.findNow, e1]⟩
    · rename_i e
      obtain ⟨e1, _⟩ := keyEq_ok hk e
      rcases kFind_ok hk kv bs us (i + 1) r (by simpa using h1) (by simpa using h2) h with ⟨e3, e4⟩ | ⟨n, v', u', e3, e4, e5, e6⟩
      · exact .inl ⟨e3, by simp only [List.map_cons, mkEs, Instr.findNow, e1]; exact e4⟩
      · exact .inr ⟨n + 1, v', u', by rw [e3]; simp; omega, by simpa using e4, by simpa using e5, by simp only [List.map_cons, mkEs, Instr.findNow, e1]; rw [e6]; simp; omega⟩
    · cases h
theorem mkEs_get : ∀ {bs : List Nat} {ks us : List Value} {j b : Nat} {k u : Value}, bs[j]? = some b → ks[j]? = some k → us[j]? = some u → (mkEs bs ks us)[j]? = some { key := k, val := u, born := b }
  | [], _, _, _, _, _, _, h, _, _ => by simp at h
  | _ :: _, [], _, _, _, _, _, _, h, _ => by simp at h
  | _ :: _, _ :: _, [], _, _, _, _, _, _, h => by simp at h
  | _ :: bs, _ :: ks, _ :: us, 0, _, _, _, h1, h2, h3 => by simp at h1 h2 h3; subst h1; subst h2; subst h3; rfl
  | _ :: bs, _ :: ks, _ :: us, j + 1, _, _, _, h1, h2, h3 => by
    simp only [mkEs, List.getElem?_cons_succ] at h1 h2 h3 ⊢; exact mkEs_get h1 h2 h3
theorem mkEs_mod (val : Value) : ∀ (bs : List Nat) (ks us : List Value) (j : Nat) (k : Value), ks[j]? = some k → ((mkEs bs ks us).modify j fun e => { e with key := k, val := val }) = mkEs bs ks (us.set j val)
  | [], _, _, _, _, _ => by simp [mkEs]
  | _ :: _, [], _, _, _, h => by simp at h
  | _ :: _, _ :: _, [], _, _, _ => by simp [mkEs]
  | b :: bs, q :: ks, u :: us, 0, k, h => by simp at h; subst h; simp [mkEs]
  | b :: bs, q :: ks, u :: us, j + 1, k, h => by
    simp only [mkEs, List.modify_succ_cons, List.set_cons_succ, List.getElem?_cons_succ] at h ⊢
    rw [mkEs_mod val bs ks us j k h]
theorem mkEs_modK : ∀ (bs : List Nat) (ks us : List Value) (j : Nat) (k : Value), ks[j]? = some k → ((mkEs bs ks us).modify j fun e => { e with key := k }) = mkEs bs ks us
  | [], _, _, _, _, _ => by simp [mkEs]
  | _ :: _, [], _, _, _, h => by simp at h
  | _ :: _, _ :: _, [], _, _, _ => by simp [mkEs]
  | b :: bs, q :: ks, u :: us, 0, k, h => by simp at h; subst h; simp [mkEs]
  | b :: bs, q :: ks, u :: us, j + 1, k, h => by
    simp only [mkEs, List.modify_succ_cons, List.getElem?_cons_succ] at h ⊢
    rw [mkEs_modK bs ks us j k h]
theorem mkEs_modV (val : Value) : ∀ (bs : List Nat) (ks us : List Value) (j : Nat), ((mkEs bs ks us).modify j fun e => { e with val := val }) = mkEs bs ks (us.set j val)
  | [], _, _, _ => by simp [mkEs]
  | _ :: _, [], _, _ => by simp [mkEs]
  | _ :: _, _ :: _, [], _ => by simp [mkEs]
  | b :: bs, q :: ks, u :: us, 0 => by simp [mkEs]
  | b :: bs, q :: ks, u :: us, j + 1 => by
    simp only [mkEs, List.modify_succ_cons, List.set_cons_succ]
    rw [mkEs_modV val bs ks us j]
theorem mkEs_push (c : Nat) (k u : Value) : ∀ (bs : List Nat) (ks us : List Value), bs.length = ks.length → us.length = ks.length → mkEs bs ks us ++ [{ key := k, val := u, born := c }] = mkEs (bs ++ [c]) (ks ++ [k]) (us ++ [u])
  | [], [], [], _, _ => rfl
  | b :: bs, q :: ks, x :: us, h1, h2 => by
    simp only [mkEs, List.cons_append]
    rw [mkEs_push c k u bs ks us (by simpa using h1) (by simpa using h2)]
  | [], _ :: _, _, h, _ => by cases h
  | _ :: _, [], _, h, _ => by cases h
  | [], [], _ :: _, _, h => by cases h
  | _ :: _, _ :: _, [], _, h => by cases h
theorem mkEs_len : ∀ (bs : List Nat) (ks us : List Value), bs.length = ks.length → us.length = ks.length → (mkEs bs ks us).length = ks.length
  | [], [], [], _, _ => rfl
  | b :: bs, q :: ks, x :: us, h1, h2 => by
    simp only [mkEs, List.length_cons]
    rw [mkEs_len bs ks us (by simpa using h1) (by simpa using h2)]
  | [], _ :: _, _, h, _ => by cases h
  | _ :: _, [], _, h, _ => by cases h
  | [], [], _ :: _, _, h => by cases h
  | _ :: _, _ :: _, [], _, h => by cases h
/-- a map is written to -/
theorem Rs.mpW {g : Gh} {w : World} {H : List Ob} {i c c' : Nat} {bs bs' : List Nat} {kv kv' : List (Value × V)} {us : List Value} (h : Rs0 g w H) (hi : H[i]? = some (.mp c bs kv)) (hl : bs'.length = kv'.length) (hd : RVs g w H (kv'.map (·.2)) us) :
    Rs w g H g { w with heap := w.heap.setIfInBounds (g.β i) (.map (mkEs bs' (kv'.map (·.1)) us).toArray c') } (H.set i (.mp c' bs' kv')) := by
  have hil := (List.getElem?_eq_some_iff.1 hi).1
  have hown : ∀ b, own g H i b ↔ b = g.β i := fun b => by unfold own; rw [hi]; exact Iff.rfl
  obtain ⟨us0, h1, h2, h3⟩ := h.ob i _ hi
  have hs := heap_set (o' := .map (mkEs bs' (kv'.map (·.1)) us).toArray c') h1
  refine Rs.one h hil rfl rfl rfl (by simp) (fun b hl hn => ⟨hs.2 b fun e => hn ((hown b).2 e), rfl⟩) (fun b o ho hlt => ?_) (fun b _ => Nat.le_refl _) (fun j _ => ⟨rfl, rfl⟩) (fun _ => ⟨trivial, rfl⟩)
    (fun m hm => by rw [hi] at hm; cases hm) (fun b ho => .inl ((hown b).2 ho)) (fun hmo => ⟨us, hs.1, hl, hd.mo hmo⟩)
  have := (hown b).1 ho
  subst this
  simp [World.cell?, hs.1, h1]
/-- a new object of one block -/
theorem Rs.newO {g : Gh} {w : World} {H : List Ob} {i : Nat} {o : Ob} {ob : Obj} (h : Rs0 g w H) (hi : H[i]? = some .dead) (ho : ∀ g b, ownO g i b (some o) → b = g.β i) (hc : ∀ g' : Gh, g'.β i = w.heap.size → Mo g w H g' (w.alloc ob) (H.set i o) → RO g' (w.alloc ob) (H.set i o) i o) :
    Rs w g H ⟨upd g.β i w.heap.size, upd g.E w.heap.size 0, g.h⟩ (w.alloc ob) (H.set i o) := by
  have hil := (List.getElem?_eq_some_iff.1 hi).1
  have hb := alloc_below w ob
  have hno : ∀ b, ¬ own g H i b := fun b ho => by unfold own at ho; rw [hi] at ho; exact ho
  refine Rs.one h hil hb.os hb.tape hb.output hb.size (fun b hl _ => ⟨hb.block b hl, upd_ne (by omega)⟩) (fun b _ ho => absurd ho (hno b)) (fun b ho => absurd ho (hno b)) (fun j hj => ⟨upd_ne hj, rfl⟩) (fun hl => by rw [hi] at hl; exact hl.elim)
    (fun m hm => by rw [hi] at hm; cases hm) (fun b ho' => ?_) (fun hmo => hc _ (upd_eq _ _ _) hmo)
  have e : b = upd g.β i w.heap.size i := ho _ b ho'
  rw [upd_eq] at e
  exact .inr (by omega)
section
variable {β : Type} {b : β} {Pg : Program} {ty : TypeId} {f : Fm} {H : List Ob} {kp : V → M β} {k : K β}
theorem elemM_ok {T : TypeId} {q : TypeId × TypeDesc} (h : semP Pg (elemM T) = some q) : ∃ kt, Pg.underlying T = some (.map kt q.1) ∧ Pg.underlying kt = some q.2 := by
  obtain ⟨u, h1, h2⟩ := semP_bind h
  split at h2
  · obtain ⟨i, h3, h4⟩ := semP_bind h2
    cases semP_pure h4; exact ⟨_, und_ok h1, und_ok h3⟩
  · exact (stuck_no h2).elim
theorem i_makeMap {T i : Nat} {ρ : Operand → Option V} : It Pg (.makeMap T none) ty ρ [(i, .dead)] [(i, .mp 0 [] [])] (.map i) := fun g w H ev o hop _ hr hrd h => by
  have hd := hrd.one
  have hg := Rs.newO (o := .mp 0 [] []) (ob := .map #[] 0) hr hd (fun g b h => h) fun g' e hmo => ⟨[], by rw [e]; exact (heap_alloc w _).1, rfl, .nil⟩
  refine .inl ⟨.map (some w.heap.size), _, ?_, _, hg, ?_⟩
  · unfold execOp; rw [hop]; simp [Instr.makeMap, Sem.run_bind, Result.andThen]
  · have := RV.map (g := ⟨upd g.β i w.heap.size, upd g.E w.heap.size 0, g.h⟩) (w := w.alloc (.map #[] 0)) (H := setW H [(i, .mp 0 [] [])]) (i := i) (by unfold live; show liveO (H.set i _)[i]?; rw [set_eq (List.getElem?_eq_some_iff.1 hd).1]; trivial)
    simpa [upd_eq] using this
theorem eMkMap_ok {T : Nat} {r : Option Operand} (h : eMkMap f H k T r = .ok b) : Out Pg (.makeMap T r) ty f.fv H kp k b := by
  cases r with
  | none => exact .new (d := .map) i_makeMap h
  | some x =>
    obtain ⟨a, h1, h2⟩ := ev_ok (show ev f x (fun a => a.asI fun _ _ => (.no "makeMap" : M β)) = .ok b from h)
    obtain ⟨_, _, _, h3⟩ := asI_ok h2
    cases h3
theorem out_mw {op : Op} {i c c' : Nat} {bs bs' : List Nat} {kv kv' : List (Value × V)} {d : V} (hi : H[i]? = some (.mp c bs kv)) (hk : k d 0 [(i, .mp c bs kv)] [(i, .mp c' bs' kv')] = .ok b)
    (h : ∀ (g : Gh) (w : World) (H0 : List Ob) (e : Operand → Value) (o : Oper), o.op = op → (∀ x ∈ op.operands, ∀ u, evG f.fv x = some u → RV g w H0 u (e x)) → ∀ us, w.heap[g.β i]? = some (.map (mkEs bs (kv.map (·.1)) us).toArray c) → bs.length = kv.length → RVs g w H0 (kv.map (·.2)) us →
      ∃ us' v n, (execOp e o).run Pg w = .ok n { w with heap := w.heap.setIfInBounds (g.β i) (.map (mkEs bs' (kv'.map (·.1)) us').toArray c') } ∧ bs'.length = kv'.length ∧ RVs g w H0 (kv'.map (·.2)) us' ∧ ((n = .value v ∧ ∀ g' w' H', Mo g w H0 g' w' H' → RV g' w' H' d v) ∨ (n = .skip ∧ d = .p (.v undef)))) : Out Pg op ty f.fv H kp k b :=
  .w (fun g w H0 e o hop _ hr hrd hf => by
    obtain ⟨us, h1, h2, h3⟩ := hr.ob i _ hrd.one
    obtain ⟨us', v, n, r1, r2, r3, r4⟩ := h g w H0 e o hop hf us h1 h2 h3
    have hg := Rs.mpW (c' := c') hr hrd.one r2 r3
    rcases r4 with ⟨rfl, r5⟩ | ⟨rfl, rfl⟩
    · exact .inl ⟨_, _, r1, _, hg, r5 _ _ _ hg.mo⟩
    · exact .inr (.inl ⟨_, r1, _, hg, .v _⟩)) hi hk
theorem upd_push {T kt et : TypeId} {d : TypeDesc} {w : World} {r c : Nat} {es : List MapEntry} {key val : Value} (hm : Pg.underlying T = some (.map kt et)) (hd : Pg.underlying kt = some d) (hb : w.heap[r]? = some (.map es.toArray c)) (hk : IsKey d key) (hf : Instr.findNow d key es 0 = some none) :
    (Instr.mapUpdate T (.map (some r)) key val).run Pg w = .ok () { w with heap := w.heap.setIfInBounds r (.map (es ++ [({ key := key, val := val, born := c } : MapEntry)]).toArray (c + 1)) } := by
  have e : (es.toArray.push ({ key := key, val := val, born := c } : MapEntry)) = (es ++ [({ key := key, val := val, born := c } : MapEntry)]).toArray := by simp
  simp [Instr.mapUpdate, run_underlying hm, Go.MapKept.run_getObj_map hb, Go.MapKept.run_checkKey hd hk, Go.MapKept.run_findKey hd hf, Go.MapKept.run_setObj_map _ hb, Result.andThen, e]
theorem upd_set {T kt et : TypeId} {d : TypeDesc} {w : World} {r c j : Nat} {es : List MapEntry} {key val u : Value} {e0 : MapEntry} (hm : Pg.underlying T = some (.map kt et)) (hd : Pg.underlying kt = some d) (hb : w.heap[r]? = some (.map es.toArray c)) (hk : IsKey d key) (hf : Instr.findNow d key es 0 = some (some (j, u))) (he : es[j]? = some e0) (h0 : e0.key = key) :
    (Instr.mapUpdate T (.map (some r)) key val).run Pg w = .ok () { w with heap := w.heap.setIfInBounds r (.map (es.modify j fun e => { e with key := key, val := val }).toArray c) } := by
  simp [Instr.mapUpdate, run_underlying hm, Go.MapKept.run_getObj_map hb, Go.MapKept.run_checkKey hd hk, Go.MapKept.run_findKey hd hf, he, h0, Go.MapKept.run_keyThatStays hk, Go.MapKept.run_setObj_map _ hb, Result.andThen]
theorem ent_push {T kt et : TypeId} {d : TypeDesc} {w : World} {r c : Nat} {es : List MapEntry} {key z : Value} (hm : Pg.underlying T = some (.map kt et)) (hd : Pg.underlying kt = some d) (hb : w.heap[r]? = some (.map es.toArray c)) (hk : IsKey d key) (hf : Instr.findNow d key es 0 = some none) (hz : (zeroValue et).run Pg w = .ok z w) :
    (Instr.mapEntry T (.map (some r)) key).run Pg w = .ok (.tuple #[z, goInt c]) { w with heap := w.heap.setIfInBounds r (.map (es ++ [({ key := key, val := z, born := c } : MapEntry)]).toArray (c + 1)) } := by
  have e : (es.toArray.push ({ key := key, val := z, born := c } : MapEntry)) = (es ++ [({ key := key, val := z, born := c } : MapEntry)]).toArray := by simp
  simp [Instr.mapEntry, run_underlying hm, Go.MapKept.run_getObj_map hb, Go.MapKept.run_checkKey hd hk, Go.MapKept.run_findKey hd hf, Go.MapKept.run_setObj_map _ hb, Result.andThen, e, hz]
theorem ent_set {T kt et : TypeId} {d : TypeDesc} {w : World} {r c j : Nat} {es : List MapEntry} {key u : Value} {e0 : MapEntry} (hm : Pg.underlying T = some (.map kt et)) (hd : Pg.underlying kt = some d) (hb : w.heap[r]? = some (.map es.toArray c)) (hk : IsKey d key) (hf : Instr.findNow d key es 0 = some (some (j, u))) (he : es[j]? = some e0) (h0 : e0.key = key) :
    (Instr.mapEntry T (.map (some r)) key).run Pg w = .ok (.tuple #[u, goInt e0.born]) { w with heap := w.heap.setIfInBounds r (.map (es.modify j fun e => { e with key := key }).toArray c) } := by
  simp [Instr.mapEntry, run_underlying hm, Go.MapKept.run_getObj_map hb, Go.MapKept.run_checkKey hd hk, Go.MapKept.run_findKey hd hf, he, h0, Go.MapKept.run_keyThatStays hk, Go.MapKept.run_setObj_map _ hb, Result.andThen]
theorem RV.mapv {g : Gh} {w : World} {H : List Ob} {i : Nat} {v : Value} (h : RV g w H (.map i) v) : v = .map (some (g.β i)) := by cases h; rfl
theorem set_same {α : Type} : ∀ {l : List α} {j : Nat} {x : α}, l[j]? = some x → l.set j x = l
  | [], _, _, h => by simp at h
  | _ :: _, 0, _, h => by simp at h; subst h; rfl
  | _ :: l, j + 1, _, h => by simp only [List.set_cons_succ]; rw [set_same (by simpa using h)]
/-- writing to a map -/
theorem ins_core {op : Op} {T : Nat} {m key x : Operand} {q : TypeId × TypeDesc} {i c : Nat} {bs : List Nat} {kv : List (Value × V)} {bk d : V} {kk : Value} (hop : op.operands = #[m, key, x]) (hex : ∀ (e : Operand → Value) (o : Oper) w w', o.op = op → (Instr.mapUpdate T (e m) (e key) (e x)).run Pg w = .ok () w' → (execOp e o).run Pg w = .ok .skip w')
    (h1 : evG f.fv m = some (.map i)) (h2 : evG f.fv key = some bk) (h3 : evG f.fv x = some d) (hq : semP Pg (elemM T) = some q) (hkk : bk.val = some kk) (hi : H[i]? = some (.mp c bs kv)) (hf : keyFits q.2 kk = true) {r : Option (Nat × V)} (hr : kFind kk kv 0 = some r)
    (hk : (match r with | some (j, _) => k (.p (.v undef)) 0 [(i, .mp c bs kv)] [(i, .mp c bs (kv.set j (kk, d)))] | none => k (.p (.v undef)) 0 [(i, .mp c bs kv)] [(i, .mp (c + 1) (bs ++ [c]) (kv ++ [(kk, d)]))]) = .ok b) : Out Pg op ty f.fv H kp k b := by
  obtain ⟨kt, hm, hd⟩ := elemM_ok hq
  have hK := keyFits_ok hf
  have ent : ∀ {g : Gh} {w : World} {H0 : List Ob} {e : Operand → Value}, (∀ x ∈ op.operands, ∀ u, evG f.fv x = some u → RV g w H0 u (e x)) → e m = .map (some (g.β i)) ∧ e key = kk ∧ RV g w H0 d (e x) := fun hfr =>
    ⟨(hfr m (by simp [hop]) _ h1).mapv, (hfr key (by simp [hop]) _ h2).val hkk, hfr x (by simp [hop]) _ h3⟩
  cases r with
  | none =>
    refine out_mw hi hk fun g w H0 e o ho hfr us e1 e2 e3 => ?_
    obtain ⟨a1, a2, a3⟩ := ent hfr
    have hus : us.length = kv.length := by rw [← e3.len]; simp
    rcases kFind_ok hK kv bs us 0 none e2 hus hr with ⟨_, b2⟩ | ⟨n, v, u, b1, _⟩
    · refine ⟨us ++ [e x], undef, .skip, ?_, by simp [e2], ?_, .inr ⟨rfl, rfl⟩⟩
      · apply hex _ _ _ _ ho
        rw [a1, a2, upd_push hm hd e1 hK b2, mkEs_push c kk (e x) bs (kv.map (·.1)) us (by simp [e2]) (by simp [hus])]
        simp
      · rw [List.map_append]; exact e3.append (.cons a3 .nil)
    · cases b1
  | some jv =>
    obtain ⟨j, v⟩ := jv
    refine out_mw hi hk fun g w H0 e o ho hfr us e1 e2 e3 => ?_
    obtain ⟨a1, a2, a3⟩ := ent hfr
    have hus : us.length = kv.length := by rw [← e3.len]; simp
    rcases kFind_ok hK kv bs us 0 _ e2 hus hr with ⟨b1, _⟩ | ⟨n, v', u, b1, b2, b3, b4⟩
    · cases b1
    · simp only [Option.some.injEq, Prod.mk.injEq, Nat.zero_add] at b1 b4
      obtain ⟨rfl, rfl⟩ := b1
      have hjl := (List.getElem?_eq_some_iff.1 b2).1
      have hbj : bs[j]? = some bs[j] := List.getElem?_eq_getElem (by omega)
      have hkj : (kv.map (·.1))[j]? = some kk := by rw [List.getElem?_map, b2]; rfl
      have hent := mkEs_get hbj hkj b3
      refine ⟨us.set j (e x), undef, .skip, ?_, by simp [e2], ?_, .inr ⟨rfl, rfl⟩⟩
      · apply hex _ _ _ _ ho
        rw [a1, a2, upd_set hm hd e1 hK b4 hent rfl, mkEs_mod (e x) bs _ us j kk hkj, List.map_set]
        rw [set_same (x := kk) hkj]
      · rw [List.map_set]; exact e3.set a3
theorem eInsert_core {op : Op} {T : Nat} {m key x : Operand} (hop : op.operands = #[m, key, x]) (hex : ∀ (e : Operand → Value) (o : Oper) w w', o.op = op → (Instr.mapUpdate T (e m) (e key) (e x)).run Pg w = .ok () w' → (execOp e o).run Pg w = .ok .skip w') (h : eInsert Pg f H k T m key x = .ok b) : Out Pg op ty f.fv H kp k b := by
  obtain ⟨a, h1, h2⟩ := ev_ok h
  obtain ⟨bk, h3, h4⟩ := ev_ok h2
  obtain ⟨d, h5, h6⟩ := ev_ok h4
  obtain ⟨q, h7, h8⟩ := ty_ok h6
  split at h8
  · obtain ⟨kk, h9, h10⟩ := ob_ok h8
    obtain ⟨o, h11, h12⟩ := nth_ok h10
    split at h12
    · obtain ⟨h13, h14⟩ := ck_ok h12
      obtain ⟨r, h15, h16⟩ := ob_ok h14
      simp only [Bool.and_eq_true] at h13
      refine ins_core hop hex h1 h3 h5 h7 h9 h11 h13.1 h15 ?_
      rcases r with _ | ⟨j, v⟩
      · exact h16
      · exact h16
    · cases h12
  · cases h8
end
end Go.Dp
namespace Go.Dp
open Go Go.Mi Go.RowKit Go.MapKept
section
variable {β : Type} {b : β} {Pg : Program} {ty : TypeId} {f : Fm} {H : List Ob} {kp : V → M β} {k : K β}
theorem look_run {T kt et : TypeId} {d : TypeDesc} {w : World} {mv : Value} {es : List MapEntry} {key : Value} {ok : Bool} (hm : Pg.underlying T = some (.map kt et)) (hd : Pg.underlying kt = some d) (hk : IsKey d key)
    (hb : (mv = .map none ∧ es = []) ∨ ∃ r c, mv = .map (some r) ∧ w.heap[r]? = some (.map es.toArray c)) :
    (Instr.findNow d key es 0 = some none → ∀ z, (zeroValue et).run Pg w = .ok z w → (Instr.lookup T mv key ok).run Pg w = .ok (if ok then .tuple #[z, .bool false] else z) w) ∧
    (∀ j u, Instr.findNow d key es 0 = some (some (j, u)) → (Instr.lookup T mv key ok).run Pg w = .ok (if ok then .tuple #[u, .bool true] else u) w) := by
  rcases hb with ⟨rfl, rfl⟩ | ⟨r, c, rfl, hb⟩
  · refine ⟨fun h z hz => ?_, fun j u h => by simp [Instr.findNow] at h⟩
    simp [Instr.lookup, run_underlying hm, Go.MapKept.run_checkKey hd hk, Go.MapKept.run_findKey hd h, Result.andThen, hz]
  · refine ⟨fun h z hz => ?_, fun j u h => ?_⟩
    · simp [Instr.lookup, run_underlying hm, Go.MapKept.run_getObj_map hb, Go.MapKept.run_checkKey hd hk, Go.MapKept.run_findKey hd h, Result.andThen, hz]
    · simp [Instr.lookup, run_underlying hm, Go.MapKept.run_getObj_map hb, Go.MapKept.run_checkKey hd hk, Go.MapKept.run_findKey hd h, Result.andThen]
theorem ok_rv {g : Gh} {w : World} {H : List Ob} {ok c : Bool} {d : V} {u : Value} (h : RV g w H d u) : RV g w H (cond ok (.tup [d, vB c]) d) (if ok then .tuple #[u, .bool c] else u) := by
  cases ok with
  | false => exact h
  | true => exact .tup (.cons h (.cons (.v _) .nil))
theorem eLookup_ok {T : Nat} {x y : Operand} {ok : Bool} (h : eLookup Pg f H kp k T x y ok = .ok b) : Out Pg (.lookup T x y ok) ty f.fv H kp k b := by
  obtain ⟨a, h1, h2⟩ := ev_ok h
  obtain ⟨c, h3, h4⟩ := ev_ok h2
  obtain ⟨kk, h5, h6⟩ := ob_ok h4
  obtain ⟨q, h7, h8⟩ := ty_ok h6
  obtain ⟨z, h9, h10⟩ := ty_ok h8
  obtain ⟨kt, hm, hd⟩ := elemM_ok h7
  split at h10
  · obtain ⟨o, h11, h12⟩ := nth_ok h10
    split at h12
    · rename_i i o' cl bs kv
      obtain ⟨h13, h14⟩ := ck_ok h12
      obtain ⟨r, h15, h16⟩ := ob_ok h14
      have hK := keyFits_ok h13
      have key : ∀ {g : Gh} {w : World} {H0 : List Ob} {e : Operand → Value}, Rs0 g w H0 → H0[i]? = some (.mp cl bs kv) → (∀ x' ∈ (Op.lookup T x y ok).operands, ∀ u, evG f.fv x' = some u → RV g w H0 u (e x')) → ∃ us, e y = kk ∧ RVs g w H0 (kv.map (·.2)) us ∧ bs.length = kv.length ∧ us.length = kv.length ∧ _ :=
        fun {g w H0 e} hr hi hf => by
          obtain ⟨us, e1, e2, e3⟩ := hr.ob i _ hi
          have a1 := (hf x (by simp [Op.operands]) _ h1).mapv
          have hus : us.length = kv.length := by rw [← e3.len]; simp
          exact ⟨us, (hf y (by simp [Op.operands]) _ h3).val h5, e3, e2, hus, look_run (ok := ok) hm hd hK (.inr ⟨_, _, a1, e1⟩)⟩
      split at h16
      · rename_i j v
        refine .r (.read fun g w H0 e o ho _ hr hi hf => ?_) h11 h16
        obtain ⟨us, a1, a2, a3, a4, a5⟩ := key hr hi hf
        rcases kFind_ok hK kv bs us 0 _ a3 a4 h15 with ⟨b1, _⟩ | ⟨n, v', u, b1, b2, b3, b4⟩
        · cases b1
        · cases b1
          obtain ⟨u', c1, c2⟩ := a2.get (i := n) (d := v) (by rw [List.getElem?_map, b2]; rfl)
          rw [b3] at c1; cases c1
          refine ⟨_, ?_, ok_rv c2⟩
          unfold execOp; rw [ho]; simp only [a1, Sem.run_bind, a5.2 _ _ b4, Result.andThen, Sem.run_pure]
      · refine .r (.read fun g w H0 e o ho _ hr hi hf => ?_) h11 h16
        obtain ⟨us, a1, a2, a3, a4, a5⟩ := key hr hi hf
        rcases kFind_ok hK kv bs us 0 _ a3 a4 h15 with ⟨_, b2⟩ | ⟨n, v', u, b1, _⟩
        · refine ⟨_, ?_, ok_rv (.ofV z)⟩
          unfold execOp; rw [ho]; simp only [a1, Sem.run_bind, a5.1 b2 _ (semP_run h9 w), Result.andThen, Sem.run_pure]
        · cases b1
    · cases h12
  · obtain ⟨h13, h14⟩ := ck_ok h10
    have hK := keyFits_ok h13
    refine .p (.pure fun g w H0 e o ho _ _ hf => ?_) h14
    have a1 := (hf x (by simp [Op.operands]) _ h1).vi
    have a2 := (hf y (by simp [Op.operands]) _ h3).val h5
    have := look_run (w := w) (ok := ok) (es := []) hm hd hK (.inl ⟨a1, rfl⟩)
    refine ⟨_, ?_, ok_rv (.ofV z)⟩
    unfold execOp; rw [ho]; simp only [a2, Sem.run_bind, this.1 rfl _ (semP_run h9 w), Result.andThen, Sem.run_pure]
  · cases h10
theorem eMapEntry_ok {T : Nat} {x y : Operand} (h : eMapEntry Pg f H k T x y = .ok b) : Out Pg (.mapEntry T x y) ty f.fv H kp k b := by
  obtain ⟨a, h1, h2⟩ := ev_ok h
  obtain ⟨c, h3, h4⟩ := ev_ok h2
  obtain ⟨kk, h5, h6⟩ := ob_ok h4
  obtain ⟨q, h7, h8⟩ := ty_ok h6
  obtain ⟨z, h9, h10⟩ := ty_ok h8
  obtain ⟨kt, hm, hd⟩ := elemM_ok h7
  split at h10
  · obtain ⟨o, h11, h12⟩ := nth_ok h10
    split at h12
    · rename_i i o' cl bs kv
      obtain ⟨h13, h14⟩ := ck_ok h12
      simp only [Bool.and_eq_true] at h13
      obtain ⟨r, h15, h16⟩ := ob_ok h14
      have hK := keyFits_ok h13.1
      split at h16
      · rename_i j v
        obtain ⟨s, h17, h18⟩ := nth_ok h16
        refine out_mw h11 h18 fun g w H0 e o ho hf us e1 e2 e3 => ?_
        have a1 := (hf x (by simp [Op.operands]) _ h1).mapv
        have a2 := (hf y (by simp [Op.operands]) _ h3).val h5
        have hus : us.length = kv.length := by rw [← e3.len]; simp
        rcases kFind_ok hK kv bs us 0 _ e2 hus h15 with ⟨b1, _⟩ | ⟨n, v', u, b1, b2, b3, b4⟩
        · cases b1
        · simp only [Option.some.injEq, Prod.mk.injEq, Nat.zero_add] at b1 b4
          obtain ⟨rfl, rfl⟩ := b1
          have hkj : (kv.map (·.1))[j]? = some kk := by rw [List.getElem?_map, b2]; rfl
          obtain ⟨u', c1, c2⟩ := e3.get (i := j) (d := v) (by rw [List.getElem?_map, b2]; rfl)
          rw [b3] at c1; cases c1
          have hent := mkEs_get h17 hkj b3
          refine ⟨us, .tuple #[u, goInt s], .value (.tuple #[u, goInt s]), ?_, by simp [e2], by rw [set_same b2]; exact e3, .inl ⟨rfl, fun g' w' H' m => .tup (.cons (c2.mo m) (.cons (.v _) .nil))⟩⟩
          unfold execOp; rw [ho]; simp only [a1, a2, Sem.run_bind, ent_set hm hd e1 hK b4 hent rfl, Result.andThen, Sem.run_pure]
          rw [mkEs_modK bs _ us j kk hkj, set_same b2]
      · refine out_mw h11 h16 fun g w H0 e o ho hf us e1 e2 e3 => ?_
        have a1 := (hf x (by simp [Op.operands]) _ h1).mapv
        have a2 := (hf y (by simp [Op.operands]) _ h3).val h5
        have hus : us.length = kv.length := by rw [← e3.len]; simp
        rcases kFind_ok hK kv bs us 0 _ e2 hus h15 with ⟨_, b2⟩ | ⟨n, v', u, b1, _⟩
        · refine ⟨us ++ [z], .tuple #[z, goInt cl], .value (.tuple #[z, goInt cl]), ?_, by simp [e2], by rw [List.map_append]; exact e3.append (.cons (.v z) .nil), .inl ⟨rfl, fun g' w' H' m => .tup (.cons (.v _) (.cons (.v _) .nil))⟩⟩
          unfold execOp; rw [ho]; simp only [a1, a2, Sem.run_bind, ent_push hm hd e1 hK b2 (semP_run h9 w), Result.andThen, Sem.run_pure]
          rw [mkEs_push cl kk z bs (kv.map (·.1)) us (by simp [e2]) (by simp [hus])]
          simp
        · cases b1
    · cases h12
  · cases h10
theorem findN_ok {n : Int} : ∀ {bs : List Nat} {i j : Nat}, findN bs n i = some j → i ≤ j ∧ ∃ s : Nat, bs[j - i]? = some s ∧ (s : Int) = n ∧ ∀ m s' : Nat, m < j - i → bs[m]? = some s' → (s' : Int) ≠ n
  | [], _, _, h => by cases h
  | s :: bs, i, j, h => by
    simp only [findN] at h
    cases hc : iEq (s : Int) n with
    | true =>
      rw [hc] at h
      have : some i = some j := h
      cases this
      rw [iEq_eq] at hc
      exact ⟨Nat.le_refl _, s, by simp, of_decide_eq_true hc, fun m s' hm => by omega⟩
    | false =>
      rw [hc] at h
      rw [iEq_eq] at hc
      obtain ⟨h1, t, h2, h3, h4⟩ := findN_ok (i := i + 1) h
      have e : j - i = (j - (i + 1)) + 1 := by omega
      refine ⟨by omega, t, by rw [e]; simpa using h2, h3, fun m s' hm hs => ?_⟩
      cases m with
      | zero => simp at hs; subst hs; exact of_decide_eq_false hc
      | succ m => exact h4 m s' (by omega) (by simpa using hs)
theorem findIdx_mkEs {n : Int} : ∀ {bs : List Nat} {ks us : List Value} {j : Nat}, bs.length = ks.length → us.length = ks.length → (∃ s : Nat, bs[j]? = some s ∧ (s : Int) = n) → (∀ m s' : Nat, m < j → bs[m]? = some s' → (s' : Int) ≠ n) → (mkEs bs ks us).findIdx? (fun e => (e.born : Int) == n) = some j
  | [], _, _, _, _, _, ⟨_, h, _⟩, _ => by simp at h
  | _ :: _, [], _, _, h, _, _, _ => by cases h
  | _ :: _, _ :: _, [], _, _, h, _, _ => by cases h
  | b0 :: bs, q :: ks, u :: us, 0, _, _, ⟨s, h1, h2⟩, _ => by
    simp at h1; subst h1
    simp [mkEs, List.findIdx?_cons, h2]
  | b0 :: bs, q :: ks, u :: us, j + 1, h1, h2, ⟨s, h3, h4⟩, h5 => by
    have hne : ¬ ((b0 : Int) = n) := h5 0 b0 (by omega) rfl
    have ih := findIdx_mkEs (n := n) (bs := bs) (ks := ks) (us := us) (j := j) (by simpa using h1) (by simpa using h2) ⟨s, by simpa using h3, h4⟩ fun m s' hm hs => h5 (m + 1) s' (by omega) (by simpa using hs)
    simp [mkEs, List.findIdx?_cons, hne, ih]
theorem eEntryStore_ok {T : Nat} {x y v : Operand} (h : eEntryStore f H k T x y v = .ok b) : Out Pg (.entryStore T x y v) ty f.fv H kp k b := by
  obtain ⟨a, h1, h2⟩ := ev_ok h
  obtain ⟨c, h3, h4⟩ := ev_ok h2
  obtain ⟨d, h5, h6⟩ := ev_ok h4
  obtain ⟨ik, n, rfl, h7⟩ := asI_ok h6
  split at h7
  · obtain ⟨o, h11, h12⟩ := nth_ok h7
    split at h12
    · rename_i i o' cl bs kv
      obtain ⟨j, h13, h14⟩ := ob_ok h12
      obtain ⟨q, h15, h16⟩ := nth_ok h14
      obtain ⟨_, h17⟩ := ck_ok h16
      obtain ⟨_, s, f1, f2, f3⟩ := findN_ok h13
      simp only [Nat.sub_zero] at f1 f3
      refine out_mw h11 h17 fun g w H0 e o ho hf us e1 e2 e3 => ?_
      have a1 := (hf x (by simp [Op.operands]) _ h1).mapv
      have a2 := (hf y (by simp [Op.operands]) _ h3).vi
      have a3 := hf v (by simp [Op.operands]) _ h5
      have hus : us.length = kv.length := by rw [← e3.len]; simp
      have hkj : (kv.map (·.1))[j]? = some q.1 := by rw [List.getElem?_map, h15]; rfl
      have hfi := findIdx_mkEs (ks := kv.map (·.1)) (us := us) (by simp [e2]) (by simp [hus]) ⟨s, f1, f2⟩ f3
      have hrun : (Instr.entryStore T (.map (some (g.β i))) (.int ik n) (e v)).run Pg w = .ok () { w with heap := w.heap.setIfInBounds (g.β i) (.map ((mkEs bs (kv.map (·.1)) us).modify j fun e0 => { e0 with val := e v }).toArray cl) } := by
        simp [Instr.entryStore, Go.MapKept.run_getObj_map e1, asInt, asIntOf, Result.andThen, hfi, Go.MapKept.run_setObj_map _ e1]
      refine ⟨us.set j (e v), undef, .skip, ?_, by simp [e2], by rw [List.map_set]; exact e3.set a3, .inr ⟨rfl, rfl⟩⟩
      unfold execOp; rw [ho]; simp only [a1, a2, Sem.run_bind, hrun, Result.andThen, Sem.run_pure]
      rw [mkEs_modV, List.map_set, set_same (x := q.1) hkj]
    · cases h12
  · cases h7
end
end Go.Dp
