/- Closed calls: what the words of the evaluator mean. -/
import Derived.Test.YtpcgfeckokgbfaaGreatDoorJj
set_option linter.all false
namespace Go.Dp
open Go Go.Mi Go.RowKit
section words
variable {α β γ : Type} {b : β}
theorem M.b_ok {x : M α} {f : α → M β} (h : x.b f = .ok b) : ∃ a, x = .ok a ∧ f a = .ok b := by
  cases x with
  | ok a => exact ⟨a, rfl, h⟩
  | no s => cases h
theorem ob_ok {s : String} {x : Option α} {f : α → M β} (h : ob s x f = .ok b) : ∃ a, x = some a ∧ f a = .ok b := by
  cases x with
  | none => cases h
  | some a => exact ⟨a, rfl, h⟩
theorem bb_ok {c : Bool} {t e : M β} (h : bb c t e = .ok b) : (c = true ∧ t = .ok b) ∨ (c = false ∧ e = .ok b) := by
  cases c with
  | true => exact .inl ⟨rfl, h⟩
  | false => exact .inr ⟨rfl, h⟩
theorem ck_ok {s : String} {c : Bool} {t : M β} (h : ck s c t = .ok b) : c = true ∧ t = .ok b := by
  cases c with
  | true => exact ⟨rfl, h⟩
  | false => cases h
theorem an_eq (a c : Bool) : an a c = (a && c) := by cases a <;> rfl
theorem an_ok {a c : Bool} (h : an a c = true) : a = true ∧ c = true := by cases a <;> cases c <;> simp_all [an]
theorem semP_run {Pg : Program} : ∀ {s : Sem α} {a : α}, semP Pg s = some a → ∀ w, s.run Pg w = .ok a w
  | .pure _, _, h, w => by simp only [semP, Option.some.injEq] at h; subst h; rfl
  | .program k, _, h, w => semP_run (s := k Pg) h w
  | .mark _ k, _, h, w => semP_run (s := k) h w
  | .load .., _, h, _ => by cases h
  | .store .., _, h, _ => by cases h
  | .new .., _, h, _ => by cases h
  | .shape .., _, h, _ => by cases h
  | .freeze .., _, h, _ => by cases h
  | .frozen .., _, h, _ => by cases h
  | .getObj .., _, h, _ => by cases h
  | .setObj .., _, h, _ => by cases h
  | .choose .., _, h, _ => by cases h
  | .sys .., _, h, _ => by cases h
  | .halt _, _, h, _ => by cases h
theorem ty_ok {Pg : Program} {s : Sem α} {k : α → M β} (h : ty? Pg s k = .ok b) : ∃ a, semP Pg s = some a ∧ k a = .ok b := ob_ok h
theorem semP_bind {Pg : Program} {f : α → Sem γ} : ∀ {s : Sem α} {c : γ}, semP Pg (s >>= f) = some c → ∃ a, semP Pg s = some a ∧ semP Pg (f a) = some c
  | .pure a, _, h => ⟨a, rfl, h⟩
  | .program k, _, h => semP_bind (s := k Pg) h
  | .mark _ k, _, h => semP_bind (s := k) h
  | .load .., _, h => by cases h
  | .store .., _, h => by cases h
  | .new .., _, h => by cases h
  | .shape .., _, h => by cases h
  | .freeze .., _, h => by cases h
  | .frozen .., _, h => by cases h
  | .getObj .., _, h => by cases h
  | .setObj .., _, h => by cases h
  | .choose .., _, h => by cases h
  | .sys .., _, h => by cases h
  | .halt _, _, h => by cases h
theorem semP_pure {Pg : Program} {a c : α} (h : semP Pg (pure a) = some c) : a = c := by cases h; rfl
theorem stuck_no {Pg : Program} {s : String} {a : α} (h : semP Pg (stuck s : Sem α) = some a) : False := by cases h
theorem nth_ok {s : String} : ∀ {l : List α} {i : Nat} {k : α → M β}, nth s l i k = .ok b → ∃ a, l[i]? = some a ∧ k a = .ok b
  | [], _, _, h => by cases h
  | x :: _, 0, _, h => ⟨x, rfl, h⟩
  | _ :: l, i + 1, k, h => by obtain ⟨a, h1, h2⟩ := nth_ok (l := l) (i := i) h; exact ⟨a, by simpa using h1, h2⟩
theorem nthO_eq : ∀ (l : List α) (i : Nat), nthO l i = l[i]?
  | [], _ => rfl
  | _ :: _, 0 => rfl
  | _ :: l, i + 1 => by rw [List.getElem?_cons_succ]; exact nthO_eq l i
theorem dropL_eq : ∀ (l : List α) (n : Nat), dropL l n = l.drop n
  | [], _ => by simp [dropL]
  | _ :: _, 0 => rfl
  | _ :: l, n + 1 => by rw [List.drop_succ_cons]; exact dropL_eq l n
theorem takeL_eq : ∀ (l : List α) (n : Nat), takeL l n = l.take n
  | [], _ => by simp [takeL]
  | _ :: _, 0 => rfl
  | x :: l, n + 1 => by rw [List.take_succ_cons, ← takeL_eq l n]; rfl
theorem mapL_eq (f : α → γ) : ∀ (l : List α), mapL f l = l.map f
  | [] => rfl
  | x :: l => by rw [List.map_cons, ← mapL_eq f l]; rfl
theorem lenL_eq : ∀ (l : List α), lenL l = l.length
  | [] => rfl
  | x :: l => by rw [List.length_cons, ← lenL_eq l]; rfl
theorem appL_eq : ∀ (l r : List α), appL l r = l ++ r
  | [], _ => rfl
  | x :: l, r => by rw [List.cons_append, ← appL_eq l r]; rfl
theorem fN_eq {n : Nat} {k : Nat → β} : fN n k = k n := by cases n <;> rfl
theorem onesV_eq : ∀ (l : List V), onesV l = l.all V.one
  | [] => rfl
  | d :: l => by rw [List.all_cons, ← onesV_eq l, ← an_eq]; rfl
theorem iLt_eq (a c : Int) : iLt a c = decide (a < c) := by
  cases a with
  | ofNat m => cases c with
    | ofNat n => show Nat.ble (Nat.succ m) n = _; rw [Bool.eq_iff_iff, Nat.ble_eq, decide_eq_true_eq]; show m + 1 ≤ n ↔ (m : Int) < (n : Int); omega
    | negSucc n => show false = _; rw [eq_comm, decide_eq_false_iff_not]; show ¬ (m : Int) < Int.negSucc n; omega
  | negSucc m => cases c with
    | ofNat n => show true = _; rw [eq_comm, decide_eq_true_eq]; show Int.negSucc m < (n : Int); omega
    | negSucc n => show Nat.ble (Nat.succ n) m = _; rw [Bool.eq_iff_iff, Nat.ble_eq, decide_eq_true_eq]; omega
theorem iLe_eq (a c : Int) : iLe a c = decide (a ≤ c) := by
  cases a with
  | ofNat m => cases c with
    | ofNat n => show Nat.ble m n = _; rw [Bool.eq_iff_iff, Nat.ble_eq, decide_eq_true_eq]; show m ≤ n ↔ (m : Int) ≤ (n : Int); omega
    | negSucc n => show false = _; rw [eq_comm, decide_eq_false_iff_not]; show ¬ (m : Int) ≤ Int.negSucc n; omega
  | negSucc m => cases c with
    | ofNat n => show true = _; rw [eq_comm, decide_eq_true_eq]; show Int.negSucc m ≤ (n : Int); omega
    | negSucc n => show Nat.ble n m = _; rw [Bool.eq_iff_iff, Nat.ble_eq, decide_eq_true_eq]; omega
theorem iEq_eq (a c : Int) : iEq a c = decide (a = c) := by
  cases a with
  | ofNat m => cases c with
    | ofNat n => show Nat.beq m n = _; rw [Bool.eq_iff_iff, Nat.beq_eq, decide_eq_true_eq]; show m = n ↔ (m : Int) = (n : Int); omega
    | negSucc n => show false = _; rw [eq_comm, decide_eq_false_iff_not]; show ¬ (m : Int) = Int.negSucc n; omega
  | negSucc m => cases c with
    | ofNat n => show false = _; rw [eq_comm, decide_eq_false_iff_not]; show ¬ Int.negSucc m = (n : Int); omega
    | negSucc n => show Nat.beq n m = _; rw [Bool.eq_iff_iff, Nat.beq_eq, decide_eq_true_eq]; omega
theorem ikEq_eq {i j : IntKind} (h : ikEq i j = true) : i = j := by cases i <;> cases j <;> first | rfl | cases h
theorem wrK_eq {i : IntKind} {n : Int} {k : Int → M β} : wrK i n k = k (i.wrap n) := by
  cases n with
  | negSucc m => rfl
  | ofNat m =>
    show Bool.rec (motive := fun _ => M β) (k (i.wrap (.ofNat m))) (fN m fun m => k (.ofNat m)) (Nat.ble (Nat.succ m) (ikL i)) = _
    cases hb : Nat.ble (Nat.succ m) (ikL i) with
    | false => rfl
    | true =>
      show fN m (fun m => k (.ofNat m)) = _
      rw [fN_eq]
      have hl := Nat.le_of_ble_eq_true hb
      have : i.wrap (.ofNat m) = .ofNat m := by
        show i.wrap (m : Int) = (m : Int)
        cases i <;> simp only [ikL, IntKind.wrap, IntKind.bits, IntKind.signed, Bool.true_and, Bool.false_and, decide_eq_true_eq, Bool.false_eq_true, if_false, Nat.reduceSub, Int.reducePow] at hl ⊢ <;> first | omega | (split <;> first | omega | (rename_i hq; have := of_decide_eq_true hq; omega))
      rw [this]
theorem uEq_eq : ∀ (a c : List UInt8), uEq a c = true → a = c
  | [], [], _ => rfl
  | [], _ :: _, h => by cases h
  | _ :: _, [], h => by cases h
  | x :: a, y :: c, h => by
    have h' : Bool.rec (motive := fun _ => Bool) false (uEq a c) (Nat.beq x.toNat y.toNat) = true := h
    cases hb : Nat.beq x.toNat y.toNat with
    | false => rw [hb] at h'; cases h'
    | true =>
      rw [hb] at h'
      rw [uEq_eq a c h', UInt8.toNat_inj.1 (Nat.eq_of_beq_eq_true hb)]
theorem uEq_no : ∀ (a c : List UInt8), uEq a c = false → a ≠ c
  | [], [], h => by cases h
  | [], _ :: _, _ => by simp
  | _ :: _, [], _ => by simp
  | x :: a, y :: c, h => by
    have h' : Bool.rec (motive := fun _ => Bool) false (uEq a c) (Nat.beq x.toNat y.toNat) = false := h
    cases hb : Nat.beq x.toNat y.toNat with
    | false => intro e; cases e; rw [Nat.beq_refl] at hb; cases hb
    | true => rw [hb] at h'; intro e; cases e; exact uEq_no a a h' rfl
theorem sEq_eq (a c : ByteArray) : sEq a c = decide (a = c) := by
  cases h : sEq a c with
  | true => rw [eq_comm, decide_eq_true_eq]; exact ByteArray.ext (Array.toList_inj.1 (uEq_eq _ _ h))
  | false => rw [eq_comm, decide_eq_false_iff_not]; intro e; exact uEq_no _ _ h (by rw [e])
end words
end Go.Dp
namespace Go.Dp
open Go Go.Mi Go.RowKit
theorem lk_filter (p : Nat → Bool) : ∀ (l : Fv) (t : Nat), lk (l.filter fun q => p q.1) t = cond (p t) (lk l t) none
  | [], t => by cases p t <;> rfl
  | (s, v) :: l, t => by
    by_cases e : s = t
    · subst e
      cases hp : p s with
      | true => simp [List.filter_cons, hp, lk]
      | false => rw [List.filter_cons]; simp only [hp]; rw [if_neg (by simp), lk_filter p l s, hp]; rfl
    · cases hp : p s with
      | true => rw [List.filter_cons]; simp only [hp, if_true, lk, beq_ne e, cond_false]; exact lk_filter p l t
      | false => rw [List.filter_cons]; simp only [hp, lk, beq_ne e, cond_false]; rw [if_neg (by simp)]; exact lk_filter p l t
theorem lk_append : ∀ (a c : Fv) (t : Nat), lk (a ++ c) t = (lk a t).or (lk c t)
  | [], _, _ => rfl
  | (s, v) :: a, c, t => by
    simp only [List.cons_append, lk]
    cases Nat.beq s t with
    | true => rfl
    | false => exact lk_append a c t
noncomputable def Fm.fv : Fm → Fv
  | .mk U lc l => (lc.fv.filter fun q => !tb U q.1) ++ l.fv.filter fun q => tb U q.1
theorem lk_fm (U : Nat) (lc l : Fr) (t : Nat) : lk (Fm.fv (.mk U lc l)) t = cond (tb U t) (lk l.fv t) (lk lc.fv t) := by
  show lk (_ ++ _) t = _
  rw [lk_append, lk_filter (fun i => !tb U i), lk_filter (tb U)]
  cases tb U t with
  | true => rfl
  | false => cases lk lc.fv t <;> rfl
section
variable {β : Type} {b : β}
theorem gt_ok {t : Nat} {k : V → M β} : ∀ {l : Fr}, gt l t k = .ok b → ∃ d, lk l.fv t = some d ∧ k d = .ok b
  | .e, h => by cases h
  | .c s v r, h => by
    have h' : Bool.rec (motive := fun _ => M β) (gt r t k) (k v) (Nat.beq s t) = .ok b := h
    show ∃ d, lk ((s, v) :: r.fv) t = some d ∧ _
    simp only [lk]
    cases hb : Nat.beq s t with
    | true => rw [hb] at h'; exact ⟨v, rfl, h'⟩
    | false => rw [hb] at h'; exact gt_ok (l := r) h'
theorem gm_ok {t U : Nat} {k : V → M β} {lc l : Fr} (h : gm t k U lc l = .ok b) : ∃ d, lk (Fm.fv (.mk U lc l)) t = some d ∧ k d = .ok b := by
  rw [lk_fm]
  have h' : Bool.rec (motive := fun _ => M β) (gt lc t k) (gt l t k) (tb U t) = .ok b := h
  cases hb : tb U t with
  | true => rw [hb] at h'; exact gt_ok h'
  | false => rw [hb] at h'; exact gt_ok h'
theorem ev_ok {f : Fm} {x : Operand} {k : V → M β} (h : ev f x k = .ok b) : ∃ d, evG f.fv x = some d ∧ k d = .ok b := by
  cases x with
  | tmp t => cases f with | mk U lc l => exact gm_ok h
  | const v => exact ⟨_, rfl, h⟩
  | global g => exact ⟨_, rfl, h⟩
  | func g => exact ⟨_, rfl, h⟩
theorem evl_ok {f : Fm} : ∀ {xs : List Operand} {k : List V → M β}, evl f xs k = .ok b → ∃ ds, xs.map (evG f.fv) = ds.map some ∧ k ds = .ok b
  | [], _, h => ⟨[], rfl, h⟩
  | x :: xs, k, h => by
    obtain ⟨d, h1, h2⟩ := ev_ok (show ev f x (fun d => evl f xs fun ds => k (d :: ds)) = .ok b from h)
    obtain ⟨ds, h3, h4⟩ := evl_ok h2
    exact ⟨d :: ds, by simp [h1, h3], h4⟩
theorem asI_ok {d : V} {k : IntKind → Int → M β} (h : d.asI k = .ok b) : ∃ i n, d = .p (.v (.int i n)) ∧ k i n = .ok b := by
  unfold V.asI at h
  split at h
  · exact ⟨_, _, rfl, h⟩
  · cases h
theorem asB_ok {d : V} {t e : M β} (h : d.asB t e = .ok b) : (d = vB true ∧ t = .ok b) ∨ (d = vB false ∧ e = .ok b) := by
  unfold V.asB at h
  split at h
  · exact .inl ⟨rfl, h⟩
  · exact .inr ⟨rfl, h⟩
  · cases h
end
/-! values that are known wholly -/
noncomputable def valL : List V → Option (List Value)
  | [] => some []
  | d :: ds => match d.val, valL ds with
    | some x, some xs => some (x :: xs)
    | _, _ => none
noncomputable def vr2 (cs : List V) : Option (List Value) :=
  V.rec_1 (motive_1 := fun _ => Option Value) (motive_2 := fun _ => Option (List Value))
    (fun x => match x with | .v v => some v | _ => none) (fun _ _ _ _ _ => none) (fun _ _ => none) (fun _ => none) (fun _ _ _ _ => none) (fun _ => none)
    (fun f b c _ _ => match b, c with | [], [] => some (.func f #[] #[]) | _, _ => none) (fun _ r => r.map fun l => .agg l.toArray) (fun _ r => r.map fun l => .tuple l.toArray) (fun _ => none) none (fun _ _ _ _ _ => none) (fun _ _ _ => none)
    (some []) (fun _ _ a b => match a, b with | some x, some xs => some (x :: xs) | _, _ => none) cs
theorem vr2_eq : ∀ (cs : List V), vr2 cs = valL cs
  | [] => rfl
  | d :: ds => by
    show (match d.val, vr2 ds with | some x, some xs => some (x :: xs) | _, _ => none) = _
    rw [vr2_eq ds]; rfl
theorem val_agg (cs : List V) : (V.agg cs).val = (valL cs).map fun l => .agg l.toArray := by rw [← vr2_eq]; rfl
theorem val_tup (cs : List V) : (V.tup cs).val = (valL cs).map fun l => .tuple l.toArray := by rw [← vr2_eq]; rfl
section
variable {g : Gh} {w : World} {H : List Ob}
mutual
theorem RV.val : ∀ {d : V} {v u : Value}, d.val = some v → RV g w H d u → u = v
  | .p (.v x), v, u, h, hu => by
    have e : some x = some v := h
    cases e; exact hu.vi
  | .p (.sl ..), _, _, h, _ => by cases h
  | .tk .., _, _, h, _ => by cases h
  | .ref .., _, _, h, _ => by cases h
  | .el _, _, _, h, _ => by cases h
  | .arr .., _, _, h, _ => by cases h
  | .map _, _, _, h, _ => by cases h
  | .yld _, _, _, h, _ => by cases h
  | .z, _, _, h, _ => by cases h
  | .gs .., _, _, h, _ => by cases h
  | .gp .., _, _, h, _ => by cases h
  | .fn f [] [], v, u, h, hu => by
    have e : some (Value.func f #[] #[]) = some v := h
    cases e; cases hu with | fn h1 h2 => cases h1; cases h2; rfl
  | .fn _ (_ :: _) _, _, _, h, _ => by cases h
  | .fn _ [] (_ :: _), _, _, h, _ => by cases h
  | .agg cs, v, u, h, hu => by
    rw [val_agg] at h
    cases hc : valL cs with
    | none => rw [hc] at h; cases h
    | some l => rw [hc] at h; cases h; cases hu with | agg hs => rw [RVs.val hc hs]
  | .tup cs, v, u, h, hu => by
    rw [val_tup] at h
    cases hc : valL cs with
    | none => rw [hc] at h; cases h
    | some l => rw [hc] at h; cases h; cases hu with | tup hs => rw [RVs.val hc hs]
theorem RVs.val : ∀ {ds : List V} {vs us : List Value}, valL ds = some vs → RVs g w H ds us → us = vs
  | [], _, _, h, hu => by cases hu; simp only [valL, Option.some.injEq] at h; exact h
  | d :: ds, vs, us, h, hu => by
    cases hu with
    | cons h1 h2 =>
      simp only [valL] at h
      cases hd : d.val with
      | none => rw [hd] at h; cases h
      | some x =>
        cases hs : valL ds with
        | none => rw [hd, hs] at h; cases h
        | some xs => rw [hd, hs] at h; cases h; rw [RV.val hd h1, RVs.val hs h2]
end
theorem RV.ofV (v : Value) : RV g w H (V.ofV v) v := by
  unfold V.ofV
  split
  · rename_i cs
    have : ∀ l : List Value, RVs g w H (l.map fun v => .p (.v v)) l := fun l => by
      induction l with
      | nil => exact .nil
      | cons a l ih => exact .cons (.v a) ih
    have := RV.agg (this cs.toList)
    simpa using this
  · exact .v v
end
/-- what an operation of the evaluator comes to -/
def Out {β : Type} (Pg : Program) (op : Op) (ty : TypeId) (l : Fv) (H : List Ob) (kp : V → M β) (k : K β) (b : β) : Prop :=
  (∃ d, It Pg op ty (evG l) [] [] d ∧ kp d = .ok b) ∨ ∃ d m rd wr, It Pg op ty (evG l) rd wr d ∧ rdOk (H ++ List.replicate m .dead) rd ∧ (∀ q ∈ wr, q.1 < H.length + m) ∧ k d m rd wr = .ok b
section
variable {β : Type} {b : β} {Pg : Program} {ty : TypeId} {f : Fm} {H : List Ob} {kp : V → M β} {k : K β}
theorem Out.p {op : Op} {d : V} (h : It Pg op ty (evG f.fv) [] [] d) (hk : kp d = .ok b) : Out Pg op ty f.fv H kp k b := .inl ⟨d, h, hk⟩
theorem dead_at (H : List Ob) : (H ++ List.replicate 1 Ob.dead)[H.length]? = some .dead := by simp
theorem Out.new {op : Op} {d : Nat → V} {o : Ob} (h : It Pg op ty (evG f.fv) [(H.length, .dead)] [(H.length, o)] (d H.length)) (hk : kNew k H d o = .ok b) : Out Pg op ty f.fv H kp k b := by
  unfold kNew at hk; rw [fN_eq, lenL_eq] at hk
  exact .inr ⟨_, 1, _, _, h, rd1 (dead_at H), fun q hq => (by simp at hq; subst hq; simp), hk⟩
theorem Out.r {op : Op} {d : V} {i : Nat} {o : Ob} (h : It Pg op ty (evG f.fv) [(i, o)] [] d) (hi : H[i]? = some o) (hk : k d 0 [(i, o)] [] = .ok b) : Out Pg op ty f.fv H kp k b :=
  .inr ⟨_, 0, _, _, h, rd1 (by simpa using hi), fun q hq => (by cases hq), hk⟩
theorem Out.w {op : Op} {d : V} {i : Nat} {o o' : Ob} (h : It Pg op ty (evG f.fv) [(i, o)] [(i, o')] d) (hi : H[i]? = some o) (hk : k d 0 [(i, o)] [(i, o')] = .ok b) : Out Pg op ty f.fv H kp k b :=
  .inr ⟨_, 0, _, _, h, rd1 (by simpa using hi), fun q hq => (by simp at hq; subst hq; exact (List.getElem?_eq_some_iff.1 hi).1), hk⟩
theorem eMove_ok {x : Operand} (h : eMove f kp x = .ok b) : Out Pg (.move x) ty f.fv H kp k b := by
  obtain ⟨d, h1, h2⟩ := ev_ok h
  exact .p (i_move h1) h2
theorem eAssign_ok {x : Operand} (h : eMove f kp x = .ok b) : Out Pg (.assign x) ty f.fv H kp k b := by
  obtain ⟨d, h1, h2⟩ := ev_ok h
  exact .p (i_assign h1) h2
theorem ePick_ok {c x y : Operand} (h : ePick f kp c x y = .ok b) : Out Pg (.pick c x y) ty f.fv H kp k b := by
  obtain ⟨d, h1, h2⟩ := ev_ok h
  rcases asB_ok h2 with ⟨rfl, h3⟩ | ⟨rfl, h3⟩ <;> obtain ⟨e, h4, h5⟩ := ev_ok h3
  · exact .p (i_pickT h1 h4) h5
  · exact .p (i_pickF h1 h4) h5
theorem zeroCs_ok {T : Nat} {k : List V → M β} (h : zeroCs Pg T k = .ok b) : ∃ z, (∀ w, (zeroValue T).run Pg w = .ok z w) ∧ k (z.cells.toList.map fun v => .p (.v v)) = .ok b := by
  obtain ⟨z, h1, h2⟩ := ty_ok h
  exact ⟨z, semP_run h1, h2⟩
theorem eAlloc_ok {T : Nat} (h : eAlloc Pg H k T = .ok b) : Out Pg (.alloc T) ty f.fv H kp k b := by
  obtain ⟨z, h1, h2⟩ := zeroCs_ok h
  exact .new (d := fun n => .ref n 0) (i_alloc h1 (by simp)) h2
theorem eBox_ok {T : Nat} {x : Operand} (h : eBox f H k T x = .ok b) : Out Pg (.box T x) ty f.fv H kp k b := by
  obtain ⟨d, h1, h2⟩ := ev_ok h
  obtain ⟨h3, h4⟩ := ck_ok h2
  rw [onesV_eq] at h3
  exact .new (d := fun n => .ref n 0) (i_box h1 h3) h4
theorem eExtract_ok {x : Operand} {i : Nat} (h : eExtract f kp x i = .ok b) : Out Pg (.extract x i) ty f.fv H kp k b := by
  obtain ⟨d, h1, h2⟩ := ev_ok h
  split at h2
  · obtain ⟨e, h3, h4⟩ := nth_ok h2
    exact .p (i_extract h1 h3) h4
  · cases h2
theorem eMkFunc_ok {q : Go.Fn} {x y : Array Operand} (h : eMkFunc f kp q x y = .ok b) : Out Pg (.makeFunc q x y) ty f.fv H kp k b := by
  obtain ⟨ds, h1, h2⟩ := evl_ok h
  obtain ⟨es, h3, h4⟩ := evl_ok h2
  have := i_makeFunc (Pg := Pg) (ty := ty) (fn := q) (ρ := evG f.fv) h1 h3
  exact .p (by simpa using this) h4
/-- an operation on values that are known -/
theorem It.val1 {op : Op} {x : Operand} {a : V} {va r : Value} (hx : evG f.fv x = some a) (ha : a.val = some va) (hop : op.operands = #[x]) (h : ∀ (e : Operand → Value) (o : Oper) w, o.op = op → o.type = ty → e x = va → (execOp e o).run Pg w = .ok (.value r) w) : It Pg op ty (evG f.fv) [] [] (V.ofV r) :=
  .pure fun g w H e o ho ht hr hf => ⟨r, h e o w ho ht ((hf x (by rw [hop]; simp) a hx).val ha), .ofV r⟩
theorem It.val2 {op : Op} {x y : Operand} {a c : V} {va vc r : Value} (hx : evG f.fv x = some a) (hy : evG f.fv y = some c) (ha : a.val = some va) (hc : c.val = some vc) (hop : op.operands = #[x, y])
    (h : ∀ (e : Operand → Value) (o : Oper) w, o.op = op → o.type = ty → e x = va → e y = vc → (execOp e o).run Pg w = .ok (.value r) w) : It Pg op ty (evG f.fv) [] [] (V.ofV r) :=
  .pure fun g w H e o ho ht hr hf => ⟨r, h e o w ho ht ((hf x (by rw [hop]; simp) a hx).val ha) ((hf y (by rw [hop]; simp) c hy).val hc), .ofV r⟩
theorem ofV_one {r : Value} (h : one1 r = true) : V.ofV r = .p (.v r) := by cases r <;> first | rfl | cases h
theorem eUn_ok {u : UnOp} {T : Nat} {x : Operand} (h : eUn Pg f kp u T x = .ok b) : Out Pg (.unOp u T x) ty f.fv H kp k b := by
  obtain ⟨a, h1, h2⟩ := ev_ok h
  obtain ⟨v, h3, h4⟩ := ob_ok h2
  obtain ⟨r, h5, h6⟩ := ob_ok h4
  obtain ⟨h7, h8⟩ := ck_ok h6
  refine .p ?_ h8
  rw [← ofV_one h7]
  exact .val1 h1 h3 rfl fun e o w ho ht he => by unfold execOp; rw [ho]; simp only [he, Sem.run_bind, semP_run h5 w, Result.andThen, Sem.run_pure]
theorem eMkIface_ok {T : Nat} {x : Operand} (h : eMkIface Pg f kp T x = .ok b) : Out Pg (.makeInterface T x) ty f.fv H kp k b := by
  obtain ⟨a, h1, h2⟩ := ev_ok h
  obtain ⟨v, h3, h4⟩ := ob_ok h2
  obtain ⟨r, h5, h6⟩ := ob_ok h4
  obtain ⟨h7, h8⟩ := ck_ok h6
  refine .p ?_ h8
  rw [← ofV_one h7]
  exact .val1 h1 h3 rfl fun e o w ho ht he => by unfold execOp; rw [ho]; simp only [he, Sem.run_bind, semP_run h5 w, Result.andThen, Sem.run_pure]
end
end Go.Dp
namespace Go.Dp
open Go Go.Mi Go.RowKit
section
variable {β : Type} {b : β} {Pg : Program} {ty : TypeId} {f : Fm} {H : List Ob} {kp : V → M β} {k : K β}
theorem kB_eq {c : Bool} : kB kp c = kp (vB c) := by cases c <;> rfl
theorem kI_eq {i : IntKind} {n : Int} : kI kp i n = kp (.p (.v (.int i (i.wrap n)))) := wrK_eq
theorem eq_step (T : TypeId) (x y : Value) : ∃ d, Op.equal T x y = Op.equalIn (d + 1) T x y := ⟨9999, rfl⟩
theorem nilSide_rv {u : TypeDesc} {T : TypeId} {a c : V} {g : Gh} {w : World} {H : List Ob} {va vc : Value} (hu : ∀ w, (underlying T).run Pg w = .ok u w) (h : nilSide u a c = true) (ha : RV g w H a va) (hc : RV g w H c vc) (x y : Operand) :
    (∀ op, op = .eql ∨ op = .neq → (eqGuard op T x y va vc).run Pg w = .ok () w ∧ (eqGuard op T y x vc va).run Pg w = .ok () w) ∧ (Op.equal T va vc).run Pg w = .ok false w ∧ (Op.equal T vc va).run Pg w = .ok false w := by
  have hslc : ∀ {k n : Nat} {cs : List P} {v : Value}, RP g.E w (.sl k (n + 1) cs) v → ∃ p m c, v = .slice (some p) m c := fun h => by
    rcases h.row with ⟨_, h0, _⟩ | ⟨b, o, cap, us, e, _⟩
    · cases h0
    · exact ⟨_, _, _, e⟩
  unfold nilSide at h
  split at h
  · have hs : ∃ p m c, va = .slice (some p) m c := by
      unfold V.isSl at h
      split at h
      · cases ha with | tk h1 _ => exact hslc h1
      · cases ha with | p h1 => exact hslc h1
      · cases ha with | arr _ => exact ⟨_, _, _, rfl⟩
      · cases h
    obtain ⟨p, m, c, rfl⟩ := hs
    have := hc.vi; subst this
    refine ⟨?_, ?_, ?_⟩
    · rintro op (rfl | rfl) <;> exact ⟨rfl, rfl⟩
    · obtain ⟨d, e⟩ := eq_step T _ _; rw [e]; simp only [Op.equalIn, hu, Sem.run_bind, Result.andThen, Sem.run_pure, Option.isNone]
    · obtain ⟨d, e⟩ := eq_step T _ _; rw [e]; simp only [Op.equalIn, hu, Sem.run_bind, Result.andThen, Sem.run_pure, Option.isNone]
  · have hs : ∃ i, va = .map (some i) := by
      unfold V.isMp at h
      split at h
      · cases ha with | map _ => exact ⟨_, rfl⟩
      · cases h
    obtain ⟨i, rfl⟩ := hs
    have := hc.vi; subst this
    refine ⟨?_, ?_, ?_⟩
    · rintro op (rfl | rfl) <;> exact ⟨rfl, rfl⟩
    · obtain ⟨d, e⟩ := eq_step T _ _; rw [e]; simp only [Op.equalIn, hu, Sem.run_bind, Result.andThen, Sem.run_pure, Option.isNone]
    · obtain ⟨d, e⟩ := eq_step T _ _; rw [e]; simp only [Op.equalIn, hu, Sem.run_bind, Result.andThen, Sem.run_pure, Option.isNone]
  · have hs : ∃ q xs ys, va = .func q xs ys := by
      unfold V.isFn at h
      split at h
      · cases ha with | fn _ _ => exact ⟨_, _, _, rfl⟩
      · exact ⟨_, _, _, ha.vi⟩
      · cases h
    obtain ⟨q, xs, ys, rfl⟩ := hs
    have := hc.vi; subst this
    refine ⟨?_, ?_, ?_⟩
    · rintro op (rfl | rfl) <;> exact ⟨rfl, rfl⟩
    · obtain ⟨d, e⟩ := eq_step T _ _; rw [e]; simp only [Op.equalIn, hu, Sem.run_bind, Result.andThen, Sem.run_pure, Option.isNone]
    · obtain ⟨d, e⟩ := eq_step T _ _; rw [e]; simp only [Op.equalIn, hu, Sem.run_bind, Result.andThen, Sem.run_pure, Option.isNone]
  · have hs : ∃ p, va = .pointer (some p) := by
      unfold V.isPt at h
      split at h
      · cases ha with | ref _ => exact ⟨_, rfl⟩
      · cases ha with | el _ _ _ _ _ => exact ⟨_, rfl⟩
      · cases h
    obtain ⟨p, rfl⟩ := hs
    have := hc.vi; subst this
    refine ⟨?_, ?_, ?_⟩
    · rintro op (rfl | rfl) <;> exact ⟨rfl, rfl⟩
    · obtain ⟨d, e⟩ := eq_step T _ _; rw [e]; simp only [Op.equalIn, hu, Sem.run_bind, Result.andThen, Sem.run_pure, Option.isNone]
    · obtain ⟨d, e⟩ := eq_step T _ _; rw [e]; simp only [Op.equalIn, hu, Sem.run_bind, Result.andThen, Sem.run_pure, Option.isNone]
  · cases h
theorem nilSide_no {u : TypeDesc} {a c : V} {g : Gh} {w : World} {H : List Ob} {va : Value} (h : nilSide u a c = true) (ha : RV g w H a va) : (∀ k n, va ≠ .int k n) ∧ (∀ k n, va ≠ .float k n) ∧ (∀ k n m, va ≠ .complex k n m) ∧ (∀ s, va ≠ .string s) := by
  have hslc : ∀ {k n : Nat} {cs : List P} {v : Value}, RP g.E w (.sl k n cs) v → ∃ p m c, v = .slice p m c := fun h => by
    rcases h.row with ⟨e, _, _⟩ | ⟨b, o, cap, us, e, _⟩
    · exact ⟨_, _, _, e⟩
    · exact ⟨_, _, _, e⟩
  unfold nilSide at h
  split at h
  · have hs : ∃ p m c, va = .slice p m c := by
      unfold V.isSl at h
      split at h
      · cases ha with | tk h1 _ => exact hslc h1
      · cases ha with | p h1 => exact hslc h1
      · cases ha with | arr _ => exact ⟨_, _, _, rfl⟩
      · cases h
    obtain ⟨p, m, c, rfl⟩ := hs
    exact ⟨fun _ _ => by simp, fun _ _ => by simp, fun _ _ _ => by simp, fun _ => by simp⟩
  · unfold V.isMp at h
    split at h
    · cases ha with | map _ => exact ⟨fun _ _ => by simp, fun _ _ => by simp, fun _ _ _ => by simp, fun _ => by simp⟩
    · cases h
  · unfold V.isFn at h
    split at h
    · cases ha with | fn _ _ => exact ⟨fun _ _ => by simp, fun _ _ => by simp, fun _ _ _ => by simp, fun _ => by simp⟩
    · have := ha.vi; subst this; exact ⟨fun _ _ => by simp, fun _ _ => by simp, fun _ _ _ => by simp, fun _ => by simp⟩
    · cases h
  · unfold V.isPt at h
    split at h
    · cases ha with | ref _ => exact ⟨fun _ _ => by simp, fun _ _ => by simp, fun _ _ _ => by simp, fun _ => by simp⟩
    · cases ha with | el _ _ _ _ _ => exact ⟨fun _ _ => by simp, fun _ _ => by simp, fun _ _ _ => by simp, fun _ => by simp⟩
    · cases h
  · cases h
theorem nilSide_no' {u : TypeDesc} {a c : V} {g : Gh} {w : World} {H : List Ob} {va : Value} (h : nilSide u c a = true) (ha : RV g w H a va) : (∀ k n, va ≠ .int k n) ∧ (∀ k n, va ≠ .float k n) ∧ (∀ k n m, va ≠ .complex k n m) ∧ (∀ s, va ≠ .string s) := by
  unfold nilSide at h
  split at h
  · have := ha.vi; subst this; exact ⟨fun _ _ => by simp, fun _ _ => by simp, fun _ _ _ => by simp, fun _ => by simp⟩
  · have := ha.vi; subst this; exact ⟨fun _ _ => by simp, fun _ _ => by simp, fun _ _ _ => by simp, fun _ => by simp⟩
  · have := ha.vi; subst this; exact ⟨fun _ _ => by simp, fun _ _ => by simp, fun _ _ _ => by simp, fun _ => by simp⟩
  · have := ha.vi; subst this; exact ⟨fun _ _ => by simp, fun _ _ => by simp, fun _ _ _ => by simp, fun _ => by simp⟩
  · cases h
theorem binOp_eql {T : TypeId} {va vc : Value} {w : World} {r : Bool} (h1 : ∀ k n, va ≠ .int k n) (h2 : ∀ k n, va ≠ .float k n) (h3 : ∀ k n m, va ≠ .complex k n m) (h4 : ∀ s, va ≠ .string s) (h : (Op.equal T va vc).run Pg w = .ok r w) :
    (binOp .eql T va vc).run Pg w = .ok (.bool r) w ∧ (binOp .neq T va vc).run Pg w = .ok (.bool (!r)) w := by
  cases va <;> first | exact absurd rfl (h1 _ _) | exact absurd rfl (h2 _ _) | exact absurd rfl (h3 _ _ _) | exact absurd rfl (h4 _) | exact ⟨by simp [binOp, Sem.run_bind, h, Result.andThen], by simp [binOp, Sem.run_bind, h, Result.andThen]⟩
theorem eBinN_ok {op : BinOp} {T : Nat} {x y : Operand} {U : TypeId} {a c : V} (hx : evG f.fv x = some a) (hy : evG f.fv y = some c) (h : eBinN Pg kp op T a c = .ok b) : Out Pg (.binOp op T x y U) ty f.fv H kp k b := by
  obtain ⟨u, h1, h2⟩ := ty_ok h
  obtain ⟨h3, h4⟩ := ck_ok h2
  have key : ∀ (g : Gh) (w : World) (H : List Ob) (va vc : Value), RV g w H a va → RV g w H c vc → ∀ op, (op = .eql ∨ op = .neq) → (eqGuard op T x y va vc).run Pg w = .ok () w ∧ (binOp .eql T va vc).run Pg w = .ok (.bool false) w ∧ (binOp .neq T va vc).run Pg w = .ok (.bool true) w := fun g w H va vc ha hc op hop => by
    rcases Bool.or_eq_true_iff.1 h3 with h3 | h3
    · obtain ⟨e1, e2, _⟩ := nilSide_rv (semP_run h1) h3 ha hc x y
      have hn := nilSide_no h3 ha
      obtain ⟨e3, e4⟩ := binOp_eql hn.1 hn.2.1 hn.2.2.1 hn.2.2.2 e2
      exact ⟨(e1 op hop).1, e3, e4⟩
    · obtain ⟨e1, _, e2⟩ := nilSide_rv (semP_run h1) h3 hc ha y x
      have hn := nilSide_no' h3 ha
      obtain ⟨e3, e4⟩ := binOp_eql hn.1 hn.2.1 hn.2.2.1 hn.2.2.2 e2
      exact ⟨(e1 op hop).2, e3, e4⟩
  split at h4
  · exact .p (.pure fun g w H e o ho _ _ hf => ⟨.bool false, by
      obtain ⟨e1, e2, _⟩ := key g w H _ _ (hf x (by simp [Op.operands]) _ hx) (hf y (by simp [Op.operands]) _ hy) .eql (.inl rfl)
      unfold execOp; rw [ho]; simp only [Sem.run_bind, e1, e2, Result.andThen, Sem.run_pure], .v _⟩) h4
  · exact .p (.pure fun g w H e o ho _ _ hf => ⟨.bool true, by
      obtain ⟨e1, _, e2⟩ := key g w H _ _ (hf x (by simp [Op.operands]) _ hx) (hf y (by simp [Op.operands]) _ hy) .neq (.inr rfl)
      unfold execOp; rw [ho]; simp only [Sem.run_bind, e1, e2, Result.andThen, Sem.run_pure], .v _⟩) h4
  · cases h4
theorem eBinV_ok {op : BinOp} {T : Nat} {x y : Operand} {U : TypeId} {a c : V} (hx : evG f.fv x = some a) (hy : evG f.fv y = some c) (h : eBinV Pg kp op T x y a c = .ok b) : Out Pg (.binOp op T x y U) ty f.fv H kp k b := by
  cases ha : a.val with
  | none =>
    have h' : Option.rec (motive := fun _ => M β) (eBinN Pg kp op T a c) _ a.val = .ok b := h
    rw [ha] at h'; exact eBinN_ok hx hy h'
  | some va =>
    have h' : Option.rec (motive := fun _ => M β) (eBinN Pg kp op T a c) (fun va => Option.rec (motive := fun _ => M β) (eBinN Pg kp op T a c) _ c.val) a.val = .ok b := h
    rw [ha] at h'
    cases hc : c.val with
    | none => simp only [hc] at h'; exact eBinN_ok hx hy h'
    | some vc =>
      simp only [hc] at h'
      obtain ⟨r, h1, h2⟩ := ob_ok h'
      have hit : It Pg (.binOp op T x y U) ty (evG f.fv) [] [] (V.ofV r) := .val2 hx hy ha hc rfl fun e o w ho _ e1 e2 => by
        unfold execOp; rw [ho]; simp only [e1, e2, Sem.run_bind]
        have := semP_run h1 w
        simp only [Sem.run_bind] at this
        rw [this]; rfl
      split at h2
      · exact .p hit h2
      · exact .p hit h2
      · obtain ⟨h3, h4⟩ := ck_ok h2
        rw [ofV_one h3] at hit
        exact .p hit h4
theorem eBin_ok {op : BinOp} {T : Nat} {x y : Operand} {U : TypeId} (h : eBin Pg f kp op T x y U = .ok b) : Out Pg (.binOp op T x y U) ty f.fv H kp k b := by
  obtain ⟨a, h1, h2⟩ := ev_ok h
  obtain ⟨c, h3, h4⟩ := ev_ok h2
  split at h4
  · rcases bb_ok h4 with ⟨e, h5⟩ | ⟨_, h5⟩
    · have := ikEq_eq e; subst this
      unfold eBinI at h5
      split at h5
      · rw [kI_eq] at h5; exact .p (i_addW h1 h3) h5
      · rw [kI_eq] at h5; exact .p (i_subW h1 h3) h5
      · rw [kI_eq] at h5; exact .p (i_mulW h1 h3) h5
      · rw [kB_eq, iEq_eq] at h5; exact .p (i_eql h1 h3) h5
      · rw [kB_eq, iEq_eq] at h5; exact .p (i_neq h1 h3) h5
      · rw [kB_eq, iLt_eq] at h5; exact .p (i_lss h1 h3) h5
      · rw [kB_eq, iLe_eq] at h5; exact .p (i_leq h1 h3) h5
      · rw [kB_eq, iLt_eq] at h5; exact .p (i_gtr h1 h3) h5
      · rw [kB_eq, iLe_eq] at h5; exact .p (i_geq h1 h3) h5
      · exact eBinV_ok h1 h3 h5
    · exact eBinV_ok h1 h3 h5
  · split at h4
    · rw [kB_eq, sEq_eq] at h4
      exact .p (i_eqS h1 h3) h4
    · rw [kB_eq, sEq_eq] at h4
      exact .p (i_neS h1 h3) h4
    · exact eBinV_ok h1 h3 h4
  · exact eBinV_ok h1 h3 h4
theorem eLoadEl_ok {T : Nat} {x : Operand} {cs : List P} (hx : evG f.fv x = some (.el cs)) (h : eLoadEl Pg kp T cs = .ok b) : Out Pg (.load T x) ty f.fv H kp k b := by
  obtain ⟨ag, h1, h2⟩ := ty_ok h
  rcases bb_ok h2 with ⟨rfl, h3⟩ | ⟨rfl, h3⟩
  · obtain ⟨n, h4, h5⟩ := ty_ok h3
    obtain ⟨h6, h7⟩ := ck_ok h5
    rw [mapL_eq, takeL_eq] at h7; rw [lenL_eq] at h6
    exact .p (i_loadEA (semP_run h1) (semP_run h4) hx h6) h7
  · split at h3
    · exact .p (i_loadE (semP_run h1) hx rfl) h3
    · cases h3
theorem eLoadRef_it {T i off : Nat} {k : K β} (h : eLoadRef Pg H k T i off = .ok b) : ∃ o d, H[i]? = some o ∧ k d 0 [(i, o)] [] = .ok b ∧ ∀ (ρ : Operand → Option V) (x : Operand) (ty : TypeId), ρ x = some (.ref i off) → It Pg (.load T x) ty ρ [(i, o)] [] d := by
  obtain ⟨o, h1, h2⟩ := nth_ok h
  split at h2
  · obtain ⟨ag, h3, h4⟩ := ty_ok h2
    rcases bb_ok h4 with ⟨rfl, h5⟩ | ⟨rfl, h5⟩
    · obtain ⟨n, h6, h7⟩ := ty_ok h5
      obtain ⟨h8, h9⟩ := ck_ok h7
      rw [takeL_eq, dropL_eq] at h9; rw [lenL_eq] at h8
      exact ⟨_, _, h1, h9, fun ρ x ty hx => i_loadRA (semP_run h3) (semP_run h6) hx h8⟩
    · obtain ⟨d, h6, h7⟩ := nth_ok h5
      exact ⟨_, _, h1, h7, fun ρ x ty hx => i_loadR (semP_run h3) hx h6⟩
  · cases h2
theorem eLoad_ok {T : Nat} {x : Operand} (h : eLoad Pg f H kp k T x = .ok b) : Out Pg (.load T x) ty f.fv H kp k b := by
  obtain ⟨a, h1, h2⟩ := ev_ok h
  split at h2
  · exact eLoadEl_ok h1 h2
  · obtain ⟨o, d, h3, h4, h5⟩ := eLoadRef_it h2
    exact .r (h5 _ _ _ h1) h3 h4
  · cases h2
theorem eStore_ok {T : Nat} {x y : Operand} (h : eStore Pg f H k T x y = .ok b) : Out Pg (.store T x y) ty f.fv H kp k b := by
  obtain ⟨a, h1, h2⟩ := ev_ok h
  obtain ⟨d, h3, h4⟩ := ev_ok h2
  split at h4
  · obtain ⟨o, h5, h6⟩ := nth_ok h4
    split at h6
    · obtain ⟨n, h7, h8⟩ := ty_ok h6
      obtain ⟨h9, h10⟩ := ck_ok h8
      simp only [Bool.and_eq_true, lenL_eq, onesV_eq] at h9
      exact .w (i_store (semP_run h7) h1 h3 h9.2 (Nat.eq_of_beq_eq_true h9.1.1) h9.1.2) h5 h10
    · cases h6
  · cases h4
theorem eNilCheck_ok {x : Operand} (h : eNilCheck f kp x = .ok b) : Out Pg (.nilCheck x) ty f.fv H kp k b := by
  obtain ⟨a, h1, h2⟩ := ev_ok h
  split at h2
  · exact .p (i_nilCheck h1) h2
  · refine .p (.pure fun g w H e o ho _ _ hf => ?_) h2
    have e1 := hf x (by simp [Op.operands]) _ h1
    generalize he : e x = v at e1
    refine ⟨v, ?_, e1⟩
    cases e1 with | el _ _ _ _ _ => unfold execOp; rw [ho]; simp only [he]; rfl
  · refine .p (.pure fun g w H e o ho _ _ hf => ?_) h2
    have e1 := hf x (by simp [Op.operands]) _ h1
    generalize he : e x = v at e1
    refine ⟨v, ?_, e1⟩
    cases e1 with | fn _ _ => unfold execOp; rw [ho]; simp only [he]; rfl
  · refine .p (.pure fun g w H e o ho _ _ hf => ?_) h2
    have e1 := hf x (by simp [Op.operands]) _ h1
    have e2 := e1.vi
    exact ⟨_, by unfold execOp; rw [ho]; simp only [e2]; rfl, .v _⟩
  · cases h2
end
end Go.Dp
namespace Go.Dp
open Go Go.Mi Go.RowKit
section
variable {Pg : Program} {ty : TypeId} {ρ : Operand → Option V}
theorem bnds_any {sl : Bool} {lo hi mx : Option Operand} {ev : Operand → Value} {n cap l h q : Nat} (hl : ∀ y, lo = some y → ∃ K, ev y = .int K l) (hl0 : lo = none → l = 0) (hh : ∀ y, hi = some y → ∃ K, ev y = .int K h) (hh0 : hi = none → h = n ∧ mx = none) (hm : ∀ y, mx = some y → ∃ K, ev y = .int K q) (hm0 : mx = none → q = cap)
    (h1 : l ≤ h) (h2 : h ≤ q) (h3 : q ≤ cap) (w : World) : (Instr.sliceBounds sl n cap (lo.map ev) (hi.map ev) (mx.map ev)).run Pg w = .ok (l, h, q) w := by
  unfold Instr.sliceBounds
  cases mx with
  | none =>
    have := hm0 rfl; subst this
    cases hi with
    | none =>
      obtain ⟨rfl, _⟩ := hh0 rfl
      cases lo with
      | none => have := hl0 rfl; subst this; simp [Sem.run_bind, Result.andThen]
      | some x => obtain ⟨K, hK⟩ := hl x rfl; simp [hK, Instr.sliceBound, asIntOf, Sem.run_bind, Result.andThen, h1]
    | some y =>
      obtain ⟨K, hK⟩ := hh y rfl
      cases lo with
      | none => have := hl0 rfl; subst this; simp [hK, Instr.sliceBound, asIntOf, Sem.run_bind, Result.andThen, h2]
      | some x => obtain ⟨K', hK'⟩ := hl x rfl; simp [hK, hK', Instr.sliceBound, asIntOf, Sem.run_bind, Result.andThen, h1, h2]
  | some z =>
    obtain ⟨J, hJ⟩ := hm z rfl
    cases hi with
    | none => exact absurd (hh0 rfl).2 (by simp)
    | some y =>
      obtain ⟨K, hK⟩ := hh y rfl
      cases lo with
      | none => have := hl0 rfl; subst this; simp [hJ, hK, Instr.sliceBound, asIntOf, Sem.run_bind, Result.andThen, h2, h3]
      | some x => obtain ⟨K', hK'⟩ := hl x rfl; simp [hJ, hK, hK', Instr.sliceBound, asIntOf, Sem.run_bind, Result.andThen, h1, h2, h3]
/-- the bounds of a part, as numbers from 0 on -/
structure Bd (ρ : Operand → Option V) (lo hi mx : Option Operand) (n cap : Nat) (l h q : Int) : Prop where
  hl : ∀ y, lo = some y → ∃ K, ρ y = some (.p (.v (.int K l)))
  hl0 : lo = none → l = 0
  hh : ∀ y, hi = some y → ∃ K, ρ y = some (.p (.v (.int K h)))
  hh0 : hi = none → h = n ∧ mx = none
  hm : ∀ y, mx = some y → ∃ K, ρ y = some (.p (.v (.int K q)))
  hm0 : mx = none → q = cap
  h0 : 0 ≤ l
  h1 : l ≤ h
  h2 : h ≤ q
  h3 : q ≤ cap
theorem Bd.run {sl : Bool} {lo hi mx : Option Operand} {n cap : Nat} {l h q : Int} (b : Bd ρ lo hi mx n cap l h q) {g : Gh} {w : World} {H : List Ob} {ev : Operand → Value} {T : TypeId} {x : Operand} (hf : ∀ y ∈ (Op.slice T x lo hi mx).operands, ∀ u, ρ y = some u → RV g w H u (ev y)) (w' : World) :
    (Instr.sliceBounds sl n cap (lo.map ev) (hi.map ev) (mx.map ev)).run Pg w' = .ok (l.toNat, h.toNat, q.toNat) w' := by
  have t0 := b.h0; have t1 := b.h1; have t2 := b.h2; have t3 := b.h3
  refine bnds_any (fun y hy => ?_) (fun e => by have := b.hl0 e; omega) (fun y hy => ?_) (fun e => ⟨by have := (b.hh0 e).1; omega, (b.hh0 e).2⟩) (fun y hy => ?_) (fun e => by have := b.hm0 e; omega) (by omega) (by omega) (by omega) w'
  · obtain ⟨K, hK⟩ := b.hl y hy; exact ⟨K, by rw [(hf y (by simp [Op.operands, hy]) _ hK).vi]; congr 1; omega⟩
  · obtain ⟨K, hK⟩ := b.hh y hy; exact ⟨K, by rw [(hf y (by simp [Op.operands, hy]) _ hK).vi]; congr 1; omega⟩
  · obtain ⟨K, hK⟩ := b.hm y hy; exact ⟨K, by rw [(hf y (by simp [Op.operands, hy]) _ hK).vi]; congr 1; omega⟩
theorem i_slF {T E k n : Nat} {x : Operand} {lo hi mx : Option Operand} {d : V} {cs : List P} {l h : Int} (hT : ∀ w, (underlying T).run Pg w = .ok (.slice E) w) (hE : ∀ w, (sizeOf E).run Pg w = .ok k w) (hx : ρ x = some d) (hd : d.slc = some (k, n, cs))
    (hb : ∀ cap : Nat, n ≤ cap → ∃ q : Int, Bd ρ lo hi mx n cap l h q) (h3 : h ≤ n) : It Pg (.slice T x lo hi mx) ty ρ [] [] (.p (.sl k (h.toNat - l.toNat) ((cs.drop (l.toNat * k)).take ((h.toNat - l.toNat) * k)))) := .pure fun g w H ev o ho _ _ hf => by
  have e1 := (hf x (by simp [Op.operands]) _ hx).slc hd
  obtain ⟨_, b0⟩ := hb n (Nat.le_refl _)
  have t0 := b0.h0; have t1 := b0.h1
  have key : ∀ cap : Nat, n ≤ cap → ∃ m : Nat, h.toNat ≤ m ∧ m ≤ cap ∧ ∀ w, (Instr.sliceBounds true n cap (lo.map ev) (hi.map ev) (mx.map ev)).run Pg w = .ok (l.toNat, h.toNat, m) w := fun cap hc => by
    obtain ⟨q, b⟩ := hb cap hc
    exact ⟨q.toNat, by have := b.h2; omega, by have := b.h3; omega, fun w' => b.run hf w'⟩
  rcases e1.row with ⟨he, hn, hcs⟩ | ⟨b, of, cap, us, he, hc, hEb, hbb, hlen, hrp, hu⟩
  · obtain ⟨m, m1, m2, m3⟩ := key 0 (by omega)
    have l0 : l.toNat = 0 := by omega
    have h0 : h.toNat = 0 := by omega
    have m0 : m = 0 := by omega
    refine ⟨.slice none 0 0, ?_, ?_⟩
    · unfold execOp; rw [ho]
      subst hn
      simp only [l0, h0, m0] at m3
      simp [he, Instr.sliceAt, Instr.slice, hT, hE, m3, Sem.run_bind, Result.andThen]
    · subst hcs
      rw [l0, h0]; simp only [List.drop_nil, List.take_nil, Nat.sub_self]
      exact .p .nil
  · obtain ⟨m, m1, m2, m3⟩ := key cap hc
    refine ⟨.slice (some (if m = l.toNat then ⟨b, of, none⟩ else (Addr.mk b of none).add (l.toNat * k))) (h.toNat - l.toNat) (m - l.toNat), ?_, ?_⟩
    · unfold execOp; rw [ho]
      have hmap : (if m = l.toNat then some (Addr.mk b of none) else (some (Addr.mk b of none)).map (·.add (l.toNat * k))) = some (if m = l.toNat then ⟨b, of, none⟩ else (Addr.mk b of none).add (l.toNat * k)) := by split <;> rfl
      simp only [he, Instr.sliceAt, Instr.slice, hT, hE, m3, Sem.run_bind, Result.andThen, Sem.run_pure, hmap]
    · have hle : h.toNat ≤ n := by omega
      have hbase : ∃ of', (if m = l.toNat then (Addr.mk b of none) else (Addr.mk b of none).add (l.toNat * k)) = ⟨b, of', none⟩ ∧ (h.toNat = l.toNat ∧ of' = of ∨ of' = of + l.toNat * k) := by
        split
        · exact ⟨of, rfl, .inl ⟨by omega, rfl⟩⟩
        · exact ⟨of + l.toNat * k, by rw [addr_add], .inr rfl⟩
      obtain ⟨of', ho', hor⟩ := hbase
      rw [ho']
      have hmul : h.toNat * k ≤ n * k := Nat.mul_le_mul_right k hle
      have hmul2 : l.toNat * k + (h.toNat - l.toNat) * k = h.toNat * k := by rw [← Nat.add_mul]; congr 1; omega
      refine .p ?_
      have h7 := hrp.1
      refine RPs.sl (us := (us.drop (l.toNat * k)).take ((h.toNat - l.toNat) * k)) ((hrp.drop _).take _) (by rw [List.length_take, List.length_drop]; omega) (by omega) ?_ hbb fun j u hj => ?_
      · rcases hor with ⟨hz, ho2⟩ | ho2
        · rw [ho2, hz, Nat.sub_self, Nat.zero_mul]; omega
        · rw [ho2]; omega
      · rcases hor with ⟨hz, ho2⟩ | ho2
        · rw [hz, Nat.sub_self, Nat.zero_mul, List.take_zero] at hj; cases hj
        · rw [List.getElem?_take] at hj
          split at hj
          · rw [List.getElem?_drop] at hj
            rw [ho2, Nat.add_assoc]; exact hu _ _ hj
          · cases hj
theorem i_slZ {T E k n : Nat} {x : Operand} {lo hi mx : Option Operand} {d : V} {cs : List P} {l : Int} (hT : ∀ w, (underlying T).run Pg w = .ok (.slice E) w) (hE : ∀ w, (sizeOf E).run Pg w = .ok k w) (hx : ρ x = some d) (hd : d.slc = some (k, n, cs)) (hn : 0 < n)
    (hb : ∀ cap : Nat, n ≤ cap → Bd ρ lo hi mx n cap l l l) : It Pg (.slice T x lo hi mx) ty ρ [] [] .z := .pure fun g w H ev o ho _ _ hf => by
  have e1 := (hf x (by simp [Op.operands]) _ hx).slc hd
  rcases e1.row with ⟨he, hn0, hcs⟩ | ⟨b, of, cap, us, he, hc, hEb, hbb, hlen, hrp, hu⟩
  · omega
  · have m3 := (hb cap hc).run (Pg := Pg) hf (sl := true) (T := T) (x := x) w
    refine ⟨.slice (some (if l.toNat = l.toNat then ⟨b, of, none⟩ else (Addr.mk b of none).add (l.toNat * k))) (l.toNat - l.toNat) (l.toNat - l.toNat), ?_, ?_⟩
    · unfold execOp; rw [ho]
      simp [he, Instr.sliceAt, Instr.slice, hT, hE, m3, Sem.run_bind, Result.andThen]
    · rw [Nat.sub_self]; exact .z
theorem i_slNil {T E k : Nat} {x : Operand} {lo hi mx : Option Operand} {l h q : Int} (hT : ∀ w, (underlying T).run Pg w = .ok (.slice E) w) (hE : ∀ w, (sizeOf E).run Pg w = .ok k w) (hx : ρ x = some (.p (.v (.slice none 0 0)))) (hb : Bd ρ lo hi mx 0 0 l h q) :
    It Pg (.slice T x lo hi mx) ty ρ [] [] (.p (.v (.slice none 0 0))) := .pure fun g w H ev o ho _ _ hf => by
  have e1 := (hf x (by simp [Op.operands]) _ hx).vi
  have t0 := hb.h0; have t1 := hb.h1; have t2 := hb.h2; have t3 := hb.h3
  have hr := fun w' => hb.run (Pg := Pg) (sl := true) hf w'
  rw [show l.toNat = 0 by omega, show h.toNat = 0 by omega, show q.toNat = 0 by omega] at hr
  exact ⟨_, by unfold execOp; rw [ho]; simp [e1, Instr.sliceAt, Instr.slice, hT, hE, hr, Sem.run_bind, Result.andThen], .v _⟩
theorem arr_at {g : Gh} {w : World} {H : List Ob} {i off n c : Nat} {l h q : Int} {k : Nat} (hl : live H i) (h1 : 0 ≤ l) (h2 : l ≤ q) : RV g w H (.arr i (cond (iEq q l) off (off + l.toNat * k)) (h.toNat - l.toNat) (q.toNat - l.toNat)) (.slice (some (if q.toNat = l.toNat then ⟨g.β i, off, none⟩ else (Addr.mk (g.β i) off none).add (l.toNat * k))) (h.toNat - l.toNat) (q.toNat - l.toNat)) := by
  have e : (if q.toNat = l.toNat then (Addr.mk (g.β i) off none) else (Addr.mk (g.β i) off none).add (l.toNat * k)) = ⟨g.β i, cond (iEq q l) off (off + l.toNat * k), none⟩ := by
    rw [iEq_eq]
    by_cases e : q = l
    · rw [e]; simp
    · have : ¬ q.toNat = l.toNat := by omega
      rw [if_neg this, addr_add]; simp [e]
  rw [e]; exact .arr hl
theorem i_slA {T E k i off n c : Nat} {x : Operand} {lo hi mx : Option Operand} {l h q : Int} (hT : ∀ w, (underlying T).run Pg w = .ok (.slice E) w) (hE : ∀ w, (sizeOf E).run Pg w = .ok k w) (hx : ρ x = some (.arr i off n c)) (hb : Bd ρ lo hi mx n c l h q) :
    It Pg (.slice T x lo hi mx) ty ρ [] [] (.arr i (cond (iEq q l) off (off + l.toNat * k)) (h.toNat - l.toNat) (q.toNat - l.toNat)) := .pure fun g w H ev o ho _ _ hf => by
  have e1 := hf x (by simp [Op.operands]) _ hx
  have t0 := hb.h0; have t1 := hb.h1; have t2 := hb.h2; have t3 := hb.h3
  have hr := fun w' => hb.run (Pg := Pg) (sl := true) hf w'
  generalize he : ev x = v at e1
  cases e1 with
  | arr hl =>
    refine ⟨_, ?_, arr_at (n := n) (c := c) hl t0 (by omega)⟩
    have hmap : (if q.toNat = l.toNat then some (Addr.mk (g.β i) off none) else (some (Addr.mk (g.β i) off none)).map (·.add (l.toNat * k))) = some (if q.toNat = l.toNat then ⟨g.β i, off, none⟩ else (Addr.mk (g.β i) off none).add (l.toNat * k)) := by split <;> rfl
    unfold execOp; rw [ho]
    simp only [he, Instr.sliceAt, Instr.slice, hT, hE, hr, Sem.run_bind, Result.andThen, Sem.run_pure, hmap]
theorem i_slR {T E k i off n : Nat} {x : Operand} {lo hi mx : Option Operand} {l h q : Int} (hT : ∀ w, (underlying T).run Pg w = .ok (.array n E) w) (hE : ∀ w, (sizeOf E).run Pg w = .ok k w) (hx : ρ x = some (.ref i off)) (hb : Bd ρ lo hi mx n n l h q) :
    It Pg (.slice T x lo hi mx) ty ρ [] [] (.arr i (cond (iEq q l) off (off + l.toNat * k)) (h.toNat - l.toNat) (q.toNat - l.toNat)) := .pure fun g w H ev o ho _ _ hf => by
  have e1 := hf x (by simp [Op.operands]) _ hx
  have t0 := hb.h0; have t1 := hb.h1; have t2 := hb.h2; have t3 := hb.h3
  have hr := fun w' => hb.run (Pg := Pg) (sl := false) hf w'
  generalize he : ev x = v at e1
  cases e1 with
  | ref hl =>
    refine ⟨_, ?_, arr_at (n := n) (c := n) hl t0 (by omega)⟩
    unfold execOp; rw [ho]
    simp only [he, Instr.sliceAt, Instr.sureAddr, hT, hE, hr, Sem.run_bind, Result.andThen, Sem.run_pure]
theorem i_ixArr {T E i off n cap k : Nat} {x y : Operand} {K : IntKind} {j : Int} (hT : ∀ w, (underlying T).run Pg w = .ok (.slice E) w) (hE : ∀ w, (sizeOf E).run Pg w = .ok k w) (hx : ρ x = some (.arr i off n cap)) (hy : ρ y = some (.p (.v (.int K j)))) (h0 : 0 ≤ j) (h1 : j < n) : It Pg (.indexAddr T x y) ty ρ [] [] (.ref i (off + j.toNat * k)) := .pure fun g w H e q hq _ _ h => by
  have e1 := h x (by simp [Op.operands]) _ hx
  have e2 := (h y (by simp [Op.operands]) _ hy).vi
  generalize he : e x = v at e1
  cases e1 with
  | arr hl =>
    refine ⟨.pointer (some ⟨g.β i, off + j.toNat * k, none⟩), ?_, .ref hl⟩
    unfold execOp; rw [hq]
    have e3 : (0 ≤ j ∧ j < (n : Int)) := ⟨h0, h1⟩
    simp [he, e2, Instr.indexAt, asIntOf, hT, hE, Sem.run_bind, Result.andThen, e3, addr_add]
theorem i_ixRef {T E i off n k : Nat} {x y : Operand} {K : IntKind} {j : Int} (hT : ∀ w, (underlying T).run Pg w = .ok (.array n E) w) (hE : ∀ w, (sizeOf E).run Pg w = .ok k w) (hx : ρ x = some (.ref i off)) (hy : ρ y = some (.p (.v (.int K j)))) (h0 : 0 ≤ j) (h1 : j < n) : It Pg (.indexAddr T x y) ty ρ [] [] (.ref i (off + j.toNat * k)) := .pure fun g w H e q hq _ _ h => by
  have e1 := h x (by simp [Op.operands]) _ hx
  have e2 := (h y (by simp [Op.operands]) _ hy).vi
  generalize he : e x = v at e1
  cases e1 with
  | ref hl =>
    refine ⟨.pointer (some ⟨g.β i, off + j.toNat * k, none⟩), ?_, .ref hl⟩
    unfold execOp; rw [hq]
    have e3 : (0 ≤ j ∧ j < (n : Int)) := ⟨h0, h1⟩
    simp [he, e2, Instr.indexAt, Instr.sureAddr, asIntOf, hT, hE, Sem.run_bind, Result.andThen, e3, addr_add]
theorem i_ixEl {T E n k : Nat} {x y : Operand} {K : IntKind} {j : Int} {cs : List P} (hT : ∀ w, (underlying T).run Pg w = .ok (.array n E) w) (hE : ∀ w, (sizeOf E).run Pg w = .ok k w) (hx : ρ x = some (.el cs)) (hy : ρ y = some (.p (.v (.int K j)))) (h0 : 0 ≤ j) (h1 : j < n) (hl : cs.length = n * k) : It Pg (.indexAddr T x y) ty ρ [] [] (.el ((cs.drop (j.toNat * k)).take k)) := .pure fun g w H e q hq _ _ h => by
  have e1 := h x (by simp [Op.operands]) _ hx
  have e2 := (h y (by simp [Op.operands]) _ hy).vi
  obtain ⟨b, o, us, he, hEb, hb, hrp, hu⟩ := el_get e1
  have hjn : j.toNat < n := by omega
  have hmul : j.toNat * k + k ≤ n * k := by have := Nat.mul_le_mul_right k (show j.toNat + 1 ≤ n by omega); rw [Nat.add_mul] at this; omega
  refine ⟨.pointer (some ⟨b, o + j.toNat * k, none⟩), ?_, ?_⟩
  · unfold execOp; rw [hq]
    have e3 : (0 ≤ j ∧ j < (n : Int)) := ⟨h0, h1⟩
    simp [he, e2, Instr.indexAt, Instr.sureAddr, asIntOf, hT, hE, Sem.run_bind, Result.andThen, e3, addr_add]
  · refine el_mk ((hrp.drop (j.toNat * k)).take k) (by simp; omega) hb fun i u hi => ?_
    rw [List.getElem?_take] at hi
    split at hi
    · rw [List.getElem?_drop] at hi
      rw [Nat.add_assoc]; exact hu _ _ hi
    · cases hi
end
end Go.Dp
