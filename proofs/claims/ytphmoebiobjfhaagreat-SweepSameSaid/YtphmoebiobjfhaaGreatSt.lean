/- The state of package sweep in memory. Any seat (StTy: its type numbers). -/
import Derived.Test.YtphmoebiobjfhaaGreatMe
set_option linter.all false
namespace Go.Mi
open Go Go.RowKit
structure StTy where
 c : Nat
 o : Nat
 r : Nat
 b : Nat
 s : Nat
/-- the blocks of a state -/
def ids (bs rM : Nat) (vC vO vR vU vT : Value) : List (Option Nat) := [some bs, some rM, vC.ownBlock, vO.ownBlock, vR.ownBlock, vU.ownBlock, vT.ownBlock]
structure St (Y : StTy) (lo : Nat) (w : World) (bs rM : Nat) (vC vO vR vU vT : Value) (C : Co) (us tr : List Bool) (kv : List (Ot × Int)) : Prop where
 blk : Blk w bs [vC, vO, vR, vU, vT, .map (some rM)] Y.s
 oC : OS w vC Y.c 3 encC C.ch lo
 oO : OS w vO Y.o 5 encO C.ops lo
 oR : OS w vR Y.r 1 encI C.roots lo
 oU : OS w vU Y.b 1 encB us lo
 oT : OS w vT Y.b 1 encB tr lo
 mp : Mp w rM valO valI kv
 lob : lo ≤ bs
 lom : lo ≤ rM
 dis : (ids bs rM vC vO vR vU vT).Pairwise fun a b => ∀ k, a = some k → b ≠ some k
section
variable {Y : StTy} {lo : Nat} {w w' : World} {bs rM : Nat} {vC vO vR vU vT : Value} {C : Co} {us tr : List Bool} {kv : List (Ot × Int)}
/-- a block of the state's own -/
def StB (bs rM : Nat) (vC vO vR vU vT : Value) (k : Nat) : Prop := some k ∈ ids bs rM vC vO vR vU vT
theorem St.lt (h : St Y lo w bs rM vC vO vR vU vT C us tr kv) {k : Nat} (hk : StB bs rM vC vO vR vU vT k) : lo ≤ k ∧ k < w.heap.size := by
 simp only [StB, ids, List.mem_cons, List.mem_nil_iff, or_false, Option.some.injEq] at hk
 rcases hk with rfl | rfl | hk | hk | hk | hk | hk
 ·exact ⟨h.lob, h.blk.lt⟩
 ·exact ⟨h.lom, h.mp.lt⟩
 ·exact h.oC.lt hk.symm
 ·exact h.oO.lt hk.symm
 ·exact h.oR.lt hk.symm
 ·exact h.oU.lt hk.symm
 ·exact h.oT.lt hk.symm
theorem St.chg {S : Nat → Prop} (h : St Y lo w bs rM vC vO vR vU vT C us tr kv) (hc : Chg S w w') (hn : ∀ k, StB bs rM vC vO vR vU vT k → ¬ S k) : St Y lo w' bs rM vC vO vR vU vT C us tr kv :=
 ⟨h.blk.chg hc (hn _ (by simp [StB, ids])), h.oC.chg hc (fun b e => hn b (by simp [StB, ids, e])), h.oO.chg hc (fun b e => hn b (by simp [StB, ids, e])), h.oR.chg hc (fun b e => hn b (by simp [StB, ids, e])),
  h.oU.chg hc (fun b e => hn b (by simp [StB, ids, e])), h.oT.chg hc (fun b e => hn b (by simp [StB, ids, e])), h.mp.chg hc (hn _ (by simp [StB, ids])), h.lob, h.lom, h.dis⟩
theorem St.below (h : St Y lo w bs rM vC vO vR vU vT C us tr kv) (hb : Below w.heap.size w w') : St Y lo w' bs rM vC vO vR vU vT C us tr kv :=
 h.chg (Chg.of_below (fun _ => False) hb) (fun _ _ h => h)
theorem sb_own {α : Type} {w : World} {v : Value} {k : Nat} {enc : α → List Value} {xs : List α} (h : SL w v k enc xs) (hn : 0 < xs.length) : v.ownBlock = some (sb v) := by
 rw [h.cons_shape hn]; rfl
end
/-! ### what look finds -/
def setB (us : List Bool) (i : Int) : List Bool := us.set i.toNat true
def usedOp (us : List Bool) (x : Ot) : List Bool := ((opndR x).take (arN x.code)).foldl setB us
def usedR (C : Co) : List Bool := C.roots.foldl setB (C.ops.foldl usedOp (List.replicate C.ops.length false))
def truthsR (l : List Ot) : List Bool := l.foldl (fun tr x => tr ++ [truthB tr x]) []
def firstR (l : List Ot) : List (Ot × Int) := l.zipIdx.foldl (fun kv p => if (mget kv p.1).isSome then kv else kv ++ [(p.1, (p.2 : Int))]) []
/-- a state as look leaves it -/
def StF (Y : StTy) (lo : Nat) (w : World) (bs rM : Nat) (vC vO vR vU vT : Value) (C : Co) : Prop := St Y lo w bs rM vC vO vR vU vT C (usedR C) (truthsR C.ops) (firstR C.ops)
/-! ### plain facts -/
theorem withinB_mem {a b : Int} {l : List Int} (h : withinB a b l = true) {n : Int} (hn : n ∈ l) : a ≤ n ∧ n ≤ b := by
 simp only [withinB, Bool.not_eq_true', List.any_eq_false, Bool.or_eq_true, decide_eq_true_eq, not_or, Int.not_lt] at h
 exact h n hn
theorem isOpB_spec {nch i : Nat} {x : Ot} (h : isOpB nch i x = true) : (1 ≤ x.code ∧ x.code ≤ 17 ∧ isNumB nch x = true) ∧ (∀ n ∈ (opndR x).take (arN x.code), 0 ≤ n ∧ n ≤ (i : Int) - 1) ∧ ∀ n ∈ (opndR x).drop (arN x.code), n = 0 := by
 unfold isOpB at h
 simp only [Bool.and_eq_true, Bool.not_eq_true', Bool.or_eq_false_iff, decide_eq_false_iff_not, Int.not_lt] at h
 obtain ⟨⟨⟨h1, h2⟩, h3⟩, h4, h5⟩ := h;refine ⟨⟨h1, h2, by simpa using h3⟩, fun n hn => withinB_mem h4 hn, fun n hn => ?_⟩;have := withinB_mem h5 hn; omega
theorem isOpB_bd {nch i n : Nat} {x : Ot} (h : isOpB nch i x = true) (hi : i < n) : Bd n x := by
 obtain ⟨⟨h1, h2, h3⟩, h4, h5⟩ := isOpB_spec h
 have hall : ∀ m ∈ opndR x, 0 ≤ m ∧ m < n := fun m hm => by
  rw [← List.take_append_drop (arN x.code) (opndR x), List.mem_append] at hm
  rcases hm with hm | hm
  ·have := h4 m hm; omega
  ·have := h5 m hm; omega
 have ha := hall x.a (by simp [opndR]); have hb := hall x.b (by simp [opndR]); have hc := hall x.c (by simp [opndR]);refine ⟨ha.1, ha.2, hb.1, hb.2, hc.1, hc.2, fun hf => ?_⟩;rw [isNumB, if_neg (by omega), if_pos hf, within1] at h3
 simpa using h3
theorem check_ok {C : Co} (h : checkR C = 0) : (C.ch.length ≤ 6 ∧ C.ops.length ≤ 3000 ∧ C.roots.length ≤ 3000) ∧ (∀ n ∈ C.roots, 0 ≤ n ∧ n < C.ops.length) ∧ ∀ (j : Nat) (x : Ot), C.ops[j]? = some x → isOpB C.ch.length j x = true := by
 unfold checkR at h
 split at h
 ·cases h
 ·split at h
  ·cases h
  ·split at h
   ·cases h
   ·split at h
    ·rename_i h1 h2 h3 h4
     refine ⟨by omega, fun n hn => ?_, opsB_iff.1 h4⟩;have := withinB_mem (by simpa using h3) hn; omega
    ·cases h
theorem check_wf {C : Co} (h : checkR C = 0) : ∀ j : Int, 0 ≤ j → j < C.ops.length → Bd C.ops.length (getO C.ops j) := fun j h0 h1 =>
 isOpB_bd ((check_ok h).2.2 j.toNat _ (getO_some h0 h1)) (by omega)
/-! ### the rules that apply -/
def rl (p : Int → Bool) (n : Nat) : List Int := ((List.range n).map fun (k : Nat) => (k : Int) + 1).filter p
theorem rl_succ (p : Int → Bool) (n : Nat) : rl p (n + 1) = rl p n ++ if p ((n : Int) + 1) then [(n : Int) + 1] else [] := by
 simp only [rl, List.range_succ, List.map_append, List.filter_append, List.map_cons, List.map_nil, List.filter_cons, List.filter_nil]
theorem rl_split (p : Int → Bool) {n : Nat} : ∀ (m : Nat), n < m → p ((n : Int) + 1) = true → ∃ post, rl p m = rl p n ++ ((n : Int) + 1) :: post
 | 0, h, _ => by omega
 | m + 1, h, hp => by
  rcases Nat.lt_or_ge n m with h' | h'
  ·obtain ⟨post, e⟩ := rl_split p m h' hp
   exact ⟨post ++ (if p ((m : Int) + 1) then [(m : Int) + 1] else []), by rw [rl_succ, e]; simp⟩
  ·obtain rfl : n = m := by omega
   exact ⟨[], by rw [rl_succ, if_pos hp]⟩
def rulesAt (ops : List Ot) (tr us : List Bool) (first : Ot → Option Int) (i : Int) : List Int := rl (fun r => (atR ops tr us first r i).ap) 11
/-! ### while look looks -/
/-- the blocks that look's facts speak of lie below top -/
structure Lk (Y : StTy) (w0 w : World) (top bs b1 rM TP : Nat) (vC vO vR vU vT : Value) (C : Co) (us tr : List Bool) (kv : List (Ot × Int)) (ms : List Nat) : Prop where
 ch : Chg (fun k => w0.heap.size ≤ k ∨ k = bs) w0 w
 blk : Blk w bs [vC, vO, vR, vU, vT, .map (some rM)] Y.s
 bx : Blk w b1 [.pointer (some ⟨bs, 0, none⟩)] TP
 sO : SL w vO 5 encO C.ops
 sR : SL w vR 1 encI C.roots
 oU : OS w vU Y.b 1 encB us w0.heap.size
 oT : OS w vT Y.b 1 encB tr w0.heap.size
 mp : Mp w rM valO valI kv
 mks : Marks w ms
 bs0 : bs < w0.heap.size
 b10 : w0.heap.size ≤ b1
 m0 : w0.heap.size ≤ rM
 ms0 : ∀ D ∈ ms, w0.heap.size ≤ D ∧ D < top
 b1t : b1 < top
 rMt : rM < top
 ut : ∀ b, vU.ownBlock = some b → b < top ∧ b ≠ b1
 tt : ∀ b, vT.ownBlock = some b → b < top ∧ b ≠ b1
 dis : ∀ b, vU.ownBlock = some b → vT.ownBlock ≠ some b
 nO : 0 < C.ops.length → sb vO < w0.heap.size ∧ sb vO ≠ bs
 nR : 0 < C.roots.length → sb vR < w0.heap.size ∧ sb vR ≠ bs
 top0 : w0.heap.size ≤ top
 topw : top ≤ w.heap.size
theorem OS.cells_of {α : Type} {w : World} {v : Value} {E k lo : Nat} {enc : α → List Value} {xs : List α} (h : OS w v E k enc xs lo) {b : Nat} (hb : v.ownBlock = some b) : ∃ cs T r, w.heap[b]? = some (.cells cs T r) := by
 rcases h.own.2 with ⟨e, _⟩ | ⟨g, cap, cur, e, _, hg, _⟩
 ·rw [e] at hb; cases hb
 ·rw [e] at hb; cases hb; exact ⟨_, _, _, hg⟩
theorem OS.ne_map {α K V : Type} [DecidableEq K] {w : World} {v : Value} {E k lo r : Nat} {enc : α → List Value} {xs : List α} {key : K → Value} {val : V → Value} {kv : List (K × V)} (h : OS w v E k enc xs lo) (hM : Mp w r key val kv) {b : Nat} (hb : v.ownBlock = some b) : r ≠ b := fun e => by
 subst e;obtain ⟨cs, T, q, h1⟩ := h.cells_of hb;obtain ⟨es, c, h2, _⟩ := hM;rw [h1] at h2; cases h2
theorem OS.ne_mark {α : Type} {w : World} {v : Value} {E k lo : Nat} {enc : α → List Value} {xs : List α} {ms : List Nat} (h : OS w v E k enc xs lo) (hM : Marks w ms) {b : Nat} (hb : v.ownBlock = some b) : ∀ D ∈ ms, D ≠ b := fun D hD e => by
 subst e;obtain ⟨cs, T, q, h1⟩ := h.cells_of hb;have := hM.obj D hD;rw [h1] at this; cases this
section
variable {Y : StTy} {w0 w w' : World} {top bs b1 rM TP : Nat} {vC vO vR vU vT : Value} {C : Co} {us tr : List Bool} {kv : List (Ot × Int)} {ms : List Nat}
theorem Lk.chg {S : Nat → Prop} (h : Lk Y w0 w top bs b1 rM TP vC vO vR vU vT C us tr kv ms) (hc : Chg S w w') (hn : ∀ k, k < top → ¬ S k) (hs : ∀ k, S k → w0.heap.size ≤ k ∨ k = bs) : Lk Y w0 w' top bs b1 rM TP vC vO vR vU vT C us tr kv ms := by
 have h0 := h.top0;have hbs := h.bs0
 refine ⟨h.ch.trans (hc.mono fun k _ hk => hs k hk), h.blk.chg hc (hn _ (by omega)), h.bx.chg hc (hn _ h.b1t), h.sO.chg hc (fun hp => hn _ (by have := (h.nO hp).1; omega)), h.sR.chg hc (fun hp => hn _ (by have := (h.nR hp).1; omega)),
  h.oU.chg hc (fun b e => hn _ (h.ut b e).1), h.oT.chg hc (fun b e => hn _ (h.tt b e).1), h.mp.chg hc (hn _ h.rMt), h.mks.chg hc (fun D hD => hn _ (h.ms0 D hD).2), h.bs0, h.b10, h.m0, h.ms0, h.b1t, h.rMt, h.ut, h.tt, h.dis, h.nO, h.nR, h.top0, Nat.le_trans h.topw hc.size⟩
theorem Lk.below (h : Lk Y w0 w top bs b1 rM TP vC vO vR vU vT C us tr kv ms) (hb : Below w.heap.size w w') : Lk Y w0 w' top bs b1 rM TP vC vO vR vU vT C us tr kv ms :=
 h.chg (S := fun _ => False) (Chg.of_below _ hb) (fun _ _ h => h) (fun _ h => h.elim)
/-- a new bound -/
theorem Lk.raise {top' : Nat} (h : Lk Y w0 w top bs b1 rM TP vC vO vR vU vT C us tr kv ms) (h1 : top ≤ top') (h2 : top' ≤ w.heap.size) : Lk Y w0 w top' bs b1 rM TP vC vO vR vU vT C us tr kv ms :=
 ⟨h.ch, h.blk, h.bx, h.sO, h.sR, h.oU, h.oT, h.mp, h.mks, h.bs0, h.b10, h.m0, fun D hD => ⟨(h.ms0 D hD).1, Nat.lt_of_lt_of_le (h.ms0 D hD).2 h1⟩, Nat.lt_of_lt_of_le h.b1t h1, Nat.lt_of_lt_of_le h.rMt h1, fun b e => ⟨Nat.lt_of_lt_of_le (h.ut b e).1 h1, (h.ut b e).2⟩, fun b e => ⟨Nat.lt_of_lt_of_le (h.tt b e).1 h1, (h.tt b e).2⟩, h.dis, h.nO, h.nR, Nat.le_trans h.top0 h1, h2⟩
theorem Lk.mark {D : Nat} (h : Lk Y w0 w top bs b1 rM TP vC vO vR vU vT C us tr kv ms) (hD : w.heap[D]? = some (.deferred (some []))) (hn : top ≤ D) : Lk Y w0 w w.heap.size bs b1 rM TP vC vO vR vU vT C us tr kv (D :: ms) := by
 have hlt := (Array.getElem?_eq_some_iff.1 hD).1;have h' := h.raise h.topw (Nat.le_refl _)
 exact { h' with
  mks := ⟨fun E hE => by rcases List.mem_cons.1 hE with rfl | hE; exact hD; exact h.mks.obj E hE, List.nodup_cons.2 ⟨fun hm => by have := (h.ms0 D hm).2; omega, h.mks.nodup⟩⟩
  ms0 := fun E hE => by rcases List.mem_cons.1 hE with rfl | hE; exact ⟨Nat.le_trans h.top0 hn, hlt⟩; exact h'.ms0 E hE }
/-- an element of used is stored -/
theorem Lk.setU {us' : List Bool} (h : Lk Y w0 w top bs b1 rM TP vC vO vR vU vT C us tr kv ms) (hc : Chg (fun b => vU.ownBlock = some b) w w') (ho : OS w' vU Y.b 1 encB us' w0.heap.size) : Lk Y w0 w' top bs b1 rM TP vC vO vR vU vT C us' tr kv ms := by
 have hlo : ∀ b, vU.ownBlock = some b → w0.heap.size ≤ b := fun b e => (h.oU.lt e).1
 have hbs := h.bs0
 exact ⟨h.ch.trans (hc.mono fun k _ hk => .inl (hlo k hk)), h.blk.chg hc (fun e => by have := hlo _ e; omega), h.bx.chg hc (fun e => (h.ut _ e).2 rfl), h.sO.chg hc (fun hp e => by have := hlo _ e; have := (h.nO hp).1; omega), h.sR.chg hc (fun hp e => by have := hlo _ e; have := (h.nR hp).1; omega),
  ho, h.oT.chg hc (fun b e e' => h.dis b e' e), h.mp.chg hc (fun e => h.oU.ne_map h.mp e rfl), h.mks.chg hc (fun D hD e => h.oU.ne_mark h.mks e D hD rfl), h.bs0, h.b10, h.m0, h.ms0, h.b1t, h.rMt, h.ut, h.tt, h.dis, h.nO, h.nR, h.top0, Nat.le_trans h.topw hc.size⟩
theorem Lk.setT {tr' : List Bool} (h : Lk Y w0 w top bs b1 rM TP vC vO vR vU vT C us tr kv ms) (hc : Chg (fun b => vT.ownBlock = some b) w w') (ho : OS w' vT Y.b 1 encB tr' w0.heap.size) : Lk Y w0 w' top bs b1 rM TP vC vO vR vU vT C us tr' kv ms := by
 have hlo : ∀ b, vT.ownBlock = some b → w0.heap.size ≤ b := fun b e => (h.oT.lt e).1
 have hbs := h.bs0
 exact ⟨h.ch.trans (hc.mono fun k _ hk => .inl (hlo k hk)), h.blk.chg hc (fun e => by have := hlo _ e; omega), h.bx.chg hc (fun e => (h.tt _ e).2 rfl), h.sO.chg hc (fun hp e => by have := hlo _ e; have := (h.nO hp).1; omega), h.sR.chg hc (fun hp e => by have := hlo _ e; have := (h.nR hp).1; omega),
  h.oU.chg hc (fun b e e' => h.dis b e e'), ho, h.mp.chg hc (fun e => h.oT.ne_map h.mp e rfl), h.mks.chg hc (fun D hD e => h.oT.ne_mark h.mks e D hD rfl), h.bs0, h.b10, h.m0, h.ms0, h.b1t, h.rMt, h.ut, h.tt, h.dis, h.nO, h.nR, h.top0, Nat.le_trans h.topw hc.size⟩
theorem Lk.put {kv' : List (Ot × Int)} (h : Lk Y w0 w top bs b1 rM TP vC vO vR vU vT C us tr kv ms) (hc : Chg (· = rM) w w') (hm : Mp w' rM valO valI kv') : Lk Y w0 w' top bs b1 rM TP vC vO vR vU vT C us tr kv' ms := by
 have hm0 := h.m0;have hbs := h.bs0
 exact ⟨h.ch.trans (hc.mono fun k _ hk => .inl (by subst hk; exact hm0)), h.blk.chg hc (fun e => h.mp.ne h.blk e.symm), h.bx.chg hc (fun e => h.mp.ne h.bx e.symm), h.sO.chg hc (fun hp e => by have := (h.nO hp).1; omega), h.sR.chg hc (fun hp e => by have := (h.nR hp).1; omega),
  h.oU.chg hc (fun b e e' => h.oU.ne_map h.mp e e'.symm), h.oT.chg hc (fun b e e' => h.oT.ne_map h.mp e e'.symm), hm, h.mks.chg hc (fun D hD e => by subst e; obtain ⟨es, c, h2, _⟩ := h.mp; have := h.mks.obj _ hD; rw [h2] at this; cases this), h.bs0, h.b10, h.m0, h.ms0, h.b1t, h.rMt, h.ut, h.tt, h.dis, h.nO, h.nR, h.top0, Nat.le_trans h.topw hc.size⟩
/-- a block of the caller's own that is none of these -/
theorem Lk.own {b : Nat} (h : Lk Y w0 w top bs b1 rM TP vC vO vR vU vT C us tr kv ms) (hc : Chg (· = b) w w') (hb : top ≤ b) : Lk Y w0 w' top bs b1 rM TP vC vO vR vU vT C us tr kv ms :=
 h.chg hc (fun k hk e => by omega) (fun k e => .inl (by have := h.top0; omega))
end
/-! ### what look has found so far -/
def usI (C : Co) (i : Nat) : List Bool := (C.ops.take i).foldl usedOp (List.replicate C.ops.length false)
def trI (C : Co) (i : Nat) : List Bool := truthsR (C.ops.take i) ++ List.replicate (C.ops.length - i) false
def kvI (C : Co) (i : Nat) : List (Ot × Int) := firstR (C.ops.take i)
def usedK (us : List Bool) (x : Ot) (pre : List Nat) : List Bool := pre.foldl (fun us k => setB us ((opndR x).getD k 0)) us
theorem setB_length (us : List Bool) (i : Int) : (setB us i).length = us.length := by simp [setB]
theorem foldl_setB_length {α : Type} (g : α → Int) (l : List α) : ∀ us : List Bool, (l.foldl (fun us a => setB us (g a)) us).length = us.length := by
 induction l with
 | nil => intro us; rfl
 | cons a l ih => intro us; rw [List.foldl_cons, ih, setB_length]
theorem usedOp_length (us : List Bool) (x : Ot) : (usedOp us x).length = us.length := foldl_setB_length id _ us
theorem usI_length (C : Co) (i : Nat) : (usI C i).length = C.ops.length := by
 unfold usI
 have : ∀ (l : List Ot) (us : List Bool), (l.foldl usedOp us).length = us.length := fun l => by
  induction l with
  | nil => intro us; rfl
  | cons a l ih => intro us; rw [List.foldl_cons, ih, usedOp_length]
 rw [this]; simp
theorem usedK_range (us : List Bool) (x : Ot) : usedK us x (List.range (arN x.code)) = usedOp us x := by
 have h := arN_le x.code
 have : (opndR x).take (arN x.code) = (List.range (arN x.code)).map fun k => (opndR x).getD k 0 := by
  apply List.ext_getElem?
  intro k;rw [List.getElem?_take, List.getElem?_map]
  by_cases hk : k < arN x.code
  ·have hk3 : k < (opndR x).length := by simp [opndR]; omega
   simp [hk, List.getElem?_range hk, List.getElem?_eq_getElem hk3, List.getD]
  ·simp [hk, List.getElem?_eq_none (show (List.range (arN x.code)).length ≤ k by simp; omega)]
 rw [usedOp, this, List.foldl_map]; rfl
theorem take_succ_get {α : Type} {l : List α} {i : Nat} {x : α} (h : l[i]? = some x) : l.take (i + 1) = l.take i ++ [x] := by
 rw [List.take_add_one, h]; rfl
theorem usI_succ {C : Co} {i : Nat} {x : Ot} (h : C.ops[i]? = some x) : usI C (i + 1) = usedOp (usI C i) x := by
 unfold usI; rw [take_succ_get h, List.foldl_append]; rfl
theorem truthsR_snoc (l : List Ot) (x : Ot) : truthsR (l ++ [x]) = truthsR l ++ [truthB (truthsR l) x] := by
 unfold truthsR; rw [List.foldl_append]; rfl
theorem truthsR_length (l : List Ot) : (truthsR l).length = l.length := by
 unfold truthsR
 have : ∀ (l : List Ot) (tr : List Bool), (l.foldl (fun tr x => tr ++ [truthB tr x]) tr).length = tr.length + l.length := fun l => by
  induction l with
  | nil => intro tr; rfl
  | cons a l ih => intro tr; rw [List.foldl_cons, ih]; simp; omega
 rw [this]; simp
theorem trI_length {C : Co} {i : Nat} (h : i ≤ C.ops.length) : (trI C i).length = C.ops.length := by
 unfold trI; rw [List.length_append, truthsR_length]; simp; omega
theorem getB_pad (l : List Bool) (m : Nat) (i : Int) : getB (l ++ List.replicate m false) i = getB l i := by
 unfold getB
 simp only [List.getD_eq_getElem?_getD, List.getElem?_append]
 split
 ·rfl
 ·rename_i h
  rw [List.getElem?_eq_none (Nat.le_of_not_lt h)]
  by_cases h' : i.toNat - l.length < m
  ·simp [h']
  ·rw [List.getElem?_eq_none (by simp; omega)]
theorem truthB_pad (l : List Bool) (m : Nat) (x : Ot) : truthB (l ++ List.replicate m false) x = truthB l x := by
 unfold truthB; simp only [getB_pad]
theorem trI_succ {C : Co} {i : Nat} {x : Ot} (h : C.ops[i]? = some x) : trI C (i + 1) = (trI C i).set i (truthB (trI C i) x) := by
 have hi := (List.getElem?_eq_some_iff.1 h).1
 unfold trI
 rw [take_succ_get h, truthsR_snoc, truthB_pad]
 have hl : (truthsR (C.ops.take i)).length = i := by rw [truthsR_length]; simp; omega
 rw [List.set_append_right _ _ (by omega), hl, Nat.sub_self, show C.ops.length - i = (C.ops.length - (i + 1)) + 1 by omega, List.replicate_succ, List.set_cons_zero, List.append_assoc]; rfl
theorem firstR_snoc (l : List Ot) (x : Ot) : firstR (l ++ [x]) = if (mget (firstR l) x).isSome then firstR l else firstR l ++ [(x, (l.length : Int))] := by
 unfold firstR; rw [List.zipIdx_append, List.foldl_append]; simp [List.zipIdx]
theorem kvI_succ {C : Co} {i : Nat} {x : Ot} (h : C.ops[i]? = some x) : kvI C (i + 1) = if (mget (kvI C i) x).isSome then kvI C i else kvI C i ++ [(x, (i : Int))] := by
 have hi := (List.getElem?_eq_some_iff.1 h).1
 unfold kvI; rw [take_succ_get h, firstR_snoc]; simp [Nat.min_eq_left (Nat.le_of_lt hi)]
theorem opnd_cell {w : World} {b T j : Nat} {x : Ot} (h : Blk w b (encO x) T) (hj : j < 3) : w.cell? ⟨b, 0 + (1 + j), none⟩ = some (.int .i64 ((opndR x).getD j 0)) := by
 rw [h.cell]
 match j, hj with
 | 0, _ => rfl
 | 1, _ => rfl
 | 2, _ => rfl
theorem opnd_bd {n : Nat} {x : Ot} (h : Bd n x) {j : Nat} (hj : j < 3) : 0 ≤ (opndR x).getD j 0 ∧ (opndR x).getD j 0 < n := by
 match j, hj with
 | 0, _ => exact ⟨h.a0, h.a1⟩
 | 1, _ => exact ⟨h.b0, h.b1⟩
 | 2, _ => exact ⟨h.c0, h.c1⟩
theorem usedR_eq (C : Co) : usedR C = C.roots.foldl setB (usI C C.ops.length) := by unfold usedR usI; rw [List.take_length]
theorem trI_end (C : Co) : trI C C.ops.length = truthsR C.ops := by unfold trI; rw [List.take_length]; simp
theorem kvI_end (C : Co) : kvI C C.ops.length = firstR C.ops := by unfold kvI; rw [List.take_length]
section
variable {Y : StTy} {w0 w w9 : World} {top bs b1 rM TP : Nat} {vC vO vR vU vT : Value} {C : Co} {us tr : List Bool} {kv : List (Ot × Int)} {ms : List Nat}
theorem Mp.ne_mark (h : Mp w rM valO valI kv) (hM : Marks w ms) : ¬ rM ∈ ms := fun hm => by
 obtain ⟨es, c, h2, _⟩ := h;have := hM.obj _ hm; rw [h2] at this; cases this
theorem Lk.done (h : Lk Y w0 w top bs b1 rM TP vC vO vR vU vT C us tr kv ms) (hc : Chg (· ∈ ms) w w9) : Chg (· = bs) w0 w9 ∧ Blk w9 bs [vC, vO, vR, vU, vT, .map (some rM)] Y.s ∧ OS w9 vU Y.b 1 encB us w0.heap.size ∧ OS w9 vT Y.b 1 encB tr w0.heap.size ∧ Mp w9 rM valO valI kv ∧ w0.heap.size ≤ rM ∧ (∀ b, vU.ownBlock = some b → vT.ownBlock ≠ some b) :=
 ⟨(h.ch.trans (hc.mono fun k _ hk => .inl (h.ms0 k hk).1)).mono (fun k hk e => e.resolve_left (by omega)), h.blk.chg hc (fun hm => h.mks.ne h.blk _ hm rfl), h.oU.chg hc (fun b e hm => h.oU.ne_mark h.mks e b hm rfl), h.oT.chg hc (fun b e hm => h.oT.ne_mark h.mks e b hm rfl),
  h.mp.chg hc (h.mp.ne_mark h.mks), h.m0, h.dis⟩
end
end Go.Mi
