/- The variables of the program that are laid, with what they hold (seat of the Core rows: strings.asciiSpace). -/
import GoSem.Core.Value
import Derived.Test.YtpcgfeckokgbfaaGreatDoorJb
import Derived.Maps.AppendAt
set_option linter.all false
namespace Go.Dp
def GL : List (Nat × List Value) := [(0, (List.range 256).map fun i => .int .u8 (cond (Nat.beq i 32 || (Nat.ble 9 i && Nat.ble i 13)) 1 0))]
end Go.Dp
namespace Go.Dp
open Go Go.Mi Go.RowKit
/-- data behind which nothing is written any more -/
inductive P where
  | v (x : Value)
  | sl (k n : Nat) (cs : List P)
/-- what slots and cells hold -/
inductive V where
  | p (x : P)
  | tk (k n : Nat) (cs : List P) (t m : Nat)
  | ref (i off : Nat)
  | el (cs : List P)
  | arr (i off n cap : Nat)
  | map (i : Nat)
  | fn (f : Go.Fn) (bnd caps : List V)
  | agg (cs : List V)
  | tup (cs : List V)
  | yld (i : Nat)
  | z
  | gs (k n t m off : Nat)
  | gp (t m off : Nat)
/-- what can be written to -/
inductive Ob where
  | dead
  | cells (T : Nat) (cs : List V)
  | pc (T : Nat) (cs : List P)
  | tok (T k m : Nat)
  | gr (T k m : Nat) (cs : List P)
  | fz (T : Nat) (cs : List P)
  | mp (c : Nat) (bs : List Nat) (kv : List (Value × V))
  | loop (st : LoopState) (pd : Option Code) (f N : Nat) (fr : List (Nat × V)) (ps : Array Nat) (asg bd : Code) (j : Nat)
  | dfr (op : Bool)
  | itr (j : Nat)
abbrev Fv := List (Nat × V)
def lk : Fv → Nat → Option V
  | [], _ => none
  | (d, v) :: l, t => cond (Nat.beq d t) (some v) (lk l t)
structure Gh where
  β : Nat → Nat
  E : Nat → Nat
  h : Nat → Value
def curT : Option Ob → Option Nat
  | some (.tok _ _ m) => some m
  | some (.gr _ _ m _) => some m
  | _ => none
def cur (H : List Ob) (t : Nat) : Option Nat := curT H[t]?
def liveO : Option Ob → Prop
  | some (.fz _ _) => True
  | some (.cells _ _) => True
  | some (.pc _ _) => True
  | some (.mp ..) => True
  | some (.loop ..) => True
  | some (.dfr _) => True
  | some (.itr _) => True
  | _ => False
def live (H : List Ob) (i : Nat) : Prop := liveO H[i]?
def ownO (g : Gh) (i b : Nat) : Option Ob → Prop
  | some (.fz _ _) => b = g.β i
  | some (.cells _ _) => b = g.β i
  | some (.pc _ _) => b = g.β i
  | some (.mp ..) => b = g.β i
  | some (.loop ..) => b = g.β i
  | some (.dfr _) => b = g.β i
  | some (.itr _) => b = g.β i
  | some (.tok _ _ _) => (g.h i).ownBlock = some b
  | some (.gr _ _ _ _) => (g.h i).ownBlock = some b
  | _ => False
def own (g : Gh) (H : List Ob) (i b : Nat) : Prop := ownO g i b H[i]?
inductive RP (E : Nat → Nat) (w : World) : P → Value → Prop
  | v {x : Value} : RP E w (.v x) x
  | nil {k : Nat} : RP E w (.sl k 0 []) (.slice none 0 0)
  | sl {k n : Nat} {cs : List P} {b o cap : Nat} (u : Nat → Value) (hl : cs.length = n * k) (hc : n ≤ cap) (hE : o + n * k ≤ E b) (hb : b < w.heap.size)
      (hu : ∀ j, j < n * k → w.cell? ⟨b, o + j, none⟩ = some (u j)) (h : ∀ j c, cs[j]? = some c → RP E w c (u j)) : RP E w (.sl k n cs) (.slice (some ⟨b, o, none⟩) n cap)
def Tk (g : Gh) (H : List Ob) (t m : Nat) (v : Value) : Prop := ∃ m', cur H t = some m' ∧ m ≤ m' ∧ (m = m' → v = g.h t)
/-- a part of a row that grows and is written to -/
def Sg (g : Gh) (H : List Ob) (t m k n off : Nat) (v : Value) : Prop := ∃ m', cur H t = some m' ∧ m ≤ m' ∧ (m = m' → ∃ b n0 cap0 off' cap, g.h t = .slice (some ⟨b, 0, none⟩) n0 cap0 ∧ v = .slice (some ⟨b, off', none⟩) n cap ∧ off + n * k ≤ n0 * k ∧ n ≤ cap ∧ (n = 0 ∨ off' = off) ∧ (off = 0 → cap = cap0 ∧ off' = 0))
def Sp (g : Gh) (H : List Ob) (t m off : Nat) (v : Value) : Prop := ∃ m', cur H t = some m' ∧ m ≤ m' ∧ (m = m' → ∃ b n0 cap0, g.h t = .slice (some ⟨b, 0, none⟩) n0 cap0 ∧ v = .pointer (some ⟨b, off, none⟩))
mutual
inductive RV (g : Gh) (w : World) (H : List Ob) : V → Value → Prop
  | p {x : P} {v : Value} (h : RP g.E w x v) : RV g w H (.p x) v
  | tk {k n : Nat} {cs : List P} {t m : Nat} {v : Value} (h : RP g.E w (.sl k n cs) v) (ht : Tk g H t m v) : RV g w H (.tk k n cs t m) v
  | ref {i off : Nat} (hl : live H i) : RV g w H (.ref i off) (.pointer (some ⟨g.β i, off, none⟩))
  | el {cs : List P} {b o : Nat} (u : Nat → Value) (hE : o + cs.length ≤ g.E b) (hb : b < w.heap.size) (hu : ∀ j, j < cs.length → w.cell? ⟨b, o + j, none⟩ = some (u j))
      (h : ∀ j c, cs[j]? = some c → RP g.E w c (u j)) : RV g w H (.el cs) (.pointer (some ⟨b, o, none⟩))
  | arr {i off n cap : Nat} (hl : live H i) : RV g w H (.arr i off n cap) (.slice (some ⟨g.β i, off, none⟩) n cap)
  | map {i : Nat} (hl : live H i) : RV g w H (.map i) (.map (some (g.β i)))
  | fn {f : Go.Fn} {bnd caps : List V} {us vs : List Value} (h1 : RVs g w H bnd us) (h2 : RVs g w H caps vs) : RV g w H (.fn f bnd caps) (.func f us.toArray vs.toArray)
  | agg {cs : List V} {vs : List Value} (h : RVs g w H cs vs) : RV g w H (.agg cs) (.agg vs.toArray)
  | tup {cs : List V} {vs : List Value} (h : RVs g w H cs vs) : RV g w H (.tup cs) (.tuple vs.toArray)
  | yld {i : Nat} (hl : live H i) : RV g w H (.yld i) (.func (.yield (g.β i)) #[] #[])
  | z {a : Addr} : RV g w H .z (.slice (some a) 0 0)
  | gs {k n t m off : Nat} {v : Value} (h1 : one1 v = true) (h : Sg g H t m k n off v) : RV g w H (.gs k n t m off) v
  | gp {t m off : Nat} {v : Value} (h1 : one1 v = true) (h : Sp g H t m off v) : RV g w H (.gp t m off) v
inductive RVs (g : Gh) (w : World) (H : List Ob) : List V → List Value → Prop
  | nil : RVs g w H [] []
  | cons {d : V} {ds : List V} {v : Value} {vs : List Value} (h : RV g w H d v) (hs : RVs g w H ds vs) : RVs g w H (d :: ds) (v :: vs)
end
/-- what was known stays known -/
structure Mo (g : Gh) (w : World) (H : List Ob) (g' : Gh) (w' : World) (H' : List Ob) : Prop where
  size : w.heap.size ≤ w'.heap.size
  E : ∀ b, b < w.heap.size → g.E b ≤ g'.E b
  cell : ∀ b o, b < w.heap.size → o < g.E b → w'.cell? ⟨b, o, none⟩ = w.cell? ⟨b, o, none⟩
  live : ∀ i, live H i → live H' i ∧ g'.β i = g.β i
  tok : ∀ t m, cur H t = some m → ∃ m', cur H' t = some m' ∧ m ≤ m' ∧ (m = m' → g'.h t = g.h t)
theorem Mo.refl (g : Gh) (w : World) (H : List Ob) : Mo g w H g w H := ⟨Nat.le_refl _, fun _ _ => Nat.le_refl _, fun _ _ _ _ => rfl, fun _ h => ⟨h, rfl⟩, fun _ m h => ⟨m, h, Nat.le_refl _, fun _ => rfl⟩⟩
theorem Mo.trans {g1 g2 g3 : Gh} {w1 w2 w3 : World} {H1 H2 H3 : List Ob} (h : Mo g1 w1 H1 g2 w2 H2) (k : Mo g2 w2 H2 g3 w3 H3) : Mo g1 w1 H1 g3 w3 H3 where
  size := Nat.le_trans h.size k.size
  E b hb := Nat.le_trans (h.E b hb) (k.E b (Nat.lt_of_lt_of_le hb h.size))
  cell b o hb ho := (k.cell b o (Nat.lt_of_lt_of_le hb h.size) (Nat.lt_of_lt_of_le ho (h.E b hb))).trans (h.cell b o hb ho)
  live i hi := by
    obtain ⟨a, b⟩ := h.live i hi
    obtain ⟨c, d⟩ := k.live i a
    exact ⟨c, d.trans b⟩
  tok t m ht := by
    obtain ⟨m', a, b, c⟩ := h.tok t m ht
    obtain ⟨m'', a', b', c'⟩ := k.tok t m' a
    exact ⟨m'', a', Nat.le_trans b b', fun e => by
      have : m = m' := by omega
      have : m' = m'' := by omega
      rw [c' this, c (by omega)]⟩
theorem RP.mo {E E' : Nat → Nat} {w w' : World} (hs : w.heap.size ≤ w'.heap.size) (hE : ∀ b, b < w.heap.size → E b ≤ E' b) (hc : ∀ b o, b < w.heap.size → o < E b → w'.cell? ⟨b, o, none⟩ = w.cell? ⟨b, o, none⟩) {x : P} {v : Value} (h : RP E w x v) : RP E' w' x v := by
  induction h with
  | v => exact .v
  | nil => exact .nil
  | sl u hl hcap hEb hb hu _ ih => exact .sl u hl hcap (Nat.le_trans hEb (hE _ hb)) (Nat.lt_of_lt_of_le hb hs) (fun j hj => by rw [hc _ _ hb (by omega)]; exact hu j hj) ih
section
variable {g g' : Gh} {w w' : World} {H H' : List Ob}
theorem Tk.mo (m : Mo g w H g' w' H') {t n : Nat} {v : Value} (h : Tk g H t n v) : Tk g' H' t n v := by
  obtain ⟨m1, a, b, c⟩ := h
  obtain ⟨m2, a', b', c'⟩ := m.tok t m1 a
  exact ⟨m2, a', Nat.le_trans b b', fun e => by rw [c' (by omega)]; exact c (by omega)⟩
theorem Sg.mo (m : Mo g w H g' w' H') {t n k l o : Nat} {v : Value} (h : Sg g H t n k l o v) : Sg g' H' t n k l o v := by
  obtain ⟨m1, a, b, c⟩ := h
  obtain ⟨m2, a', b', c'⟩ := m.tok t m1 a
  exact ⟨m2, a', Nat.le_trans b b', fun e => by rw [c' (by omega)]; exact c (by omega)⟩
theorem Sp.mo (m : Mo g w H g' w' H') {t n o : Nat} {v : Value} (h : Sp g H t n o v) : Sp g' H' t n o v := by
  obtain ⟨m1, a, b, c⟩ := h
  obtain ⟨m2, a', b', c'⟩ := m.tok t m1 a
  exact ⟨m2, a', Nat.le_trans b b', fun e => by rw [c' (by omega)]; exact c (by omega)⟩
theorem Mo.rp (m : Mo g w H g' w' H') {x : P} {v : Value} (h : RP g.E w x v) : RP g'.E w' x v := h.mo m.size m.E m.cell
mutual
theorem RV.mo (m : Mo g w H g' w' H') : ∀ {d : V} {v : Value}, RV g w H d v → RV g' w' H' d v
  | _, _, .p h => .p (m.rp h)
  | _, _, .tk h ht => .tk (m.rp h) (ht.mo m)
  | _, _, .ref (i := i) hl => by have := (m.live i hl).2; rw [← this]; exact .ref (m.live i hl).1
  | _, _, .el u hE hb hu h => .el u (Nat.le_trans hE (m.E _ hb)) (Nat.lt_of_lt_of_le hb m.size) (fun j hj => by rw [m.cell _ _ hb (by omega)]; exact hu j hj) (fun j c hj => m.rp (h j c hj))
  | _, _, .arr (i := i) hl => by have := (m.live i hl).2; rw [← this]; exact .arr (m.live i hl).1
  | _, _, .map (i := i) hl => by have := (m.live i hl).2; rw [← this]; exact .map (m.live i hl).1
  | _, _, .fn h1 h2 => .fn (RVs.mo m h1) (RVs.mo m h2)
  | _, _, .agg h => .agg (RVs.mo m h)
  | _, _, .tup h => .tup (RVs.mo m h)
  | _, _, .yld (i := i) hl => by have := (m.live i hl).2; rw [← this]; exact .yld (m.live i hl).1
  | _, _, .z => .z
  | _, _, .gs h1 h => .gs h1 (h.mo m)
  | _, _, .gp h1 h => .gp h1 (h.mo m)
theorem RVs.mo (m : Mo g w H g' w' H') : ∀ {ds : List V} {vs : List Value}, RVs g w H ds vs → RVs g' w' H' ds vs
  | _, _, .nil => .nil
  | _, _, .cons h hs => .cons (RV.mo m h) (RVs.mo m hs)
end
theorem RVs.len : ∀ {ds : List V} {vs : List Value}, RVs g w H ds vs → ds.length = vs.length
  | _, _, .nil => rfl
  | _, _, .cons _ hs => by simp [RVs.len hs]
theorem RVs.get : ∀ {ds : List V} {vs : List Value} {i : Nat} {d : V}, RVs g w H ds vs → ds[i]? = some d → ∃ v, vs[i]? = some v ∧ RV g w H d v
  | _, _, i, d, .nil, h => by simp at h
  | _, _, 0, d, .cons h hs, e => by simp at e; subst e; exact ⟨_, rfl, h⟩
  | _, _, i + 1, d, .cons h hs, e => by simp at e; obtain ⟨v, a, b⟩ := RVs.get hs e; exact ⟨v, by simpa using a, b⟩
theorem RVs.set : ∀ {ds : List V} {vs : List Value} {i : Nat} {d : V} {v : Value}, RVs g w H ds vs → RV g w H d v → RVs g w H (ds.set i d) (vs.set i v)
  | _, _, i, d, v, .nil, h => by simp; exact .nil
  | _, _, 0, d, v, .cons h hs, e => .cons e hs
  | _, _, i + 1, d, v, .cons h hs, e => .cons h (RVs.set hs e)
theorem RVs.drop : ∀ {ds : List V} {vs : List Value} (i : Nat), RVs g w H ds vs → RVs g w H (ds.drop i) (vs.drop i)
  | _, _, 0, h => h
  | _, _, i + 1, .nil => .nil
  | _, _, i + 1, .cons h hs => RVs.drop i hs
theorem RVs.take : ∀ {ds : List V} {vs : List Value} (i : Nat), RVs g w H ds vs → RVs g w H (ds.take i) (vs.take i)
  | _, _, 0, h => .nil
  | _, _, i + 1, .nil => .nil
  | _, _, i + 1, .cons h hs => .cons h (RVs.take i hs)
theorem RVs.append : ∀ {ds es : List V} {vs us : List Value}, RVs g w H ds vs → RVs g w H es us → RVs g w H (ds ++ es) (vs ++ us)
  | _, _, _, _, .nil, h => h
  | _, _, _, _, .cons h hs, k => .cons h (RVs.append hs k)
end
/-- what is known of a row of cells -/
def RPs (E : Nat → Nat) (w : World) (cs : List P) (us : List Value) : Prop := cs.length = us.length ∧ ∀ (j : Nat) (c : P) (u : Value), cs[j]? = some c → us[j]? = some u → RP E w c u
theorem RPs.mo {E E' : Nat → Nat} {w w' : World} {cs : List P} {us : List Value} (hs : w.heap.size ≤ w'.heap.size) (hE : ∀ b, b < w.heap.size → E b ≤ E' b) (hc : ∀ b o, b < w.heap.size → o < E b → w'.cell? ⟨b, o, none⟩ = w.cell? ⟨b, o, none⟩) (h : RPs E w cs us) : RPs E' w' cs us :=
  ⟨h.1, fun j c u h1 h2 => (h.2 j c u h1 h2).mo hs hE hc⟩
def mkEs : List Nat → List Value → List Value → List MapEntry
  | b :: bs, k :: ks, u :: us => { key := k, val := u, born := b } :: mkEs bs ks us
  | _, _, _ => []
/-- what is known of a frame -/
def FrR (g : Gh) (w : World) (H : List Ob) (fr : Fv) (tm : Array Value) : Prop := ∀ t d, lk fr t = some d → ∃ v, tm[t]? = some v ∧ RV g w H d v
theorem FrR.mo {g g' : Gh} {w w' : World} {H H' : List Ob} (m : Mo g w H g' w' H') {fr : Fv} {tm : Array Value} (h : FrR g w H fr tm) : FrR g' w' H' fr tm := fun t d hd => by
  obtain ⟨v, a, b⟩ := h t d hd
  exact ⟨v, a, b.mo m⟩
/-- an object lies in the world as it is said -/
def RO (g : Gh) (w : World) (H : List Ob) (i : Nat) : Ob → Prop
  | .dead => True
  | .cells T cs => ∃ us : List Value, Blk w (g.β i) us T ∧ RVs g w H cs us ∧ g.E (g.β i) = 0
  | .pc T cs => ∃ us : List Value, Blk w (g.β i) us T ∧ RPs g.E w cs us ∧ g.E (g.β i) = 0
  | .tok T k _ => ∃ n us, w.ownsRow 0 T k (g.h i) n us ∧ ∀ b, (g.h i).ownBlock = some b → g.E b = n * k
  | .fz T cs => ∃ us : List Value, Blk w (g.β i) us T ∧ RPs g.E w cs us ∧ g.E (g.β i) = cs.length
  | .gr T k _ cs => ∃ n us, w.ownsRow 0 T k (g.h i) n us ∧ RPs g.E w cs us ∧ ∀ b, (g.h i).ownBlock = some b → g.E b = 0
  | .mp c bs kv => ∃ us, w.heap[g.β i]? = some (.map (mkEs bs (kv.map (·.1)) us).toArray c) ∧ bs.length = kv.length ∧ RVs g w H (kv.map (·.2)) us
  | .loop st pd f N fr ps asg bd j => ∃ (f0 : FuncId) (tm : Array Value), w.heap[g.β i]? = some (.loop { state := st, pending := pd, fn := f0, tmps := tm, params := ps, assign := asg, body := bd, defers := g.β j }) ∧ tm.size = N ∧ live H j ∧ FrR g w H fr tm
  | .dfr b => w.heap[g.β i]? = some (.deferred (if b then some [] else none))
  | .itr j => ∃ since last, w.heap[g.β i]? = some (.mapIter (some (g.β j)) since #[] last) ∧ live H j
/-- the variables of the program that are laid: they lie where nothing is written -/
def GlA (g : Gh) (w : World) : Prop := ∀ q ∈ GL, q.1 < w.heap.size ∧ q.2.length ≤ g.E q.1 ∧ ∀ (j : Nat) (u : Value), q.2[j]? = some u → w.cell? ⟨q.1, j, none⟩ = some u
theorem GlA.mo {g g' : Gh} {w w' : World} {H H' : List Ob} (h : GlA g w) (m : Mo g w H g' w' H') : GlA g' w' := fun q hq => by
  obtain ⟨a, b, c⟩ := h q hq
  refine ⟨Nat.lt_of_lt_of_le a m.size, Nat.le_trans b (m.E _ a), fun j u hj => ?_⟩
  rw [m.cell _ _ a (Nat.lt_of_lt_of_le (List.getElem?_eq_some_iff.1 hj).1 b)]; exact c j u hj
structure Rs (w0 : World) (g0 : Gh) (H0 : List Ob) (g : Gh) (w : World) (H : List Ob) : Prop where
  os : w.os = w0.os
  tape : w.tape = w0.tape
  output : w.output = w0.output
  gl : GlA g w
  mo : Mo g0 w0 H0 g w H
  blk : ∀ b, b < w0.heap.size → (∀ i, ¬ own g0 H0 i b) → w.heap[b]? = w0.heap[b]? ∧ g.E b = g0.E b
  ob : ∀ i o, H[i]? = some o → RO g w H i o
  sep : ∀ i j b, own g H i b → own g H j b → i = j
  lb : ∀ i b, own g H i b → (∃ j, own g0 H0 j b) ∨ w0.heap.size ≤ b
theorem RO.mo {g g' : Gh} {w w' : World} {H H' : List Ob} (m : Mo g w H g' w' H') {i : Nat} {o : Ob} (hi : H[i]? = some o) (hb : ∀ b, own g H i b → w'.heap[b]? = w.heap[b]? ∧ g'.E b = g.E b) (hh : cur H i = cur H i → ∀ T k n, (o = .tok T k n ∨ ∃ cs, o = .gr T k n cs) → g'.h i = g.h i) (h : RO g w H i o) : RO g' w' H' i o := by
  have hown : ∀ b, own g H i b ↔ ownO g i b (some o) := fun b => by unfold own; rw [hi]
  cases o with
  | dead => trivial
  | cells T cs =>
    obtain ⟨us, h1, h2, h3⟩ := h
    have hl := m.live i (by unfold live; rw [hi]; trivial)
    have := hb (g.β i) ((hown _).2 rfl)
    refine ⟨us, ?_, h2.mo m, ?_⟩
    · rw [hl.2]; exact this.1.trans h1
    · rw [hl.2, this.2, h3]
  | pc T cs =>
    obtain ⟨us, h1, h2, h3⟩ := h
    have hl := m.live i (by unfold live; rw [hi]; trivial)
    have := hb (g.β i) ((hown _).2 rfl)
    refine ⟨us, ?_, h2.mo m.size m.E m.cell, ?_⟩
    · rw [hl.2]; exact this.1.trans h1
    · rw [hl.2, this.2, h3]
  | fz T cs =>
    obtain ⟨us, h1, h2, h3⟩ := h
    have hl := m.live i (by unfold live; rw [hi]; trivial)
    have := hb (g.β i) ((hown _).2 rfl)
    refine ⟨us, ?_, h2.mo m.size m.E m.cell, ?_⟩
    · rw [hl.2]; exact this.1.trans h1
    · rw [hl.2, this.2, h3]
  | tok T k n =>
    obtain ⟨q, us, h1, h2⟩ := h
    have he := hh rfl T k n (.inl rfl)
    refine ⟨q, us, ?_, fun b hb' => ?_⟩
    · rw [he]
      refine ⟨h1.1, ?_⟩
      rcases h1.2 with h | ⟨b, cap, cr, hv, h0, hc, r⟩
      · exact .inl h
      · refine .inr ⟨b, cap, cr, hv, h0, ?_, r⟩
        rw [(hb b ((hown _).2 (by show (g.h i).ownBlock = some b; rw [hv]; rfl))).1]; exact hc
    · rw [he] at hb'
      rw [(hb b ((hown _).2 hb')).2]; exact h2 b hb'
  | gr T k n cs =>
    obtain ⟨q, us, h1, h3, h2⟩ := h
    have he := hh rfl T k n (.inr ⟨cs, rfl⟩)
    refine ⟨q, us, ?_, h3.mo m.size m.E m.cell, fun b hb' => ?_⟩
    · rw [he]
      refine ⟨h1.1, ?_⟩
      rcases h1.2 with h | ⟨b, cap, cr, hv, h0, hc, r⟩
      · exact .inl h
      · refine .inr ⟨b, cap, cr, hv, h0, ?_, r⟩
        rw [(hb b ((hown _).2 (by show (g.h i).ownBlock = some b; rw [hv]; rfl))).1]; exact hc
    · rw [he] at hb'
      rw [(hb b ((hown _).2 hb')).2]; exact h2 b hb'
  | mp c bs kv =>
    obtain ⟨us, h1, h2, h3⟩ := h
    have hl := m.live i (by unfold live; rw [hi]; trivial)
    have := hb (g.β i) ((hown _).2 rfl)
    exact ⟨us, by rw [hl.2, this.1]; exact h1, h2, h3.mo m⟩
  | loop st pd f N fr ps asg bd j =>
    obtain ⟨f0, tm, h1, h2, h3, h4⟩ := h
    have hl := m.live i (by unfold live; rw [hi]; trivial)
    have := hb (g.β i) ((hown _).2 rfl)
    exact ⟨f0, tm, by rw [hl.2, this.1, (m.live j h3).2]; exact h1, h2, (m.live j h3).1, h4.mo m⟩
  | dfr b =>
    have hl := m.live i (by unfold live; rw [hi]; trivial)
    have := hb (g.β i) ((hown _).2 rfl)
    show w'.heap[g'.β i]? = _
    rw [hl.2, this.1]; exact h
  | itr j =>
    obtain ⟨s, t, h1, h3⟩ := h
    have hl := m.live i (by unfold live; rw [hi]; trivial)
    have := hb (g.β i) ((hown _).2 rfl)
    exact ⟨s, t, by rw [hl.2, this.1, (m.live j h3).2]; exact h1, (m.live j h3).1⟩
theorem own_lt {g : Gh} {w : World} {H : List Ob} {w0 : World} {g0 : Gh} {H0 : List Ob} (h : Rs w0 g0 H0 g w H) {i b : Nat} (ho : own g H i b) : b < w.heap.size := by
  unfold own at ho
  cases hi : H[i]? with
  | none => rw [hi] at ho; exact ho.elim
  | some o =>
    rw [hi] at ho
    have hr := h.ob i o hi
    cases o with
    | dead => exact ho.elim
    | cells T cs => obtain ⟨us, h1, _⟩ := hr; have : b = g.β i := ho; subst this; exact h1.lt
    | pc T cs => obtain ⟨us, h1, _⟩ := hr; have : b = g.β i := ho; subst this; exact h1.lt
    | fz T cs => obtain ⟨us, h1, _⟩ := hr; have : b = g.β i := ho; subst this; exact h1.lt
    | mp c bs kv => obtain ⟨us, h1, _⟩ := hr; have : b = g.β i := ho; subst this; exact (Array.getElem?_eq_some_iff.1 h1).1
    | loop st pd f N fr ps asg bd j => obtain ⟨f0, tm, h1, _⟩ := hr; have : b = g.β i := ho; subst this; exact (Array.getElem?_eq_some_iff.1 h1).1
    | dfr q => have h1 : w.heap[g.β i]? = _ := hr; have : b = g.β i := ho; subst this; exact (Array.getElem?_eq_some_iff.1 h1).1
    | itr j => obtain ⟨_, _, h1, _⟩ := hr; have : b = g.β i := ho; subst this; exact (Array.getElem?_eq_some_iff.1 h1).1
    | tok T k m =>
      obtain ⟨n, us, h1, _⟩ := hr
      have e : (g.h i).ownBlock = some b := ho
      rcases h1.2 with ⟨hv, _⟩ | ⟨q, cap, cr, hv, _, hc, _⟩
      · rw [hv] at e; cases e
      · rw [hv] at e; cases e; exact (Array.getElem?_eq_some_iff.1 hc).1
    | gr T k m cs =>
      obtain ⟨n, us, h1, _, _⟩ := hr
      have e : (g.h i).ownBlock = some b := ho
      rcases h1.2 with ⟨hv, _⟩ | ⟨q, cap, cr, hv, _, hc, _⟩
      · rw [hv] at e; cases e
      · rw [hv] at e; cases e; exact (Array.getElem?_eq_some_iff.1 hc).1
/-- the beginning of a call -/
structure Rs0 (g : Gh) (w : World) (H : List Ob) : Prop where
  gl : GlA g w
  ob : ∀ i o, H[i]? = some o → RO g w H i o
  sep : ∀ i j b, own g H i b → own g H j b → i = j
theorem Rs0.rs {g : Gh} {w : World} {H : List Ob} (h : Rs0 g w H) : Rs w g H g w H :=
  ⟨rfl, rfl, rfl, h.gl, Mo.refl _ _ _, fun _ _ _ => ⟨rfl, rfl⟩, h.ob, h.sep, fun i b ho => .inl ⟨i, ho⟩⟩
theorem Rs.rs0 {w0 : World} {g0 : Gh} {H0 : List Ob} {g : Gh} {w : World} {H : List Ob} (h : Rs w0 g0 H0 g w H) : Rs0 g w H := ⟨h.gl, h.ob, h.sep⟩
/-- what a step does is seen from where the call began -/
theorem Rs.then {w0 : World} {g0 : Gh} {H0 : List Ob} {g g' : Gh} {w w' : World} {H H' : List Ob} (h : Rs w0 g0 H0 g w H) (k : Rs w g H g' w' H') : Rs w0 g0 H0 g' w' H' where
  os := k.os.trans h.os
  tape := k.tape.trans h.tape
  output := k.output.trans h.output
  gl := k.gl
  mo := h.mo.trans k.mo
  blk b hb hn := by
    obtain ⟨a, c⟩ := h.blk b hb hn
    have hnot : ∀ i, ¬ own g H i b := fun i ho => by
      rcases h.lb i b ho with ⟨j, hj⟩ | hge
      · exact hn j hj
      · omega
    obtain ⟨a', c'⟩ := k.blk b (Nat.lt_of_lt_of_le hb h.mo.size) hnot
    exact ⟨a'.trans a, c'.trans c⟩
  ob := k.ob
  sep := k.sep
  lb i b ho := by
    rcases k.lb i b ho with ⟨j, hj⟩ | hge
    · exact h.lb j b hj
    · exact .inr (Nat.le_trans h.mo.size hge)
/-! ### steps of the state -/
theorem set_ne {H : List Ob} {i j : Nat} {o : Ob} (h : j ≠ i) : (H.set i o)[j]? = H[j]? := List.getElem?_set_ne (fun e => h e.symm)
theorem set_eq {H : List Ob} {i : Nat} {o : Ob} (h : i < H.length) : (H.set i o)[i]? = some o := List.getElem?_set_self h
theorem own_lt0 {g : Gh} {w : World} {H : List Ob} (h : Rs0 g w H) {i b : Nat} (ho : own g H i b) : b < w.heap.size := own_lt h.rs ho
theorem Rs.one {g g' : Gh} {w w' : World} {H : List Ob} {i : Nat} {o' : Ob} (h : Rs0 g w H) (hil : i < H.length) (hos : w'.os = w.os) (htp : w'.tape = w.tape) (hou : w'.output = w.output) (hsz : w.heap.size ≤ w'.heap.size)
    (hblk : ∀ b, b < w.heap.size → ¬ own g H i b → w'.heap[b]? = w.heap[b]? ∧ g'.E b = g.E b) (hpre : ∀ b o, own g H i b → o < g.E b → w'.cell? ⟨b, o, none⟩ = w.cell? ⟨b, o, none⟩) (hEm : ∀ b, own g H i b → g.E b ≤ g'.E b)
    (hβ : ∀ j, j ≠ i → g'.β j = g.β j ∧ g'.h j = g.h j) (hlive : liveO H[i]? → liveO (some o') ∧ g'.β i = g.β i) (htok : ∀ m, curT H[i]? = some m → ∃ m', curT (some o') = some m' ∧ m ≤ m' ∧ (m = m' → g'.h i = g.h i))
    (hown : ∀ b, ownO g' i b (some o') → own g H i b ∨ w.heap.size ≤ b) (hro : Mo g w H g' w' (H.set i o') → RO g' w' (H.set i o') i o') : Rs w g H g' w' (H.set i o') := by
  have hmo : Mo g w H g' w' (H.set i o') := by
    refine ⟨hsz, fun b hb => ?_, fun b o hb ho => ?_, fun j hj => ?_, fun t m ht => ?_⟩
    · by_cases e : own g H i b
      · exact hEm b e
      · exact Nat.le_of_eq (hblk b hb e).2.symm
    · by_cases e : own g H i b
      · exact hpre b o e ho
      · exact World.cell?_of_block (hblk b hb e).1
    · by_cases e : j = i
      · subst e; have := hlive hj; exact ⟨by unfold live; rw [set_eq hil]; exact this.1, this.2⟩
      · exact ⟨by unfold live; rw [set_ne e]; exact hj, (hβ j e).1⟩
    · by_cases e : t = i
      · subst e; obtain ⟨m', a, b, c⟩ := htok m ht; exact ⟨m', by unfold cur; rw [set_eq hil]; exact a, b, c⟩
      · exact ⟨m, by unfold cur; rw [set_ne e]; exact ht, Nat.le_refl _, fun _ => (hβ t e).2⟩
  have hown' : ∀ j b, j ≠ i → own g' (H.set i o') j b → own g H j b := fun j b e ho => by
    unfold own at ho ⊢
    rw [set_ne e] at ho
    cases hj : H[j]? with
    | none => rw [hj] at ho; exact ho
    | some o => rw [hj] at ho; cases o <;> simp only [ownO, (hβ j e).1, (hβ j e).2] at ho ⊢ <;> exact ho
  have hown'' : ∀ b, own g' (H.set i o') i b → own g H i b ∨ w.heap.size ≤ b := fun b ho => by
    unfold own at ho; rw [set_eq hil] at ho; exact hown b ho
  refine ⟨hos, htp, hou, h.gl.mo hmo, hmo, fun b hb hn => hblk b hb (hn i), fun j o hj => ?_, fun j k b h1 h2 => ?_, fun j b ho => ?_⟩
  · by_cases e : j = i
    · subst e; rw [set_eq hil] at hj; cases hj; exact hro hmo
    · rw [set_ne e] at hj
      refine RO.mo hmo hj (fun b hb => hblk b (own_lt0 h hb) fun hi => e (h.sep j i b hb hi)) (fun _ _ _ _ _ => (hβ j e).2) (h.ob j o hj)
  · by_cases e1 : j = i
    · by_cases e2 : k = i
      · rw [e1, e2]
      · subst e1
        have hk := hown' k b e2 h2
        rcases hown'' b h1 with h1 | h1
        · exact h.sep j k b h1 hk
        · have := own_lt0 h hk; omega
    · have hj := hown' j b e1 h1
      by_cases e2 : k = i
      · subst e2
        rcases hown'' b h2 with h2 | h2
        · exact h.sep j k b hj h2
        · have := own_lt0 h hj; omega
      · exact h.sep j k b hj (hown' k b e2 h2)
  · by_cases e : j = i
    · subst e
      rcases hown'' b ho with h1 | h1
      · exact .inl ⟨j, h1⟩
      · exact .inr h1
    · exact .inl ⟨j, hown' j b e ho⟩
/-- new memory that no object stands for -/
theorem Rs.grow {g : Gh} {w w' : World} {H : List Ob} {E : Nat → Nat} (h : Rs0 g w H) (hb : Below w.heap.size w w') (hE : ∀ b, b < w.heap.size → E b = g.E b) : Rs w g H ⟨g.β, E, g.h⟩ w' H := by
  have hmo : Mo g w H ⟨g.β, E, g.h⟩ w' H := ⟨hb.size, fun b hl => Nat.le_of_eq (hE b hl).symm, fun b o hl _ => World.cell?_of_block (hb.block b hl), fun i hi => ⟨hi, rfl⟩, fun t m ht => ⟨m, ht, Nat.le_refl _, fun _ => rfl⟩⟩
  have hown : ∀ j b, own ⟨g.β, E, g.h⟩ H j b ↔ own g H j b := fun j b => by
    unfold own
    cases H[j]? with
    | none => exact Iff.rfl
    | some o => cases o <;> exact Iff.rfl
  exact ⟨hb.os, hb.tape, hb.output, h.gl.mo hmo, hmo, fun b hl _ => ⟨hb.block b hl, hE b hl⟩, fun j o hj => RO.mo hmo hj (fun b hb' => ⟨hb.block b (own_lt0 h hb'), hE b (own_lt0 h hb')⟩) (fun _ _ _ _ _ => rfl) (h.ob j o hj),
    fun i j b h1 h2 => h.sep i j b ((hown i b).1 h1) ((hown j b).1 h2), fun i b ho => .inl ⟨i, (hown i b).1 ho⟩⟩
def upd {α : Type} (f : Nat → α) (i : Nat) (x : α) : Nat → α := fun j => if j = i then x else f j
theorem upd_eq {α : Type} (f : Nat → α) (i : Nat) (x : α) : upd f i x i = x := by simp [upd]
theorem upd_ne {α : Type} {f : Nat → α} {i j : Nat} {x : α} (h : j ≠ i) : upd f i x j = f j := by simp [upd, h]
/-- a new variable -/
theorem Rs.var {g : Gh} {w : World} {H : List Ob} {i T : Nat} {cs : List V} {us : List Value} (h : Rs0 g w H) (hi : H[i]? = some .dead) (hc : RVs g w H cs us) :
    Rs w g H ⟨upd g.β i w.heap.size, upd g.E w.heap.size 0, g.h⟩ (w.alloc (.cells us.toArray T)) (H.set i (.cells T cs)) := by
  have hil := (List.getElem?_eq_some_iff.1 hi).1
  have hb := alloc_below w (.cells us.toArray T)
  have hno : ∀ b, ¬ own g H i b := fun b ho => by unfold own at ho; rw [hi] at ho; exact ho
  refine Rs.one h hil hb.os hb.tape hb.output hb.size (fun b hl _ => ⟨hb.block b hl, upd_ne (by omega)⟩) (fun b _ ho => absurd ho (hno b)) (fun b ho => absurd ho (hno b)) (fun j hj => ⟨upd_ne hj, rfl⟩) (fun hl => by rw [hi] at hl; exact hl.elim)
    (fun m hm => by rw [hi] at hm; cases hm) (fun b ho => ?_) (fun hmo => ?_)
  · have e : b = upd g.β i w.heap.size i := ho
    rw [upd_eq] at e
    exact .inr (by omega)
  · refine ⟨us, ?_, hc.mo hmo, ?_⟩
    · show Blk _ (upd g.β i w.heap.size i) us T
      rw [upd_eq]; exact alloc_blk _ _ _
    · show upd g.E w.heap.size 0 (upd g.β i w.heap.size i) = 0
      rw [upd_eq, upd_eq]
/-- a variable is written to -/
theorem Rs.write {g : Gh} {w w' : World} {H : List Ob} {i T : Nat} {cs ds : List V} {us : List Value} (h : Rs0 g w H) (hi : H[i]? = some (.cells T cs)) (hc : Chg (· = g.β i) w w') (hB : Blk w' (g.β i) us T) (hd : RVs g w H ds us) :
    Rs w g H g w' (H.set i (.cells T ds)) := by
  have hil := (List.getElem?_eq_some_iff.1 hi).1
  have hown : ∀ b, own g H i b ↔ b = g.β i := fun b => by unfold own; rw [hi]; exact Iff.rfl
  have hE : g.E (g.β i) = 0 := by obtain ⟨_, _, _, hE⟩ := h.ob i _ hi; exact hE
  refine Rs.one h hil hc.os hc.tape hc.output hc.size (fun b hl hn => ⟨hc.block b hl fun e => hn ((hown b).2 e), rfl⟩) (fun b o ho hlt => ?_) (fun b _ => Nat.le_refl _) (fun j _ => ⟨rfl, rfl⟩) (fun _ => ⟨trivial, rfl⟩)
    (fun m hm => by rw [hi] at hm; cases hm) (fun b ho => .inl ((hown b).2 ho)) (fun hmo => ⟨us, hB, hd.mo hmo, hE⟩)
  rw [(hown b).1 ho, hE] at hlt; omega
theorem Rs.varP {g : Gh} {w : World} {H : List Ob} {i T : Nat} {cs : List P} {us : List Value} (h : Rs0 g w H) (hi : H[i]? = some .dead) (hc : RPs g.E w cs us) :
    Rs w g H ⟨upd g.β i w.heap.size, upd g.E w.heap.size 0, g.h⟩ (w.alloc (.cells us.toArray T)) (H.set i (.pc T cs)) := by
  have hil := (List.getElem?_eq_some_iff.1 hi).1
  have hb := alloc_below w (.cells us.toArray T)
  have hno : ∀ b, ¬ own g H i b := fun b ho => by unfold own at ho; rw [hi] at ho; exact ho
  refine Rs.one h hil hb.os hb.tape hb.output hb.size (fun b hl _ => ⟨hb.block b hl, upd_ne (by omega)⟩) (fun b _ ho => absurd ho (hno b)) (fun b ho => absurd ho (hno b)) (fun j hj => ⟨upd_ne hj, rfl⟩) (fun hl => by rw [hi] at hl; exact hl.elim)
    (fun m hm => by rw [hi] at hm; cases hm) (fun b ho => ?_) (fun hmo => ?_)
  · have e : b = upd g.β i w.heap.size i := ho
    rw [upd_eq] at e
    exact .inr (by omega)
  · refine ⟨us, ?_, hc.mo hmo.size hmo.E hmo.cell, ?_⟩
    · show Blk _ (upd g.β i w.heap.size i) us T
      rw [upd_eq]; exact alloc_blk _ _ _
    · show upd g.E w.heap.size 0 (upd g.β i w.heap.size i) = 0
      rw [upd_eq, upd_eq]
end Go.Dp
namespace Go.Dp
open Go Go.Mi Go.RowKit
def setW (H : List Ob) : List (Nat × Ob) → List Ob
  | [] => H
  | (i, o) :: r => setW (H.set i o) r
def rdOk (H : List Ob) (rd : List (Nat × Ob)) : Prop := ∀ q ∈ rd, H[q.1]? = some q.2
theorem rdOk.one {H : List Ob} {i : Nat} {o : Ob} (h : rdOk H [(i, o)]) : H[i]? = some o := h (i, o) (by simp)
/-- a function is called, or a round of a loop over a function is asked for -/
def Into (Pg : Program) (n : Next) (w : World) (post : Value → World → Prop) : Prop :=
  (∃ f vs, n = .enter f vs ∧ Calls Pg f vs w fun en w' => ∃ v, en = .returned v ∧ post v w') ∨
  ∃ l f tmps asg bd, n = .round l f tmps asg bd ∧ RoundIn (Fw none) 0 Pg l f tmps asg bd w fun en w' => ∃ v, en = .returned v ∧ post v w'
theorem Into.of {Pg : Program} {f : FuncId} {vs : Array Value} {w : World} {post : Value → World → Prop} (h : Calls Pg f vs w fun en w' => ∃ v, en = .returned v ∧ post v w') : Into Pg (.enter f vs) w post := .inl ⟨f, vs, rfl, h⟩
theorem Into.mono {Pg : Program} {n : Next} {w : World} {post post' : Value → World → Prop} (h : Into Pg n w post) (k : ∀ v w', post v w' → post' v w') : Into Pg n w post' := by
  rcases h with ⟨f, vs, rfl, h⟩ | ⟨l, f, tmps, asg, bd, rfl, h⟩
  · exact .inl ⟨f, vs, rfl, Calls.mono h fun en w' ⟨v, e, hp⟩ => ⟨v, e, k v w' hp⟩⟩
  · exact .inr ⟨l, f, tmps, asg, bd, rfl, RoundIn.mono h fun en w' ⟨v, e, hp⟩ => ⟨v, e, k v w' hp⟩⟩
theorem Into.ne {Pg : Program} {n : Next} {w : World} {post : Value → World → Prop} (h : Into Pg n w post) : ∀ d, n ≠ .defer d := fun d e => by
  rcases h with ⟨f, vs, rfl, h⟩ | ⟨l, f, tmps, asg, bd, rfl, h⟩ <;> cases e
theorem Into.upon {Pg : Program} {n : Next} {w : World} {post : Value → World → Prop} (h : Into Pg n w post) {r : Option Nat} {o : Oper} {a : Act} {next : Act → World → Prop} {Q : Exit → Act → World → Prop} (k : ∀ v w', post v w' → next (a.put o.dst v) w') : o.uponIn (Fw r) 0 Pg a next Q (.ok n w) := by
  rcases h with ⟨f, vs, rfl, h⟩ | ⟨l, f, tmps, asg, bd, rfl, h⟩
  · rw [Oper.uponIn_enter]
    refine ⟨(fun h => by cases h), callsIn_of (Calls.mono h ?_)⟩
    rintro e w' ⟨v, rfl, hp⟩
    exact k v w' hp
  · rw [Oper.uponIn_round]
    refine ⟨(fun h => by cases h), RoundIn.mono (show RoundIn (Fw r) 0 Pg l f tmps asg bd w _ from h) ?_⟩
    rintro e w' ⟨v, rfl, hp⟩
    exact k v w' hp
/-- an operation yields a value, or enters a function that does -/
def Ex (Pg : Program) (e : Operand → Value) (o : Oper) (w : World) (post : Value → World → Prop) : Prop :=
  (∃ v w', (execOp e o).run Pg w = .ok (.value v) w' ∧ post v w') ∨ (∃ w', (execOp e o).run Pg w = .ok .skip w' ∧ post undef w') ∨
  ∃ n, (execOp e o).run Pg w = .ok n w ∧ Into Pg n w post
def It (Pg : Program) (op : Op) (ty : TypeId) (ρ : Operand → Option V) (rd wr : List (Nat × Ob)) (d : V) : Prop :=
  ∀ (g : Gh) (w : World) (H : List Ob) (e : Operand → Value) (o : Oper), o.op = op → o.type = ty → Rs0 g w H → rdOk H rd → (∀ x ∈ op.operands, ∀ u, ρ x = some u → RV g w H u (e x)) →
    Ex Pg e o w fun v w' => ∃ g', Rs w g H g' w' (setW H wr) ∧ RV g' w' (setW H wr) d v
theorem RV.vi {g : Gh} {w : World} {H : List Ob} {x v : Value} (h : RV g w H (.p (.v x)) v) : v = x := by
  cases h with | p h => cases h; rfl
theorem RV.v {g : Gh} {w : World} {H : List Ob} (x : Value) : RV g w H (.p (.v x)) x := .p .v
section
variable {Pg : Program} {ty : TypeId} {ρ : Operand → Option V}
theorem It.pure {op : Op} {d : V} (h : ∀ (g : Gh) (w : World) (H : List Ob) (e : Operand → Value) (o : Oper), o.op = op → o.type = ty → Rs0 g w H → (∀ x ∈ op.operands, ∀ u, ρ x = some u → RV g w H u (e x)) →
    ∃ v, (execOp e o).run Pg w = .ok (.value v) w ∧ RV g w H d v) : It Pg op ty ρ [] [] d := fun g w H e o ho ht hr _ hf => by
  obtain ⟨v, h1, h2⟩ := h g w H e o ho ht hr hf
  exact .inl ⟨v, w, h1, g, hr.rs, h2⟩
/-- one that asks for plain values alone -/
theorem It.plain {op : Op} {r : Value} (h : ∀ (w : World) (e : Operand → Value) (o : Oper), o.op = op → o.type = ty → (∀ x ∈ op.operands, ∀ u, ρ x = some (.p (.v u)) → e x = u) → (execOp e o).run Pg w = .ok (.value r) w) : It Pg op ty ρ [] [] (.p (.v r)) :=
  .pure fun g w H e o ho ht _ hf => ⟨r, h w e o ho ht fun x hx u hu => (hf x hx _ hu).vi, .v r⟩
theorem i_move {x : Operand} {d : V} (h : ρ x = some d) : It Pg (.move x) ty ρ [] [] d := .pure fun g w H e o ho _ _ hf => ⟨e x, by unfold execOp; rw [ho]; rfl, hf x (by simp [Op.operands]) _ h⟩
theorem i_assign {x : Operand} {d : V} (h : ρ x = some d) : It Pg (.assign x) ty ρ [] [] d := .pure fun g w H e o ho _ _ hf => ⟨e x, by unfold execOp; rw [ho]; rfl, hf x (by simp [Op.operands]) _ h⟩
theorem i_pickT {c x y : Operand} {d : V} (hc : ρ c = some (.p (.v (.bool true)))) (h : ρ x = some d) : It Pg (.pick c x y) ty ρ [] [] d := .pure fun g w H e o ho _ _ hf => by
  have e1 := (hf c (by simp [Op.operands]) _ hc).vi
  exact ⟨e x, by unfold execOp; rw [ho]; simp [e1, asBool, Sem.run_bind, Result.andThen], hf x (by simp [Op.operands]) _ h⟩
theorem i_pickF {c x y : Operand} {d : V} (hc : ρ c = some (.p (.v (.bool false)))) (h : ρ y = some d) : It Pg (.pick c x y) ty ρ [] [] d := .pure fun g w H e o ho _ _ hf => by
  have e1 := (hf c (by simp [Op.operands]) _ hc).vi
  exact ⟨e y, by unfold execOp; rw [ho]; simp [e1, asBool, Sem.run_bind, Result.andThen], hf y (by simp [Op.operands]) _ h⟩
theorem i_nilCheck {x : Operand} {i off : Nat} (h : ρ x = some (.ref i off)) : It Pg (.nilCheck x) ty ρ [] [] (.ref i off) := .pure fun g w H e o ho _ _ hf => by
  have e1 := hf x (by simp [Op.operands]) _ h
  generalize he : e x = v at e1
  cases e1 with | ref hl => exact ⟨_, by unfold execOp; rw [ho]; simp only [he]; rfl, .ref hl⟩
theorem i_bin {op : BinOp} {T U : TypeId} {x y : Operand} {vx vy v : Value} (hx : ρ x = some (.p (.v vx))) (hy : ρ y = some (.p (.v vy)))
    (h : ∀ w, (do eqGuard op T x y vx vy; binOp op T vx vy : Sem Value).run Pg w = .ok v w) : It Pg (.binOp op T x y U) ty ρ [] [] (.p (.v v)) := .plain fun w e o ho _ hf => by
  have e1 := hf x (by simp [Op.operands]) _ hx
  have e2 := hf y (by simp [Op.operands]) _ hy
  unfold execOp; rw [ho]; simp only [e1, e2, Sem.run_bind, h w, Result.andThen, Sem.run_pure]
section
variable {T U : TypeId} {x y : Operand} {k : IntKind} {a b : Int}
theorem i_rem (hx : ρ x = some (.p (.v (.int k a)))) (hy : ρ y = some (.p (.v (.int k b)))) (h0 : b ≠ 0) : It Pg (.binOp .rem T x y U) ty ρ [] [] (.p (.v (.int k (a.tmod b)))) :=
  i_bin hx hy fun w' => by simp [Sem.run_bind, eqGuard_int, Result.andThen, binOp, Op.intDiv, h0]
theorem i_lss (hx : ρ x = some (.p (.v (.int k a)))) (hy : ρ y = some (.p (.v (.int k b)))) : It Pg (.binOp .lss T x y U) ty ρ [] [] (.p (.v (.bool (decide (a < b))))) :=
  i_bin hx hy fun w' => by simp [Sem.run_bind, eqGuard_int, Result.andThen, binOp, Op.intCmp]
theorem i_leq (hx : ρ x = some (.p (.v (.int k a)))) (hy : ρ y = some (.p (.v (.int k b)))) : It Pg (.binOp .leq T x y U) ty ρ [] [] (.p (.v (.bool (decide (a ≤ b))))) :=
  i_bin hx hy fun w' => by simp [Sem.run_bind, eqGuard_int, Result.andThen, binOp, Op.intCmp]
theorem i_gtr (hx : ρ x = some (.p (.v (.int k a)))) (hy : ρ y = some (.p (.v (.int k b)))) : It Pg (.binOp .gtr T x y U) ty ρ [] [] (.p (.v (.bool (decide (b < a))))) :=
  i_bin hx hy fun w' => by simp [Sem.run_bind, eqGuard_int, Result.andThen, binOp, Op.intCmp]
theorem i_geq (hx : ρ x = some (.p (.v (.int k a)))) (hy : ρ y = some (.p (.v (.int k b)))) : It Pg (.binOp .geq T x y U) ty ρ [] [] (.p (.v (.bool (decide (b ≤ a))))) :=
  i_bin hx hy fun w' => by simp [Sem.run_bind, eqGuard_int, Result.andThen, binOp, Op.intCmp]
theorem i_eql (hx : ρ x = some (.p (.v (.int k a)))) (hy : ρ y = some (.p (.v (.int k b)))) : It Pg (.binOp .eql T x y U) ty ρ [] [] (.p (.v (.bool (decide (a = b))))) :=
  i_bin hx hy fun w' => by simp [Sem.run_bind, eqGuard_int, Result.andThen, binOp, Op.intCmp]; rfl
theorem i_neq (hx : ρ x = some (.p (.v (.int k a)))) (hy : ρ y = some (.p (.v (.int k b)))) : It Pg (.binOp .neq T x y U) ty ρ [] [] (.p (.v (.bool (!decide (a = b))))) :=
  i_bin hx hy fun w' => by simp [Sem.run_bind, eqGuard_int, Result.andThen, binOp, Op.intCmp]; rfl
end
theorem i_not {T : TypeId} {x : Operand} {b : Bool} (hx : ρ x = some (.p (.v (.bool b)))) : It Pg (.unOp .not T x) ty ρ [] [] (.p (.v (.bool (!b)))) := .plain fun w e o ho _ hf => by
  have e1 := hf x (by simp [Op.operands]) _ hx
  unfold execOp; rw [ho]; simp [e1, Op.unary, Sem.run_bind, Result.andThen]
theorem i_extract {x : Operand} {i : Nat} {ds : List V} {d : V} (hx : ρ x = some (.tup ds)) (hd : ds[i]? = some d) : It Pg (.extract x i) ty ρ [] [] d := .pure fun g w H e o ho _ _ hf => by
  have e1 := hf x (by simp [Op.operands]) _ hx
  generalize he : e x = v at e1
  cases e1 with
  | tup h =>
    obtain ⟨v, h1, h2⟩ := h.get hd
    exact ⟨v, by unfold execOp; rw [ho]; simp [he, Instr.extract, h1, Sem.run_bind, Result.andThen], h2⟩
end
end Go.Dp
namespace Go.Dp
open Go Go.Mi Go.RowKit
def P.one : P → Bool
  | .v x => one1 x
  | .sl _ _ _ => true
theorem RP.one {E : Nat → Nat} {w : World} {x : P} {v : Value} (h : RP E w x v) (h1 : x.one = true) : one1 v = true := by
  cases h with
  | v => exact h1
  | nil => rfl
  | sl => rfl
theorem RP.row {E : Nat → Nat} {w : World} {k n : Nat} {cs : List P} {v : Value} (h : RP E w (.sl k n cs) v) : (v = .slice none 0 0 ∧ n = 0 ∧ cs = []) ∨ ∃ b o cap us, v = .slice (some ⟨b, o, none⟩) n cap ∧ n ≤ cap ∧ o + n * k ≤ E b ∧ b < w.heap.size ∧ cs.length = n * k ∧ RPs E w cs us ∧
    ∀ j u, us[j]? = some u → w.cell? ⟨b, o + j, none⟩ = some u := by
  cases h with
  | nil => exact .inl ⟨rfl, rfl, rfl⟩
  | @sl k n cs b o cap u hl hc hE hb hu h =>
    refine .inr ⟨b, o, cap, (List.range (n * k)).map u, rfl, hc, hE, hb, hl, ⟨by simp [hl], fun j c x hj hx => ?_⟩, fun j x hx => ?_⟩
    · rw [List.getElem?_map, Option.map_eq_some_iff] at hx
      obtain ⟨i, hi, e⟩ := hx
      have := (List.getElem?_eq_some_iff.1 hi)
      obtain ⟨hlt, he⟩ := this
      rw [List.getElem_range] at he
      subst he; subst e; exact h j c hj
    · rw [List.getElem?_map, Option.map_eq_some_iff] at hx
      obtain ⟨i, hi, e⟩ := hx
      obtain ⟨hlt, he⟩ := (List.getElem?_eq_some_iff.1 hi)
      rw [List.getElem_range] at he
      subst he; subst e
      exact hu j (by simpa using hlt)
theorem RPs.sl {E : Nat → Nat} {w : World} {k n b o cap : Nat} {cs : List P} {us : List Value} (h : RPs E w cs us) (hl : cs.length = n * k) (hc : n ≤ cap) (hE : o + n * k ≤ E b) (hb : b < w.heap.size) (hu : ∀ j u, us[j]? = some u → w.cell? ⟨b, o + j, none⟩ = some u) :
    RP E w (.sl k n cs) (.slice (some ⟨b, o, none⟩) n cap) := by
  have hlen := h.1
  refine .sl (fun j => us.getD j undef) hl hc hE hb (fun j hj => ?_) (fun j c hj => ?_)
  · have hjl : j < us.length := by omega
    rw [hu j us[j] (List.getElem?_eq_getElem hjl)]; simp [List.getD, List.getElem?_eq_getElem hjl]
  · have hjl : j < us.length := by have := (List.getElem?_eq_some_iff.1 hj).1; omega
    have := h.2 j c us[j] hj (List.getElem?_eq_getElem hjl)
    simpa [List.getD, List.getElem?_eq_getElem hjl] using this
theorem RPs.one {E : Nat → Nat} {w : World} {cs : List P} {us : List Value} (h : RPs E w cs us) (h1 : ∀ c ∈ cs, c.one = true) : ∀ u ∈ us, one1 u = true := fun u hu => by
  obtain ⟨j, hj⟩ := List.getElem?_of_mem hu
  have hjl : j < cs.length := by have := (List.getElem?_eq_some_iff.1 hj).1; have := h.1; omega
  exact (h.2 j _ u (List.getElem?_eq_getElem hjl) hj).one (h1 _ (List.getElem_mem _))
theorem RPs.append {E : Nat → Nat} {w : World} {cs ds : List P} {us vs : List Value} (h : RPs E w cs us) (k : RPs E w ds vs) : RPs E w (cs ++ ds) (us ++ vs) := by
  refine ⟨by simp [h.1, k.1], fun j c u hj hu => ?_⟩
  rw [List.getElem?_append] at hj hu
  have hl := h.1
  by_cases hlt : j < cs.length
  · rw [if_pos hlt] at hj; rw [if_pos (by omega)] at hu; exact h.2 j c u hj hu
  · rw [if_neg hlt] at hj; rw [if_neg (by omega)] at hu; rw [hl] at hj; exact k.2 _ c u hj hu
theorem run_app3 {Pg : Program} {w : World} {t ty e k bytes : Nat} {z v : Value} {n m c : Nat} {xs news : List Value} {a : Addr} (ht : Pg.underlying t = some (.slice e)) (hi : (Pg.info? e).map (fun i => (i.zero, i.size, i.bytes)) = some (some z, k, bytes)) (hz : z.cells.size = k)
    (hk : 0 < k) (h : w.ownsRow 0 e k v n xs) (hl : news.length = m * k) (hn : ∀ j u, news[j]? = some u → w.cell? (a.add j) = some u) (h1 : ∀ u ∈ news, one1 u = true) (hmax : n + m ≤ 9223372036854775807) (hby : (n + m) * bytes ≤ 140737488355328) :
    ∃ v' w', (Builtin.append_ #[t, t] ty #[v, .slice (some a) m c]).run Pg w = .ok v' w' ∧ w'.ownsRow 0 e k v' (n + m) (xs ++ news) ∧ w'.os = w.os ∧ w'.tape = w.tape ∧ w'.output = w.output ∧ w.heap.size ≤ w'.heap.size ∧
      ((v'.ownBlock = v.ownBlock ∧ ∀ b, b < w.heap.size → v.ownBlock ≠ some b → w'.heap[b]? = w.heap[b]?) ∨ (v'.ownBlock = some w.heap.size ∧ ∀ b, b < w.heap.size → w'.heap[b]? = w.heap[b]?)) := by
  obtain ⟨i, hi0, hiz, his, hib⟩ : ∃ i, Pg.info? e = some i ∧ i.zero = some z ∧ i.size = k ∧ i.bytes = bytes := by
    cases hx : Pg.info? e with
    | none => rw [hx] at hi; cases hi
    | some i => rw [hx] at hi; simp only [Option.map_some, Option.some.injEq, Prod.mk.injEq] at hi; exact ⟨i, rfl, hi.1, hi.2.1, hi.2.2⟩
  have hmx : n + m ≤ maxLen := by unfold maxLen; omega
  have hone : ∀ u ∈ news, u.oneCell' = true := fun u hu => by rw [← one1_eq]; exact h1 u hu
  obtain ⟨v', w', hr, ho, hg, _, hat⟩ := run_append_own_at (P := Pg) (ty := ty) w 0 t e i z k bytes ht hi0 hiz his hib hz hk v n xs h a m c news hl hn hone hmx hby (Nat.zero_le _)
  refine ⟨v', w', hr, ho, hg.os, hg.tape, hg.output, hg.size, ?_⟩
  by_cases e1 : v'.ownBlock = v.ownBlock
  · exact .inl ⟨e1, fun b hb hne => hg.block b hb (fun e => hne e.symm)⟩
  · have e2 : v'.ownBlock = some w.heap.size := by rcases hat with h | h; exact absurd h e1; exact h
    refine .inr ⟨e2, fun b hb => ?_⟩
    rcases h.2 with ⟨rfl, rfl⟩ | ⟨q, cap, cr, rfl, hq, hgq, hnc, hcm, hcs, htk⟩
    · exact hg.block b hb (fun e => by cases e)
    · by_cases hroom : n + m ≤ cap
      · have hfit : n * i.size + news.length ≤ cr.size := by rw [hl, hcs, his, ← Nat.add_mul]; exact Nat.mul_le_mul_right _ hroom
        have hr2 := run_append_room (P := Pg) w t ty e i ht hi0 q n cap cr hgq a m c news (by rw [his]; exact hl) hn hone hroom hfit
        rw [hr] at hr2
        cases hr2
        exact absurd rfl e1
      · have holds : ∀ j u, xs[j]? = some u → w.cell? ((⟨q, 0, none⟩ : Addr).add j) = some u := World.ownsRow.cells (g := q) h rfl
        have hr2 := run_append_grow (P := Pg) w t ty e i z ht hi0 hiz ⟨q, 0, none⟩ n cap xs (by rw [his]; exact h.1) holds a m c news (by rw [his]; exact hl) hn (by omega) (by omega) (growslice_fits (by omega) (by rw [hib]; exact hby))
        rw [hr] at hr2
        cases hr2
        exact heap_alloc_old w.drew _ b hb
theorem ownsRow.sl {w : World} {T k n : Nat} {v : Value} {us : List Value} {E : Nat → Nat} {cs : List P} (h : w.ownsRow 0 T k v n us) (hc : RPs E w cs us) (hE : ∀ b, v.ownBlock = some b → E b = n * k) : RP E w (.sl k n cs) v := by
  have hl := hc.1
  rw [h.1] at hl
  rcases h.2 with ⟨rfl, rfl⟩ | ⟨q, cap, cr, rfl, _, hg, hnc, _, hcs, htk⟩
  · have : cs = [] := List.eq_nil_of_length_eq_zero (by simpa using hl)
    subst this; exact .nil
  · have e := hE q rfl
    refine hc.sl hl hnc (by omega) (Array.getElem?_eq_some_iff.1 hg).1 fun j u hj => ?_
    rw [Nat.zero_add]
    unfold World.cell?
    simp only [hg]
    have hjl := (List.getElem?_eq_some_iff.1 hj).1
    rw [← htk, List.getElem?_take] at hj
    split at hj
    · simpa using hj
    · cases hj
/-- the right to append: a slice that grew -/
theorem Rs.tokApp {g : Gh} {w w' : World} {H : List Ob} {i T k m n n' : Nat} {v' : Value} {xs news : List Value} (h : Rs0 g w H) (hi : H[i]? = some (.tok T k m)) (ho : w.ownsRow 0 T k (g.h i) n xs) (ho' : w'.ownsRow 0 T k v' n' (xs ++ news)) (hnn : n ≤ n')
    (hos : w'.os = w.os) (htp : w'.tape = w.tape) (hou : w'.output = w.output) (hsz : w.heap.size ≤ w'.heap.size)
    (hat : (v'.ownBlock = (g.h i).ownBlock ∧ ∀ b, b < w.heap.size → (g.h i).ownBlock ≠ some b → w'.heap[b]? = w.heap[b]?) ∨ (v'.ownBlock = some w.heap.size ∧ ∀ b, b < w.heap.size → w'.heap[b]? = w.heap[b]?)) :
    Rs w g H ⟨g.β, (match v'.ownBlock with | some b => upd g.E b (n' * k) | none => g.E), upd g.h i v'⟩ w' (H.set i (.tok T k (m + 1))) ∧ ∀ b, v'.ownBlock = some b → (match v'.ownBlock with | some b => upd g.E b (n' * k) | none => g.E) b = n' * k := by
  have hil := (List.getElem?_eq_some_iff.1 hi).1
  have hown : ∀ b, own g H i b ↔ (g.h i).ownBlock = some b := fun b => by unfold own; rw [hi]; exact Iff.rfl
  obtain ⟨n0, us, ho0, hE0⟩ := h.ob i _ hi
  have hn0 : ∀ b, (g.h i).ownBlock = some b → n0 = n := fun b hb => by
    rcases ho.2 with ⟨e, _⟩ | ⟨q, cap, cr, e, _⟩
    · rw [e] at hb; cases hb
    · rcases ho0.2 with ⟨e', _⟩ | ⟨q', cap', cr', e', _⟩
      · rw [e] at e'; cases e'
      · rw [e] at e'; cases e'; rfl
  have hEn : ∀ b, (g.h i).ownBlock = some b → g.E b = n * k := fun b hb => by rw [hE0 b hb, hn0 b hb]
  have hb2 : ∀ b, v'.ownBlock = some b → (match v'.ownBlock with | some b => upd g.E b (n' * k) | none => g.E) b = n' * k := fun b hb => by rw [hb]; exact upd_eq _ _ _
  have hb3 : ∀ b, v'.ownBlock ≠ some b → (match v'.ownBlock with | some b => upd g.E b (n' * k) | none => g.E) b = g.E b := fun b hb => by
    cases e : v'.ownBlock with
    | none => rfl
    | some q => exact upd_ne fun h => hb (by rw [e, h])
  refine ⟨Rs.one h hil hos htp hou hsz (fun b hl hn => ?_) (fun b o hb hlt => ?_) (fun b hb => ?_) (fun j hj => ⟨rfl, upd_ne hj⟩) (fun hl => by rw [hi] at hl; exact hl.elim) (fun m' hm => ?_) (fun b hb => ?_) (fun hmo => ?_), hb2⟩
  · have hn' : (g.h i).ownBlock ≠ some b := fun e => hn ((hown b).2 e)
    rcases hat with ⟨e, hk⟩ | ⟨e, hk⟩
    · exact ⟨hk b hl hn', hb3 b (by rw [e]; exact hn')⟩
    · exact ⟨hk b hl, hb3 b (by rw [e]; intro e2; cases e2; omega)⟩
  · have hb := (hown b).1 hb
    replace hlt : o < n * k := by rw [← hEn b hb]; exact hlt
    rcases hat with ⟨e, hk⟩ | ⟨e, hk⟩
    · rcases ho.2 with ⟨e1, _⟩ | ⟨q, cap, cr, e1, _, hg, _, _, _, htk⟩
      · rw [e1] at hb; cases hb
      · rw [e1] at hb e; cases hb
        rcases ho'.2 with ⟨e2, _⟩ | ⟨q', cap', cr', e2, _, hg', _, _, _, htk'⟩
        · rw [e2] at e; cases e
        · rw [e2] at e; cases e
          unfold World.cell?
          simp only [hg, hg']
          have h1 : cr.toList[o]? = xs[o]? := by rw [← htk, List.getElem?_take, if_pos hlt]
          have h2 : cr'.toList[o]? = (xs ++ news)[o]? := by rw [← htk', List.getElem?_take, if_pos (Nat.lt_of_lt_of_le hlt (Nat.mul_le_mul_right _ hnn))]
          rw [List.getElem?_append_left (by rw [ho.1]; exact hlt)] at h2
          simpa using h2.trans h1.symm
    · exact World.cell?_of_block (hk b (own_lt0 h ((hown b).2 hb)))
  · have hb := (hown b).1 hb
    by_cases e : v'.ownBlock = some b
    · show g.E b ≤ (match v'.ownBlock with | some b => upd g.E b (n' * k) | none => g.E) b
      rw [hb2 b e, hEn b hb]; exact Nat.mul_le_mul_right _ hnn
    · exact Nat.le_of_eq (hb3 b e).symm
  · rw [hi] at hm; cases hm; exact ⟨_, rfl, Nat.le_succ _, fun e => by omega⟩
  · have hb : (upd g.h i v' i).ownBlock = some b := hb
    rw [upd_eq] at hb
    rcases hat with ⟨e, hk⟩ | ⟨e, hk⟩
    · exact .inl ((hown b).2 (by rw [← e]; exact hb))
    · rw [e] at hb; cases hb; exact .inr (Nat.le_refl _)
  · refine ⟨n', xs ++ news, ?_, fun b hb => ?_⟩
    · show w'.ownsRow 0 T k (upd g.h i v' i) n' _
      rw [upd_eq]; exact ho'
    · have hb : (upd g.h i v' i).ownBlock = some b := hb
      rw [upd_eq] at hb; exact hb2 b hb
/-- the right to append, anew: a slice in a new block -/
theorem Rs.tokNew {g : Gh} {w : World} {H : List Ob} {i T k n : Nat} {us : List Value} (h : Rs0 g w H) (hi : H[i]? = some .dead) (hl : us.length = n * k) (hm : n ≤ maxLen) :
    Rs w g H ⟨g.β, upd g.E w.heap.size (n * k), upd g.h i (.slice (some ⟨w.heap.size, 0, none⟩) n n)⟩ (w.alloc (.cells us.toArray T)) (H.set i (.tok T k 0)) := by
  have hil := (List.getElem?_eq_some_iff.1 hi).1
  have hb := alloc_below w (.cells us.toArray T)
  have hno : ∀ b, ¬ own g H i b := fun b ho => by unfold own at ho; rw [hi] at ho; exact ho
  refine Rs.one h hil hb.os hb.tape hb.output hb.size (fun b hl _ => ⟨hb.block b hl, upd_ne (by omega)⟩) (fun b _ ho => absurd ho (hno b)) (fun b ho => absurd ho (hno b)) (fun j hj => ⟨rfl, upd_ne hj⟩) (fun hl => by rw [hi] at hl; exact hl.elim)
    (fun m hm => by rw [hi] at hm; cases hm) (fun b ho => ?_) (fun hmo => ?_)
  · have e : (upd g.h i (.slice (some ⟨w.heap.size, 0, none⟩) n n) i).ownBlock = some b := ho
    rw [upd_eq] at e; cases e; exact .inr (Nat.le_refl _)
  · refine ⟨n, us, ?_, fun b hb => ?_⟩
    · show World.ownsRow _ 0 T k (upd g.h i _ i) n us
      rw [upd_eq]
      exact ⟨hl, .inr ⟨w.heap.size, n, _, rfl, Nat.zero_le _, alloc_blk w us T, Nat.le_refl _, hm, by simpa using hl, by rw [List.take_of_length_le (by simp [hl])]⟩⟩
    · have e : (upd g.h i (.slice (some ⟨w.heap.size, 0, none⟩) n n) i).ownBlock = some b := hb
      rw [upd_eq] at e; cases e; exact upd_eq _ _ _
theorem Rs.tokNil {g : Gh} {w : World} {H : List Ob} {i T k : Nat} (h : Rs0 g w H) (hi : H[i]? = some .dead) : Rs w g H ⟨g.β, g.E, upd g.h i (.slice none 0 0)⟩ w (H.set i (.tok T k 0)) := by
  have hil := (List.getElem?_eq_some_iff.1 hi).1
  have hno : ∀ b, ¬ own g H i b := fun b ho => by unfold own at ho; rw [hi] at ho; exact ho
  refine Rs.one h hil rfl rfl rfl (Nat.le_refl _) (fun b _ _ => ⟨rfl, rfl⟩) (fun b _ ho => absurd ho (hno b)) (fun b ho => absurd ho (hno b)) (fun j hj => ⟨rfl, upd_ne hj⟩) (fun hl => by rw [hi] at hl; exact hl.elim)
    (fun m hm => by rw [hi] at hm; cases hm) (fun b ho => ?_) (fun hmo => ?_)
  · have e : (upd g.h i (.slice none 0 0) i).ownBlock = some b := ho
    rw [upd_eq] at e; cases e
  · refine ⟨0, [], ?_, fun b hb => ?_⟩
    · show World.ownsRow _ 0 T k (upd g.h i _ i) 0 []
      rw [upd_eq]; exact ⟨by simp, .inl ⟨rfl, rfl⟩⟩
    · have e : (upd g.h i (.slice none 0 0) i).ownBlock = some b := hb
      rw [upd_eq] at e; cases e
end Go.Dp
