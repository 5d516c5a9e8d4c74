/- The arguments of a law, opened into deep data. Any seat. -/
import Derived.Test.YtpcgfeckokgbfaaGreatDoorJs
import Derived.ProofKit
import Derived.Deep.Slices
import Derived.Deep.Strs
import Derived.Lib.SmallJoins
import Derived.Carry
set_option linter.all false
namespace Go.Dp
open Go Go.Mi Go.RowKit
/-- where everything that there is stays as it is -/
def bsz (w : World) (b : Nat) : Nat := match w.heap[b]? with | some (.cells c _ _) => c.size | _ => 0
def g0 (w : World) : Gh := ⟨fun _ => 0, bsz w, fun _ => .bool false⟩
theorem bsz_of {w : World} {b o : Nat} {v : Value} (h : w.cell? ⟨b, o, none⟩ = some v) : o < bsz w b ∧ b < w.heap.size := by
  unfold World.cell? at h
  unfold bsz
  simp only at h ⊢
  cases hb : w.heap[b]? with
  | none => rw [hb] at h; cases h
  | some x =>
    rw [hb] at h
    refine ⟨?_, (Array.getElem?_eq_some_iff.1 hb).1⟩
    cases x <;> simp at h ⊢
    obtain ⟨h1, _⟩ := Array.getElem?_eq_some_iff.1 h
    exact h1
theorem rs_start {w : World} (h : GlA (g0 w) w) : Rs0 (g0 w) w [] := ⟨h, fun i o ho => by simp at ho, fun i j b ho => by simp [own, ownO] at ho⟩
theorem RPs_vals {E : Nat → Nat} {w : World} (vs : List Value) : RPs E w (vs.map .v) vs := by
  refine ⟨by simp, fun j c u h1 h2 => ?_⟩
  rw [List.getElem?_map, h2] at h1
  simp at h1; subst h1; exact .v
theorem RPs_nil {E : Nat → Nat} {w : World} : RPs E w [] [] := ⟨rfl, fun j c u h _ => by simp at h⟩
theorem RPs_cons {E : Nat → Nat} {w : World} {p : P} {v : Value} {ps : List P} {vs : List Value} (h : RP E w p v) (k : RPs E w ps vs) : RPs E w (p :: ps) (v :: vs) := by
  refine ⟨by simp [k.1], fun j c u h1 h2 => ?_⟩
  cases j with
  | zero => simp at h1 h2; subst h1; subst h2; exact h
  | succ j => simp at h1 h2; exact k.2 j c u h1 h2
theorem RPs_rvs {g : Gh} {w : World} {H : List Ob} : ∀ {ps : List P} {vs : List Value}, RPs g.E w ps vs → RVs g w H (ps.map .p) vs
  | [], [], _ => .nil
  | [], _ :: _, h => by have := h.1; simp at this
  | _ :: _, [], h => by have := h.1; simp at this
  | p :: ps, v :: vs, h => .cons (.p (h.2 0 p v rfl rfl)) (RPs_rvs ⟨by have := h.1; simpa using this, fun j c u h1 h2 => h.2 (j + 1) c u (by simpa using h1) (by simpa using h2)⟩)
section
variable {H : Type} {enc : TypeId × Value → H} {Pg : Program} {w : World} {base b0 : Nat} {spare : Nat → Bool} {held : Bool} {r : Reach}
theorem choose_lt {α : Type} {p : Nat → α → Prop} : ∀ m : Nat, (∀ i, i < m → ∃ x, p i x) → ∃ xs : List α, xs.length = m ∧ ∀ i x, xs[i]? = some x → p i x
  | 0, _ => ⟨[], rfl, fun i x h => by simp at h⟩
  | m + 1, h => by
    obtain ⟨xs, hl, hx⟩ := choose_lt m fun i hi => h i (Nat.lt_succ_of_lt hi)
    obtain ⟨y, hy⟩ := h m (Nat.lt_succ_self m)
    refine ⟨xs ++ [y], by simp [hl], fun i x hix => ?_⟩
    by_cases hi : i < m
    · rw [List.getElem?_append_left (by omega)] at hix; exact hx i x hix
    · have hlt : i < (xs ++ [y]).length := (List.getElem?_eq_some_iff.1 hix).1
      have hi' : i = m := by simp [hl] at hlt; omega
      subst hi'
      rw [List.getElem?_append_right (by omega)] at hix
      simp [hl] at hix; exact hix ▸ hy
/-- a slice, element by element -/
theorem rp_of {α : Type} {t e : TypeId} {k n : Nat} {en : α → List P} {v : Value} {x : DataW H × List MemPlace} (ht : Pg.underlying t = some (.slice e)) (hk : Pg.cellsOf e = k) (hl : ∀ y, (en y).length = k) (hp : 0 < k)
    (hel : ∀ n cs x, DataW.trod enc Pg w base spare held n e cs = some x → ∃ y : α, RPs (bsz w) w (en y) cs)
    (hc : Cell.okWide Pg w r b0 t v) (hsz : ∀ a c, v = .slice (some a) 0 c → a.block < w.heap.size ∧ a.off ≤ bsz w a.block) (h : DataW.trod enc Pg w base spare held n t [v] = some x) : ∃ xs, RP (bsz w) w (sl k en xs) v := by
  subst hk
  rcases Go.Deep.open_slice ht h with ⟨hcs, _⟩ | ⟨a, len, cap, m, n', D, Pl, hcs, _, hle, _, hm, _, hx⟩
  · simp only [List.cons.injEq, and_true] at hcs; subst hcs
    exact ⟨[], .nil⟩
  · simp only [List.cons.injEq, and_true] at hcs; subst hcs
    have hspot : a.spot = none := by
      simp only [Cell.okWide, ht, Cell.ok] at hc
      exact hc.2.2.2.1
    obtain ⟨ab, ao, asp⟩ := a
    simp only at hspot; subst hspot
    obtain ⟨xs, hxl, hxs⟩ := choose_lt (p := fun i y => ∃ cs', w.cells? base (Addr.add ⟨ab, ao, none⟩ (i * Pg.cellsOf e)) (Pg.cellsOf e) = some cs' ∧ RPs (bsz w) w (en y) cs') len fun i hi => by
      obtain ⟨cs', h1, h2⟩ := hx i (by subst hm; split <;> omega)
      obtain ⟨y, hy⟩ := hel _ _ _ h2
      exact ⟨y, cs', h1, hy⟩
    have cell : ∀ i q, i < len → q < Pg.cellsOf e → ∃ y v, xs[i]? = some y ∧ w.cell? ⟨ab, ao + (i * Pg.cellsOf e + q), none⟩ = some v ∧ ∀ c, (en y)[q]? = some c → RP (bsz w) w c v := fun i q hi hq => by
      obtain ⟨y, hy⟩ : ∃ y, xs[i]? = some y := ⟨_, List.getElem?_eq_getElem (by omega)⟩
      obtain ⟨cs', h1, h2⟩ := hxs i y hy
      obtain ⟨_, hlen, hcell⟩ := World.cells?_some h1
      have hqv : q < cs'.length := by omega
      have := hcell q hq
      rw [Go.WideShapes.add_plain, Go.WideShapes.add_plain] at this
      refine ⟨y, cs'[q], hy, ?_, fun c hc => h2.2 q c _ hc (List.getElem?_eq_getElem hqv)⟩
      rw [← Nat.add_assoc]
      rw [List.getElem?_eq_getElem hqv] at this
      simpa using this
    refine ⟨xs, ?_⟩
    unfold sl
    rw [hxl]
    by_cases h0 : len = 0
    · subst h0
      have hx0 : xs = [] := List.eq_nil_of_length_eq_zero hxl
      subst hx0
      have hb := hsz ⟨ab, ao, none⟩ cap rfl
      exact .sl (fun _ => undef) (by simp) (Nat.zero_le _) (by simpa using hb.2) hb.1 (fun j hj => by simp at hj) (fun j c hj => by simp at hj)
    · have hfl : (xs.flatMap en).length = len * Pg.cellsOf e := by rw [flat_len hl, hxl]
      have split : ∀ j, j < len * Pg.cellsOf e → j / Pg.cellsOf e < len ∧ j % Pg.cellsOf e < Pg.cellsOf e ∧ j / Pg.cellsOf e * Pg.cellsOf e + j % Pg.cellsOf e = j := fun j hj =>
        ⟨Nat.div_lt_of_lt_mul (by rw [Nat.mul_comm]; exact hj), Nat.mod_lt _ hp, by rw [Nat.mul_comm]; exact Nat.div_add_mod j _⟩
      have hE : ∀ j, j < len * Pg.cellsOf e → ao + j < bsz w ab ∧ ab < w.heap.size := fun j hj => by
        obtain ⟨s1, s2, s3⟩ := split j hj
        obtain ⟨y, v, _, hv, _⟩ := cell _ _ s1 s2
        rw [s3] at hv
        exact bsz_of hv
      have hpos : 0 < len * Pg.cellsOf e := Nat.mul_pos (by omega) hp
      refine .sl (fun j => (w.cell? ⟨ab, ao + j, none⟩).getD undef) hfl hle ?_ (hE 0 hpos).2 (fun j hj => ?_) (fun j c hj => ?_)
      · have := (hE (len * Pg.cellsOf e - 1) (by omega)).1; omega
      · obtain ⟨s1, s2, s3⟩ := split j hj
        obtain ⟨y, v, _, hv, _⟩ := cell _ _ s1 s2
        rw [s3] at hv
        rw [hv]; rfl
      · have hj' : j < len * Pg.cellsOf e := by rw [← hfl]; exact (List.getElem?_eq_some_iff.1 hj).1
        obtain ⟨s1, s2, s3⟩ := split j hj'
        obtain ⟨y, v, hy, hv, hr⟩ := cell _ _ s1 s2
        rw [s3] at hv
        rw [hv]
        refine hr c ?_
        have := flat_el hl hy
        rw [← this, List.getElem?_take, if_pos s2, List.getElem?_drop, s3]
        exact hj
theorem fld {fs : Array Field} {xs : List (DataW H × List MemPlace)} {n : Nat} {cs : List Value} (hlen : xs.length = fs.size) (hf : ∀ (i : Nat) (f : Field), fs[i]? = some f → DataW.trod enc Pg w base spare held n f.type ((cs.drop f.offset).take (Pg.cellsOf f.type)) = xs[i]?) (i ty off k : Nat) (hi : (fs[i]?).map (fun f => (f.type, f.offset)) = some (ty, off)) (hk : Pg.cellsOf ty = k) :
    ∃ y, DataW.trod enc Pg w base spare held n ty ((cs.drop off).take k) = some y := by
  cases hx : fs[i]? with
  | none => rw [hx] at hi; cases hi
  | some f =>
    rw [hx] at hi
    simp only [Option.map_some, Option.some.injEq, Prod.mk.injEq] at hi
    obtain ⟨rfl, rfl⟩ := hi
    have hlt : i < xs.length := by rw [hlen]; exact (Array.getElem?_eq_some_iff.1 hx).1
    subst hk
    exact ⟨xs[i], by rw [hf i f hx, List.getElem?_eq_getElem hlt]⟩
theorem rowAt_le {fits : TypeId → Bool} {d : Nat} {e : TypeId} {count off n : Nat} (h : rowAt Pg fits d e count off n = true) : off ≤ count * Pg.cellsOf e := by
  cases d with
  | zero => simp [rowAt] at h
  | succ d =>
    simp only [rowAt] at h
    split at h
    · cases h
    rename_i hs
    have hd := Nat.div_add_mod off (Pg.cellsOf e)
    have hm := Nat.mod_lt off (Nat.pos_of_ne_zero hs)
    rw [Bool.or_eq_true] at h
    rcases h with h | h
    · simp only [Bool.and_eq_true, beq_iff_eq, decide_eq_true_eq] at h
      have : Pg.cellsOf e * (off / Pg.cellsOf e) ≤ Pg.cellsOf e * count := Nat.mul_le_mul_left _ (by omega)
      rw [Nat.mul_comm count]; omega
    · rw [Bool.and_eq_true, decide_eq_true_eq] at h
      have : Pg.cellsOf e * (off / Pg.cellsOf e + 1) ≤ Pg.cellsOf e * count := Nat.mul_le_mul_left _ (by omega)
      rw [Nat.mul_add, Nat.mul_one] at this
      rw [Nat.mul_comm count]; omega
theorem liesAt_le : ∀ {d : Nat} {e : TypeId} {count off : Nat} {u : TypeId} {n : Nat}, liesAt Pg d e count off u n = true → off ≤ count * Pg.cellsOf e
  | 0, _, _, _, _, _, h => by simp [liesAt] at h
  | d + 1, e, count, off, u, n, h => by
    simp only [liesAt, Bool.or_eq_true] at h
    rcases h with h | h
    · exact rowAt_le h
    · split at h
      · exact liesAt_le h
      · cases h
/-- where a slice of no elements lies -/
theorem ok_size {t e : TypeId} {v : Value} {k : Nat} (ht : Pg.underlying t = some (.slice e)) (hc : Cell.okWide Pg w r b0 t v) : ∀ a c, v = .slice (some a) k c → a.block < w.heap.size ∧ a.off ≤ bsz w a.block := fun a c he => by
  subst he
  simp only [Cell.okWide, ht, Cell.ok, World.has] at hc
  obtain ⟨_, _, _, _, row, cells, hsh, hla⟩ := hc
  have hle := Nat.le_trans (liesAt_le hla) (Nat.div_mul_le_self _ _)
  unfold World.shape? at hsh
  unfold bsz
  cases hb : w.heap[a.block]? with
  | none => rw [hb] at hsh; cases hsh
  | some x =>
    refine ⟨(Array.getElem?_eq_some_iff.1 hb).1, ?_⟩
    rw [hb] at hsh
    cases x <;> simp at hsh ⊢
    obtain ⟨_, rfl⟩ := hsh
    exact hle
end
end Go.Dp
