/- Closed calls: operations that ask for types. -/
import Derived.Test.YtpcgfeckokgbfaaGreatDoorJk
import Derived.Lib.ConvBytes
set_option linter.all false
namespace Go.Dp
open Go Go.Mi Go.RowKit
section
variable {β : Type} {b : β} {Pg : Program} {ty : TypeId} {f : Fm} {H : List Ob} {kp : V → M β} {k : K β}
theorem evo_ok {x : Option Operand} {k : Option Int → M β} (h : evo f x k = .ok b) : (x = none ∧ k none = .ok b) ∨ ∃ y i n, x = some y ∧ evG f.fv y = some (.p (.v (.int i n))) ∧ k (some n) = .ok b := by
  cases x with
  | none => exact .inl ⟨rfl, h⟩
  | some y =>
    obtain ⟨d, h1, h2⟩ := ev_ok (show ev f y (fun d => d.asI fun _ n => k (some n)) = .ok b from h)
    obtain ⟨i, n, rfl, h3⟩ := asI_ok h2
    exact .inr ⟨y, i, n, rfl, h1, h3⟩
theorem sliced_ok {T : TypeId} {q : Nat × Nat × Nat} (h : semP Pg (sliced T) = some q) :
    (∃ e, semP Pg (underlying T) = some (.slice e) ∧ semP Pg (sizeOf e) = some q.2.1 ∧ q.1 = 0) ∨ (∃ e, semP Pg (underlying T) = some (.array q.2.2 e) ∧ semP Pg (sizeOf e) = some q.2.1 ∧ q.1 = 1) ∨ (semP Pg (underlying T) = some .string ∧ q.1 = 2) := by
  obtain ⟨u, h1, h2⟩ := semP_bind h
  split at h2
  · obtain ⟨z, h3, h4⟩ := semP_bind h2
    cases semP_pure h4
    exact .inl ⟨_, h1, h3, rfl⟩
  · obtain ⟨z, h3, h4⟩ := semP_bind h2
    cases semP_pure h4
    exact .inr (.inl ⟨_, h1, h3, rfl⟩)
  · cases semP_pure h2
    exact .inr (.inr ⟨h1, rfl⟩)
  · exact (stuck_no h2).elim
/-- what has been found of the bounds -/
def BO (ρ : Operand → Option V) (x : Option Operand) (a : Option Int) : Prop := (x = none ∧ a = none) ∨ ∃ y i n, x = some y ∧ ρ y = some (.p (.v (.int i n))) ∧ a = some n
theorem bd_of {ρ : Operand → Option V} {lo hi mx : Option Operand} {a1 a2 a3 : Option Int} {n cap : Nat} (h1 : BO ρ lo a1) (h2 : BO ρ hi a2) (h3 : BO ρ mx a3) (hs : (a2.isSome || a3.isNone) = true) (t0 : 0 ≤ a1.getD 0) (t1 : a1.getD 0 ≤ a2.getD n) (t2 : a2.getD n ≤ a3.getD cap) (t3 : a3.getD cap ≤ (cap : Int)) : Bd ρ lo hi mx n cap (a1.getD 0) (a2.getD n) (a3.getD cap) := by
  refine ⟨?_, ?_, ?_, ?_, ?_, ?_, t0, t1, t2, t3⟩
  · rcases h1 with ⟨rfl, rfl⟩ | ⟨y, i, m, rfl, e, rfl⟩
    · intro y h; cases h
    · intro y' h; cases h; exact ⟨i, e⟩
  · rcases h1 with ⟨rfl, rfl⟩ | ⟨y, i, m, rfl, e, rfl⟩
    · intro _; rfl
    · intro h; cases h
  · rcases h2 with ⟨rfl, rfl⟩ | ⟨y, i, m, rfl, e, rfl⟩
    · intro y h; cases h
    · intro y' h; cases h; exact ⟨i, e⟩
  · rcases h2 with ⟨rfl, rfl⟩ | ⟨y, i, m, rfl, e, rfl⟩
    · intro _
      refine ⟨rfl, ?_⟩
      rcases h3 with ⟨rfl, rfl⟩ | ⟨y, i, m, rfl, e, rfl⟩
      · rfl
      · cases hs
    · intro h; cases h
  · rcases h3 with ⟨rfl, rfl⟩ | ⟨y, i, m, rfl, e, rfl⟩
    · intro y h; cases h
    · intro y' h; cases h; exact ⟨i, e⟩
  · rcases h3 with ⟨rfl, rfl⟩ | ⟨y, i, m, rfl, e, rfl⟩
    · intro _; rfl
    · intro h; cases h
theorem sCut_eq (t : ByteArray) {i j : Nat} (h1 : i ≤ j) (h2 : j ≤ t.size) : sCut t i j = t.extract i j := by
  unfold sCut
  rw [takeL_eq, dropL_eq]
  refine ByteArray.ext (Array.toList_inj.1 ?_)
  rw [ByteArray.data_extract, Array.toList_extract]
theorem sLen_eq (t : ByteArray) : sLen t = t.size := by unfold sLen; rw [lenL_eq]; exact Array.length_toList
theorem eSlice_ok {T : Nat} {x : Operand} {lo hi mx : Option Operand} (h : eSlice Pg f kp T x lo hi mx = .ok b) : Out Pg (.slice T x lo hi mx) ty f.fv H kp k b := by
  obtain ⟨a, hx, hz⟩ := ev_ok h; clear h; have h := hz; clear hz
  have hb : ∀ {y : Option Operand} {k : Option Int → M β}, evo f y k = .ok b → ∃ a, BO (evG f.fv) y a ∧ k a = .ok b := fun h => by
    rcases evo_ok h with ⟨e, h⟩ | ⟨y, i, n, e, e2, h⟩
    · exact ⟨none, .inl ⟨e, rfl⟩, h⟩
    · exact ⟨some n, .inr ⟨y, i, n, e, e2, rfl⟩, h⟩
  obtain ⟨a1, b1, hz⟩ := hb h; clear h; have h := hz; clear hz
  obtain ⟨a2, b2, hz⟩ := hb h; clear h; have h := hz; clear hz
  obtain ⟨a3, b3, hz⟩ := hb h; clear h; have h := hz; clear hz
  obtain ⟨q, hq, hz⟩ := ty_ok h; clear h; have h := hz; clear hz
  have hs := sliced_ok hq
  split at h
  · rename_i s _
    obtain ⟨e, hT, hE, _⟩ : ∃ e, semP Pg (underlying T) = some (.slice e) ∧ semP Pg (sizeOf e) = some s ∧ True := by
      rcases hs with ⟨e, h1, h2, _⟩ | ⟨e, _, _, h3⟩ | ⟨_, h3⟩
      · exact ⟨e, h1, h2, trivial⟩
      · cases h3
      · cases h3
    obtain ⟨hk, hz⟩ := ck_ok h; clear h; have h := hz; clear hz
    split at h
    · obtain ⟨hc, hz⟩ := ck_ok h; clear h; have h := hz; clear hz
      simp only [Bool.and_eq_true, iEq_eq, decide_eq_true_eq] at hc
      have hbd : Bd (evG f.fv) lo hi mx 0 0 (a1.getD 0) (a2.getD 0) (a3.getD 0) := bd_of (n := 0) (cap := 0) b1 b2 b3 hk (by omega) (by show a1.getD 0 ≤ a2.getD 0; omega) (by show a2.getD 0 ≤ a3.getD 0; omega) (by show a3.getD 0 ≤ 0; omega)
      exact .p (i_slNil (semP_run hT) (semP_run hE) hx hbd) h
    · rename_i i off n c
      obtain ⟨hc, hz⟩ := ck_ok h; clear h; have h := hz; clear hz
      simp only [Bool.and_eq_true, iLe_eq, decide_eq_true_eq] at hc
      exact .p (i_slA (semP_run hT) (semP_run hE) hx (bd_of (n := n) (cap := c) b1 b2 b3 hk hc.1.1.1 hc.1.1.2 hc.1.2 hc.2)) h
    · obtain ⟨q, hd, hz⟩ := ob_ok h; clear h; have h := hz; clear hz
      rcases bb_ok h with ⟨hm, hz⟩ | ⟨_, hz⟩
      · clear h
        obtain ⟨hc, h⟩ := ck_ok hz
        simp only [Bool.and_eq_true, iLe_eq, iEq_eq, decide_eq_true_eq] at hc hm
        obtain ⟨⟨⟨⟨c1, c2⟩, c3⟩, c4⟩, c5⟩ := hc
        have e1 := Nat.eq_of_beq_eq_true c1
        obtain ⟨q1, q2, q3⟩ := q
        simp only at e1 c2 c3 c4 c5 hm h
        subst e1
        have c5 : 0 < q2 := Nat.le_of_ble_eq_true c5
        have e3 : ∀ cap : Nat, a3.getD (cap : Int) = a1.getD 0 := fun cap => by
          cases a3 with
          | none => have hm : (-1 : Int) = a1.getD 0 := hm; omega
          | some m => exact hm
        refine .p (i_slZ (l := a1.getD 0) (n := q2) (semP_run hT) (semP_run hE) hx hd c5 fun cap hcap => ?_) h
        have c3' : a2.getD (q2 : Int) = a1.getD 0 := c3
        have c4' : a1.getD 0 ≤ (q2 : Int) := c4
        have := bd_of (n := q2) (cap := cap) b1 b2 b3 hk c2 (by rw [c3']; exact Int.le_refl _) (by rw [c3', e3]; exact Int.le_refl _) (by rw [e3]; omega)
        rw [c3', e3] at this
        exact this
      clear h; have h := hz; clear hz
      obtain ⟨hc, hz⟩ := ck_ok h; clear h; have h := hz; clear hz
      simp only [Bool.and_eq_true, iLe_eq, decide_eq_true_eq, takeL_eq, dropL_eq] at hc h
      obtain ⟨⟨⟨⟨⟨c1, c2⟩, c3⟩, c4⟩, c5⟩, c6⟩ := hc
      have e1 := Nat.eq_of_beq_eq_true c1
      obtain ⟨q1, q2, q3⟩ := q
      simp only at e1 c2 c3 c4 c5 c6 h
      subst e1
      refine .p (i_slF (n := q2) (semP_run hT) (semP_run hE) hx hd (fun cap hcap => ⟨a3.getD cap, bd_of (n := q2) (cap := cap) b1 b2 b3 hk c2 c3 ?_ ?_⟩) c4) h
      · cases a3 with
        | none => show a2.getD _ ≤ (cap : Int); have : a2.getD (Int.ofNat q2) ≤ (q2 : Int) := c4; exact Int.le_trans this (by omega)
        | some m => exact c5
      · cases a3 with
        | none => exact Int.le_refl _
        | some m => have : m ≤ (q2 : Int) := c6; show m ≤ _; omega
  · rename_i s n
    obtain ⟨e, hT, hE, _⟩ : ∃ e, semP Pg (underlying T) = some (.array n e) ∧ semP Pg (sizeOf e) = some s ∧ True := by
      rcases hs with ⟨e, _, _, h3⟩ | ⟨e, h1, h2, _⟩ | ⟨_, h3⟩
      · cases h3
      · exact ⟨e, h1, h2, trivial⟩
      · cases h3
    split at h
    · obtain ⟨hk, hz⟩ := ck_ok h; clear h; have h := hz; clear hz
      obtain ⟨hc, hz⟩ := ck_ok h; clear h; have h := hz; clear hz
      simp only [Bool.and_eq_true, iLe_eq, decide_eq_true_eq] at hc
      exact .p (i_slR (semP_run hT) (semP_run hE) hx (bd_of (n := n) (cap := n) b1 b2 b3 hk hc.1.1.1 hc.1.1.2 hc.1.2 hc.2)) h
    · cases h
  · have hT : semP Pg (underlying T) = some .string := by
      rename_i hn0 hn1
      obtain ⟨q1, q2, q3⟩ := q
      rcases hs with ⟨e, _, _, h3⟩ | ⟨e, _, _, h3⟩ | ⟨h1, _⟩
      · exact absurd (show (q1, q2, q3) = (0, q2, q3) by rw [show q1 = 0 from h3]) (hn0 q2 q3)
      · exact absurd (show (q1, q2, q3) = (1, q2, q3) by rw [show q1 = 1 from h3]) (hn1 q2 q3)
      · exact h1
    unfold sliceS at h
    split at h
    · rename_i t
      obtain ⟨hc, hz⟩ := ck_ok h; clear h; have h := hz; clear hz
      simp only [Bool.and_eq_true, iLe_eq, decide_eq_true_eq, sLen_eq] at hc h
      have b3' : mx = none := by
        rcases b3 with ⟨e, _⟩ | ⟨_, _, _, _, _, e⟩
        · exact e
        · cases e
      subst b3'
      have hle : a2.getD (Int.ofNat t.size) ≤ (t.size : Int) := hc.2
      have h0 : 0 ≤ a1.getD 0 := hc.1.1
      have h1 : a1.getD 0 ≤ a2.getD (Int.ofNat t.size) := hc.1.2
      rw [sCut_eq t (by omega) (by omega)] at h
      have hbd := bd_of (n := t.size) (cap := t.size) b1 b2 (.inl ⟨rfl, rfl⟩) (by simp) hc.1.1 hc.1.2 hle (Int.le_refl _)
      exact .p (i_sx (semP_run hT) hx hbd.hl hbd.hl0 hbd.hh (fun e => (hbd.hh0 e).1) (by unfold sx; rw [if_pos ⟨hc.1.1, hc.1.2, hle⟩]; rfl)) h
    · cases h
theorem eIndexAddr_ok {T : Nat} {x y : Operand} (h : eIndexAddr Pg f kp T x y = .ok b) : Out Pg (.indexAddr T x y) ty f.fv H kp k b := by
  obtain ⟨a, hx, hz⟩ := ev_ok h; clear h; have h := hz; clear hz
  obtain ⟨c, hy, hz⟩ := ev_ok h; clear h; have h := hz; clear hz
  obtain ⟨K, j, rfl, hz⟩ := asI_ok h; clear h; have h := hz; clear hz
  obtain ⟨q, hq, hz⟩ := ty_ok h; clear h; have h := hz; clear hz
  have hs := sliced_ok hq
  split at h
  · rename_i s _
    obtain ⟨e, hT, hE, _⟩ : ∃ e, semP Pg (underlying T) = some (.slice e) ∧ semP Pg (sizeOf e) = some s ∧ True := by
      rcases hs with ⟨e, h1, h2, _⟩ | ⟨e, _, _, h3⟩ | ⟨_, h3⟩
      · exact ⟨e, h1, h2, trivial⟩
      · cases h3
      · cases h3
    split at h
    · obtain ⟨hc, hz⟩ := ck_ok h; clear h; have h := hz; clear hz
      simp only [Bool.and_eq_true, iLe_eq, iLt_eq, decide_eq_true_eq] at hc
      exact .p (i_ixArr (semP_run hT) (semP_run hE) hx hy hc.1 hc.2) h
    · obtain ⟨q, hd, hz⟩ := ob_ok h; clear h; have h := hz; clear hz
      obtain ⟨hc, hz⟩ := ck_ok h; clear h; have h := hz; clear hz
      obtain ⟨q1, q2, q3⟩ := q
      simp only [Bool.and_eq_true, iLe_eq, iLt_eq, decide_eq_true_eq, takeL_eq, dropL_eq] at hc h
      have e1 := Nat.eq_of_beq_eq_true hc.1.1
      subst e1
      exact .p (i_index (semP_run hT) (semP_run hE) hx hy hd hc.1.2 hc.2 rfl) h
  · rename_i s n
    obtain ⟨e, hT, hE, _⟩ : ∃ e, semP Pg (underlying T) = some (.array n e) ∧ semP Pg (sizeOf e) = some s ∧ True := by
      rcases hs with ⟨e, _, _, h3⟩ | ⟨e, h1, h2, _⟩ | ⟨_, h3⟩
      · cases h3
      · exact ⟨e, h1, h2, trivial⟩
      · cases h3
    split at h
    · obtain ⟨hc, hz⟩ := ck_ok h; clear h; have h := hz; clear hz
      simp only [Bool.and_eq_true, iLe_eq, iLt_eq, decide_eq_true_eq] at hc
      exact .p (i_ixRef (semP_run hT) (semP_run hE) hx hy hc.1 hc.2) h
    · obtain ⟨hc, hz⟩ := ck_ok h; clear h; have h := hz; clear hz
      simp only [Bool.and_eq_true, iLe_eq, iLt_eq, decide_eq_true_eq, takeL_eq, dropL_eq, lenL_eq] at hc h
      exact .p (i_ixEl (semP_run hT) (semP_run hE) hx hy hc.1.1 hc.1.2 (Nat.eq_of_beq_eq_true hc.2)) h
    · cases h
  · cases h
end
end Go.Dp
namespace Go.Dp
open Go Go.Mi Go.RowKit
section
variable {β : Type} {b : β} {Pg : Program} {ty : TypeId} {f : Fm} {H : List Ob} {kp : V → M β} {k : K β}
theorem fieldOf_ok {T i : Nat} {q : Field} (h : semP Pg (fieldOf T i) = some q) : ∃ fs n, semP Pg (underlying T) = some (.struct fs) ∧ fs[i]? = some q ∧ semP Pg (sizeOf q.type) = some n ∧ n ≠ 0 := by
  obtain ⟨u, h1, h2⟩ := semP_bind h
  split at h2
  · split at h2
    · rename_i hq
      obtain ⟨n, h3, h4⟩ := semP_bind h2
      split at h4
      · exact (stuck_no h4).elim
      · rename_i hn
        cases semP_pure h4
        exact ⟨_, n, h1, hq, h3, hn⟩
    · exact (stuck_no h2).elim
  · exact (stuck_no h2).elim
theorem fieldAt_run {T i : Nat} {q : Field} (h : semP Pg (fieldOf T i) = some q) (w : World) (a : Addr) : (Instr.fieldAt T (.pointer (some a)) i).run Pg w = .ok (.pointer (some (a.add q.offset))) w := by
  obtain ⟨fs, n, h1, h2, h3, h4⟩ := fieldOf_ok h
  simp [Instr.fieldAt, Sem.run_bind, semP_run h1, h2, Instr.sureAddr, fieldPlace, semP_run h3, h4, Result.andThen]
theorem eFieldAddr_ok {T : Nat} {x : Operand} {i : Nat} (h : eFieldAddr Pg f kp T x i = .ok b) : Out Pg (.fieldAddr T x i) ty f.fv H kp k b := by
  obtain ⟨a, hx, h1⟩ := ev_ok h
  obtain ⟨q, hq, h2⟩ := ty_ok h1
  split at h2
  · exact .p (i_fieldR (fun w a => fieldAt_run hq w a) hx) h2
  · obtain ⟨hc, h3⟩ := ck_ok h2
    rw [lenL_eq] at hc; rw [dropL_eq] at h3
    exact .p (i_fieldE (fun w a => fieldAt_run hq w a) hx hc) h3
  · cases h2
theorem eField_ok {T : Nat} {x : Operand} {i : Nat} (h : eField Pg f kp T x i = .ok b) : Out Pg (.field T x i) ty f.fv H kp k b := by
  obtain ⟨a, hx, h1⟩ := ev_ok h
  obtain ⟨q, hq, h2⟩ := ty_ok h1
  obtain ⟨fs, n, u1, u2, _, _⟩ := fieldOf_ok hq
  split at h2
  · obtain ⟨ag, hag, h3⟩ := ty_ok h2
    rcases bb_ok h3 with ⟨rfl, h4⟩ | ⟨rfl, h4⟩
    · obtain ⟨m, hm, h5⟩ := ty_ok h4
      obtain ⟨hc, h6⟩ := ck_ok h5
      rw [lenL_eq] at hc; rw [takeL_eq, dropL_eq] at h6
      refine .p (.pure fun g w H e o ho _ _ hf => ?_) h6
      have e1 := hf x (by simp [Op.operands]) _ hx
      generalize he : e x = v at e1
      cases e1 with
      | @agg _ vs hcs =>
        refine ⟨.agg ((vs.drop q.offset).take m).toArray, ?_, .agg ((hcs.drop _).take _)⟩
        unfold execOp; rw [ho]
        simp [he, Instr.field, Sem.run_bind, semP_run u1, u2, asAgg, part, semP_run hag, semP_run hm, Result.andThen, List.extract_toArray]
    · obtain ⟨d, hd, h5⟩ := nth_ok h4
      exact .p (i_fieldV (fun cs v w hv => by simp [Instr.field, Sem.run_bind, semP_run u1, u2, asAgg, part, semP_run hag, hv, Result.andThen]) hx hd) h5
  · cases h2
theorem eIndexS_ok {T : Nat} {x y : Operand} {s : ByteArray} {K : IntKind} {j : Int} (hx : evG f.fv x = some (vS s)) (hy : evG f.fv y = some (.p (.v (.int K j)))) (h : eIndexS Pg kp T s j = .ok b) : Out Pg (.index T x y) ty f.fv H kp k b := by
  obtain ⟨u, hu, h1⟩ := ty_ok h
  split at h1
  · obtain ⟨hc, h2⟩ := ck_ok h1
    obtain ⟨c, hc2, h3⟩ := nth_ok h2
    rw [fN_eq] at h3
    rw [iLe_eq, decide_eq_true_eq] at hc
    refine .p (i_bx (z := (c.toNat : Int)) (semP_run hu) hx hy ?_) h3
    unfold bx
    have : s[j.toNat]? = some c := by
      rw [← hc2]
      show s[j.toNat]? = s.data.toList[j.toNat]?
      rw [Array.getElem?_toList]; rfl
    rw [if_pos hc, this]; rfl
  · cases h1
theorem eIndex_ok {T : Nat} {x y : Operand} (h : eIndex Pg f kp T x y = .ok b) : Out Pg (.index T x y) ty f.fv H kp k b := by
  obtain ⟨a, hx, h1⟩ := ev_ok h
  obtain ⟨c, hy, h2⟩ := ev_ok h1
  split at h2
  · exact eIndexS_ok hx hy h2
  · obtain ⟨va, ha, h3⟩ := ob_ok h2
    obtain ⟨vc, hc, h4⟩ := ob_ok h3
    obtain ⟨r, hr, h5⟩ := ob_ok h4
    obtain ⟨h6, h7⟩ := ck_ok h5
    refine .p ?_ h7
    rw [← ofV_one h6]
    exact .val2 hx hy ha hc rfl fun e o w ho _ e1 e2 => by unfold execOp; rw [ho]; simp only [e1, e2, Sem.run_bind, semP_run hr w, Result.andThen, Sem.run_pure]
theorem fill_fun {pl : List (Nat × Nat)} {pf : Nat → Option (Nat × Nat)} (hp : ∀ i x, pl[i]? = some x → pf i = some x) : ∀ (ps : List (Nat × Value)) (cs c : Array Value), Instr.fill (fun i => pl[i]?) cs ps = some c → Instr.fill pf cs ps = some c
  | [], _, _, h => h
  | (i, v) :: r, cs, c, h => by
    simp only [Instr.fill] at h ⊢
    cases hi : pl[i]? with
    | none => rw [hi] at h; cases h
    | some x =>
      rw [hi] at h; rw [hp i x hi]
      obtain ⟨off, size⟩ := x
      simp only at h ⊢
      split at h
      · cases h
      · rename_i hc
        rw [if_neg hc]; exact fill_fun hp r _ c h
theorem eBuild_ok {T : Nat} {parts : Array (Nat × Operand)} (h : eBuild Pg f kp T parts = .ok b) : Out Pg (.build T parts) ty f.fv H kp k b := by
  obtain ⟨z, hz, h1⟩ := zeroCs_ok h
  obtain ⟨pl, hpl, h2⟩ := ty_ok h1
  obtain ⟨ds, hds, h3⟩ := evl_ok h2
  obtain ⟨hc, h4⟩ := ck_ok h3
  obtain ⟨out, hout, h5⟩ := ob_ok h4
  have hb : ∀ (c : Array Value) (ps : List (Nat × Value)) (w : World), Instr.fill (fun i => pl[i]?) z.cells.toList.toArray ps = some c → (Instr.build T ps.toArray).run Pg w = .ok (.agg c) w := fun c ps w hf => by
    rw [Array.toArray_toList] at hf
    obtain ⟨u, hu, h6⟩ := semP_bind hpl
    split at h6
    · obtain ⟨arr, ha, h7⟩ := semP_bind h6
      cases semP_pure h7
      have hf' : Instr.fill (fun i => arr[i]?) z.cells ps = some c := by rw [← hf]; congr 1; funext i; simp
      have hrun := fun w' => semP_run ha w'
      simp only [Instr.build, Sem.run_bind, hz, semP_run hu, hrun, Result.andThen, hf', Sem.run_pure]
    · rename_i n e
      obtain ⟨s, hs, h7⟩ := semP_bind h6
      cases semP_pure h7
      have hf' : Instr.fill (fun i => some (i * s, s)) z.cells ps = some c := fill_fun (fun i x hx => by
        rw [List.getElem?_map] at hx
        cases hr : (List.range n)[i]? with
        | none => rw [hr] at hx; cases hx
        | some j =>
          rw [hr] at hx
          have := (List.getElem?_eq_some_iff.1 hr).2
          rw [List.getElem_range] at this
          subst this; exact hx) ps _ c hf
      simp only [Instr.build, Sem.run_bind, hz, semP_run hu, semP_run hs, Result.andThen, hf', Sem.run_pure]
    · exact (stuck_no h6).elim
  have := i_build (Pg := Pg) (ty := ty) (ρ := evG f.fv) (T := T) (parts := parts.toList) (zs := z.cells.toList) hb hds (by
    rw [List.all_eq_true] at hc ⊢
    intro q hq
    have := hc q.2 (List.of_mem_zip hq).2
    rw [onesV_eq] at this; exact this) hout
  rw [Array.toArray_toList] at this
  exact .p this h5
end
end Go.Dp
namespace Go.Dp
open Go Go.Mi Go.RowKit
section
variable {β : Type} {b : β} {Pg : Program} {ty : TypeId} {f : Fm} {H : List Ob} {kp : V → M β} {k : K β}
theorem und_ok {T : TypeId} {u : TypeDesc} (h : semP Pg (underlying T) = some u) : Pg.underlying T = some u := by
  have h' : semP Pg (match Pg.underlying T with | some d => (pure d : Sem TypeDesc) | none => stuck "no such type") = some u := h
  split at h'
  · rename_i d e; cases semP_pure h'; exact e
  · exact (stuck_no h').elim
theorem info_ok {T : TypeId} {u : TypeInfo} (h : semP Pg (typeInfo T) = some u) : Pg.info? T = some u := by
  have h' : semP Pg (match Pg.info? T with | some d => (pure d : Sem TypeInfo) | none => stuck "no such type") = some u := h
  split at h'
  · rename_i d e; cases semP_pure h'; exact e
  · exact (stuck_no h').elim
theorem kinds_ok {A B : TypeId} {j : IntKind} (h : semP Pg (kinds A B) = some j) : ∃ i, semP Pg (underlying A) = some (.int i) ∧ semP Pg (underlying B) = some (.int j) := by
  obtain ⟨u, h1, h2⟩ := semP_bind h
  obtain ⟨v, h3, h4⟩ := semP_bind h2
  split at h4
  · cases semP_pure h4; exact ⟨_, h1, h3⟩
  · exact (stuck_no h4).elim
theorem toBytes_ok {A B : TypeId} {e : TypeId} (h : semP Pg (toBytes A B) = some e) : semP Pg (underlying A) = some .string ∧ semP Pg (underlying B) = some (.slice e) ∧ semP Pg (underlying e) = some (.int .u8) := by
  obtain ⟨u, h1, h2⟩ := semP_bind h
  obtain ⟨v, h3, h4⟩ := semP_bind h2
  split at h4
  · obtain ⟨q, h5, h6⟩ := semP_bind h4
    split at h6
    · cases semP_pure h6; exact ⟨h1, h3, h5⟩
    · exact (stuck_no h6).elim
  · exact (stuck_no h4).elim
theorem i_conv {A B : TypeId} {i i' j : IntKind} {x : Operand} {n : Int} (hA : ∀ w, (underlying A).run Pg w = .ok (.int i') w) (hB : ∀ w, (underlying B).run Pg w = .ok (.int j) w) (hx : evG f.fv x = some (.p (.v (.int i n)))) : It Pg (.convert A B x) ty (evG f.fv) [] [] (.p (.v (.int j (j.wrap n)))) := .plain fun w e o ho _ hf => by
  have e1 := hf x (by simp [Op.operands]) _ hx
  unfold execOp; rw [ho]; simp [e1, convert, hA, hB, Conv.intToInt, Sem.run_bind, Result.andThen]
theorem i_s2b {A B e : TypeId} {x : Operand} {s : ByteArray} (hA : Pg.underlying A = some .string) (hB : Pg.underlying B = some (.slice e)) (he : Pg.underlying e = some (.int .u8)) (hx : evG f.fv x = some (vS s)) : It Pg (.convert A B x) ty (evG f.fv) [] [] (.p (.sl 1 s.size (s.data.toList.map pB8))) := fun g w H ev o ho _ hr hrd hf => by
  have e1 := (hf x (by simp [Op.operands]) _ hx).vi
  have hrun := Go.Lib.run_convert_string_bytes w A B e s hA hB he
  have hbel : Below w.heap.size w (Go.Lib.bytesWorld w e s) := ⟨rfl, rfl, rfl, by rw [Go.Lib.bytesWorld_size]; omega, fun j hj => Go.Lib.bytesWorld_at_old w e s j hj⟩
  have hg := Rs.grow (E := upd g.E w.heap.size s.size) hr hbel (fun b hb => upd_ne (by omega))
  have hcap : s.size ≤ Go.grownCap w s.size 0 e := by
    have := grownCap_ge w s.size 0 e
    omega
  refine .inl ⟨.slice (some ⟨w.heap.size, 0, none⟩) s.size (Go.grownCap w s.size 0 e), Go.Lib.bytesWorld w e s, ?_, _, hg, .p ?_⟩
  · unfold execOp; rw [ho]; simp only [e1, Sem.run_bind, hrun, Result.andThen, Sem.run_pure]
  · refine .sl (fun j => .int .u8 (s.data.toList.getD j 0).toNat) (by rw [List.length_map, Array.length_toList, Nat.mul_one]; rfl) hcap (by show 0 + s.size * 1 ≤ upd g.E w.heap.size s.size w.heap.size; rw [upd_eq]; omega) (by rw [Go.Lib.bytesWorld_size]; omega) (fun j hj => ?_) fun j c hc => ?_
    · rw [Nat.zero_add]; exact Go.Lib.bytesWorld_cell w e s j (by omega)
    · rw [List.getElem?_map] at hc
      cases hq : s.data.toList[j]? with
      | none => rw [hq] at hc; cases hc
      | some q => rw [hq] at hc; cases hc; rw [List.getD_eq_getElem?_getD, hq]; exact .v
theorem eConvert_ok {A B : Nat} {x : Operand} (h : eConvert Pg f kp A B x = .ok b) : Out Pg (.convert A B x) ty f.fv H kp k b := by
  obtain ⟨a, hx, h1⟩ := ev_ok h
  split at h1
  · obtain ⟨j, hj, h2⟩ := ty_ok h1
    rw [wrK_eq] at h2
    obtain ⟨i, hA, hB⟩ := kinds_ok hj
    exact .p (i_conv (semP_run hA) (semP_run hB) hx) h2
  · rename_i s
    cases hq : semP Pg (toBytes A B) with
    | none =>
      simp only [hq] at h1
      obtain ⟨r, hr, h2⟩ := ob_ok h1
      obtain ⟨h3, h4⟩ := ck_ok h2
      refine .p ?_ h4
      rw [← ofV_one h3]
      exact .val1 hx (show V.val (vS s) = some (.string s) from rfl) rfl fun e o w ho _ e1 => by unfold execOp; rw [ho]; simp only [e1, Sem.run_bind, semP_run hr w, Result.andThen, Sem.run_pure]
    | some e =>
      simp only [hq] at h1
      obtain ⟨u1, u2, u3⟩ := toBytes_ok hq
      rw [mapL_eq, sLen_eq] at h1
      exact .p (i_s2b (und_ok u1) (und_ok u2) (und_ok u3) hx) h1
  · cases h1
theorem i_lenNil {T E : TypeId} {x : Operand} (hT : ∀ w, (underlying T).run Pg w = .ok (.slice E) w) (hx : evG f.fv x = some (.p (.v (.slice none 0 0)))) : It Pg (.call { callee := .builtin .len, args := #[x], argTypes := #[T] }) ty (evG f.fv) [] [] (vI 0) := .plain fun w e o ho _ hf => by
  have e1 := hf x (by simp [Op.operands, Call.operands]) _ hx
  unfold execOp; rw [ho]; simp [resolve, invoke, builtin, Builtin.len_, e1, hT, goInt, Sem.run_bind, Result.andThen]
theorem eLen_ok {T : TypeId} {x : Operand} {a : V} (hx : evG f.fv x = some a) (h : eLen Pg kp T a = .ok b) : Out Pg (.call { callee := .builtin .len, args := #[x], argTypes := #[T] }) ty f.fv H kp k b := by
  obtain ⟨u, hu, h1⟩ := ty_ok h
  split at h1
  · rw [sLen_eq] at h1; exact .p (i_lenS (semP_run hu) hx) h1
  · exact .p (i_lenNil (semP_run hu) hx) h1
  · exact .p (i_lenA (semP_run hu) hx) h1
  · obtain ⟨q, hq, h2⟩ := ob_ok h1
    exact .p (i_len (semP_run hu) hx hq) h2
  · cases h1
theorem eMinMax_ok {bi : Builtin} {x y : Operand} {tys : Array TypeId} {a c : V} (hx : evG f.fv x = some a) (hy : evG f.fv y = some c) (hb : bi = .min ∨ bi = .max) (h : eMinMax kp bi a c = .ok b) : Out Pg (.call { callee := .builtin bi, args := #[x, y], argTypes := tys }) ty f.fv H kp k b := by
  obtain ⟨i, m, rfl, h0⟩ := asI_ok h
  obtain ⟨j, n, rfl, h1⟩ := asI_ok h0
  obtain ⟨h3, h2⟩ := ck_ok h1
  cases ikEq_eq h3
  rcases hb with rfl | rfl
  · refine .p (d := .p (.v (.int i (mn m n)))) (i_min hx hy) ?_
    have e : Bool.rec (motive := fun _ => Int) m n (iLt n m) = mn m n := by
      unfold mn; rw [iLt_eq]
      by_cases q : n < m <;> simp [q]
    rw [← e]; exact h2
  · refine .p (d := .p (.v (.int i (mx m n)))) (i_max hx hy) ?_
    have e : Bool.rec (motive := fun _ => Int) m n (iLt m n) = mx m n := by
      unfold mx; rw [iLt_eq]
      by_cases q : m < n <;> simp [q]
    rw [← e]; exact h2
end
end Go.Dp
namespace Go.Dp
open Go Go.Mi Go.RowKit
section
variable {Pg : Program} {ty : TypeId} {ρ : Operand → Option V}
theorem bsl_runV {t e k n : Nat} {z : Value} {os : List Operand} {parts : Array (Nat × Operand)} {ds : List V} (ht : ∀ w, (underlying t).run Pg w = .ok (.slice e) w) (hk : ∀ w, (sizeOf e).run Pg w = .ok k w) (hz : ∀ w, (zeroValue e).run Pg w = .ok z w)
    (hparts : parts.toList = os.zipIdx.map (fun p => (p.2, p.1))) (hx : os.map ρ = ds.map some) (ho : (ds.all fun d => d.cells.all V.one && Nat.beq d.cells.length k) = true) (hn : ds.length = n) (hle : n * k ≤ 16777216)
    {g : Gh} {w : World} {H : List Ob} {ev : Operand → Value} {o : Oper} (hop : o.op = .buildSlice t n parts) (h : ∀ x ∈ (Op.buildSlice t n parts).operands, ∀ u, ρ x = some u → RV g w H u (ev x)) :
    ∃ us : List Value, (execOp ev o).run Pg w = .ok (.value (.slice (some ⟨w.heap.size, 0, none⟩) n n)) (w.alloc (.cells us.toArray e)) ∧ RVs g w H (ds.flatMap V.cells) us ∧ us.length = n * k := by
  have hmem : ∀ x ∈ os, x ∈ (Op.buildSlice t n parts).operands := fun x hx => by
    simp only [Op.operands, hparts, List.mem_toArray, List.map_map]
    obtain ⟨j, hj⟩ := List.getElem?_of_mem hx
    exact List.mem_map.2 ⟨(x, j), by rw [List.mem_zipIdx_iff_getElem?]; exact hj, rfl⟩
  have hrv := args_rv (e := ev) hx fun x hx u hu => h x (hmem x hx) u hu
  have ho1 : (ds.all fun d => d.cells.all V.one) = true := by rw [List.all_eq_true] at ho ⊢; exact fun d hd => by have := ho d hd; simp only [Bool.and_eq_true] at this; exact this.1
  have ho2 : ∀ d ∈ ds, d.cells.length = k := fun d hd => by have := List.all_eq_true.1 ho d hd; simp only [Bool.and_eq_true] at this; exact Nat.eq_of_beq_eq_true this.2
  obtain ⟨h1, h2, h3⟩ := flat_rv hrv ho1
  have hl : (os.map ev).length = n := by rw [← hrv.len, hn]
  have hr := run_bslice (P := Pg) ht hk hz hl (h3 k ho2) hle w
  have hp : parts.map (fun (p : Nat × Operand) => (p.1, ev p.2)) = ((os.map ev).zipIdx.map fun p => (p.2, p.1)).toArray := by
    apply Array.toList_inj.1
    rw [Array.toList_map, hparts]
    simp only [List.map_map, List.zipIdx_map]
    congr 1
  refine ⟨_, ?_, h1, ?_⟩
  · unfold execOp; rw [hop]
    show (do pure (Next.value (← Instr.buildSlice t n (parts.map fun (q : Nat × Operand) => (q.1, ev q.2)))) : Sem Next).run Pg w = _
    rw [hp]
    simp [Sem.run_bind, hr, Result.andThen]
  · rw [← h1.len, ← hn]
    clear hrv h1 h2 h3 ho ho1 hx hn hle h hl hr hp hmem hop
    induction ds with
    | nil => simp
    | cons d ds ih => simp only [List.flatMap_cons, List.length_append, List.length_cons]; rw [ih fun d hd => ho2 d (by simp [hd]), ho2 d (by simp), Nat.add_mul]; omega
theorem toPs_rv {g : Gh} {w : World} {H : List Ob} : ∀ {ds : List V} {ps : List P} {us : List Value}, toPs ds = some ps → RVs g w H ds us → RVs g w H (ps.map .p) us
  | [], _, _, h, hv => by
    have : some [] = some _ := h
    cases this; exact hv
  | d :: ds, ps, us, h, hv => by
    cases hv with
    | cons h1 h2 =>
      simp only [toPs] at h
      split at h
      · rename_i hr; cases h; exact .cons h1 (toPs_rv hr h2)
      · rename_i hr; cases h; cases h1 with | tk hp _ => exact .cons (.p hp) (toPs_rv hr h2)
      · cases h
theorem inOrder_ok : ∀ (l : List (Nat × Operand)) (i : Nat), inOrder i l = true → l = ((l.map (·.2)).zipIdx i).map (fun p => (p.2, p.1))
  | [], _, _ => rfl
  | q :: r, i, h => by
    simp only [inOrder, Bool.and_eq_true] at h
    have e := Nat.eq_of_beq_eq_true h.1
    rw [List.map_cons, List.zipIdx_cons, List.map_cons, ← inOrder_ok r (i + 1) h.2]
    cases q; simp only at e; subst e; rfl
end
section
variable {β : Type} {b : β} {Pg : Program} {ty : TypeId} {f : Fm} {H : List Ob} {kp : V → M β} {k : K β}
theorem elemOf_ok {T e : TypeId} (h : semP Pg (elemOf' T) = some e) : semP Pg (underlying T) = some (.slice e) := by
  obtain ⟨u, h1, h2⟩ := semP_bind h
  split at h2
  · cases semP_pure h2; exact h1
  · exact (stuck_no h2).elim
theorem infoOf_ok {T : TypeId} {q : TypeId × TypeInfo} (h : semP Pg (infoOf T) = some q) : Pg.underlying T = some (.slice q.1) ∧ Pg.info? q.1 = some q.2 := by
  obtain ⟨u, h1, h2⟩ := semP_bind h
  split at h2
  · obtain ⟨i, h3, h4⟩ := semP_bind h2
    cases semP_pure h4; exact ⟨und_ok h1, info_ok h3⟩
  · exact (stuck_no h2).elim
theorem eBuildSlice_ok {T n : Nat} {parts : Array (Nat × Operand)} (h : eBuildSlice Pg f H k T n parts = .ok b) : Out Pg (.buildSlice T n parts) ty f.fv H kp k b := by
  obtain ⟨e, he, h1⟩ := ty_ok h
  obtain ⟨s, hs, h2⟩ := ty_ok h1
  obtain ⟨z, hz, h3⟩ := ty_ok h2
  obtain ⟨ds, hds, h4⟩ := evl_ok h3
  obtain ⟨hc, h5⟩ := ck_ok h4
  simp only [Bool.and_eq_true, Nat.ble_eq, lenL_eq] at hc
  obtain ⟨⟨⟨⟨c1, c2⟩, c3⟩, c4⟩, c5⟩ := hc
  have hn := Nat.eq_of_beq_eq_true c1
  have hparts := inOrder_ok _ _ c2
  have ho : (ds.all fun d => d.cells.all V.one && Nat.beq d.cells.length s) = true := by
    rw [List.all_eq_true] at c5 ⊢
    intro d hd
    have := c5 d hd
    rw [Bool.and_eq_true] at this ⊢
    rw [onesV_eq] at this; exact this
  have hrun := fun {g : Gh} {w : World} {H : List Ob} {ev : Operand → Value} {o : Oper} => bsl_runV (Pg := Pg) (ρ := evG f.fv) (t := T) (e := e) (k := s) (n := n) (os := parts.toList.map (·.2)) (parts := parts) (ds := ds) (semP_run (elemOf_ok he)) (semP_run hs) (semP_run hz) hparts hds ho hn c3 (g := g) (w := w) (H := H) (ev := ev) (o := o)
  cases hp : toPs (ds.flatMap V.cells) with
  | none =>
    simp only [hp] at h5
    refine .new (d := fun i => .arr i 0 n n) (fun g w H0 ev o hop _ hr hrd hf => ?_) h5
    obtain ⟨us, r1, r2, r3⟩ := hrun hop hf
    have hg := Rs.var (T := e) hr hrd.one r2
    refine .inl ⟨_, _, r1, _, hg, ?_⟩
    have := RV.arr (g := ⟨upd g.β H.length w.heap.size, upd g.E w.heap.size 0, g.h⟩) (w := w.alloc (.cells us.toArray e)) (H := setW H0 [(H.length, .cells e (ds.flatMap V.cells))]) (i := H.length) (off := 0) (n := n) (cap := n) (by unfold live; show liveO (H0.set H.length _)[H.length]?; rw [set_eq (List.getElem?_eq_some_iff.1 hrd.one).1]; trivial)
    simpa [upd_eq] using this
  | some ps =>
    simp only [hp] at h5
    refine .new (d := fun i => .tk s n ps i 0) (fun g w H0 ev o hop _ hr hrd hf => ?_) h5
    obtain ⟨us, r1, r2, r3⟩ := hrun hop hf
    have hi := hrd.one
    have hps := rps_of (toPs_rv hp r2)
    have hg := Rs.tokNew (T := e) (k := s) (n := n) (us := us) hr hi r3 (Nat.le_trans c4 (by decide))
    refine .inl ⟨_, _, r1, _, hg, .tk ?_ ⟨0, ?_, Nat.le_refl _, fun _ => (upd_eq _ _ _).symm⟩⟩
    · refine RPs.sl (us := us) (hps.mo hg.mo.size hg.mo.E hg.mo.cell) (by rw [hps.1]; exact r3) (Nat.le_refl _) (by show 0 + n * s ≤ upd g.E w.heap.size (n * s) w.heap.size; rw [upd_eq]; omega) (by simp) fun j u hj => ?_
      rw [(alloc_blk w us e).cell, Nat.zero_add]; exact hj
    · show curT (H0.set H.length _)[H.length]? = _
      rw [set_eq (List.getElem?_eq_some_iff.1 hi).1]; rfl
theorem onesP_eq : ∀ (l : List P), onesP l = l.all P.one
  | [] => rfl
  | d :: l => by rw [List.all_cons, ← onesP_eq l, ← an_eq]; rfl
end
end Go.Dp
namespace Go.Dp
open Go Go.Mi Go.RowKit
section
variable {Pg : Program} {ty : TypeId} {ρ : Operand → Option V}
open Classical in
theorem i_appNil {t e k bytes n2 i : Nat} {z : Value} {s x : Operand} {cs2 : List P} {d : V} (ht : Pg.underlying t = some (.slice e)) (hi : (Pg.info? e).map (fun i => (i.zero, i.size, i.bytes)) = some (some z, k, bytes)) (hz : z.cells.size = k) (hk : 0 < k)
    (hs : ρ s = some (.p (.v (.slice none 0 0)))) (hx : ρ x = some d) (hd : d.slc = some (k, n2, cs2)) (ho : ∀ c ∈ cs2, c.one = true) (hmax : n2 ≤ 9223372036854775807) (hby : n2 * bytes ≤ 140737488355328) :
    It Pg (.call { callee := .builtin .append, args := #[s, x], argTypes := #[t, t] }) ty ρ [(i, .dead)] [(i, .tok e k 1)] (.tk k n2 cs2 i 1) := fun g w H ev o hop hty hr hrd h => by
  have hdead := hrd.one
  have hil := (List.getElem?_eq_some_iff.1 hdead).1
  have hne : s ≠ x := fun q => by subst q; rw [hs] at hx; cases hx; cases hd
  have es := (h s (by simp [Op.operands, Call.operands]) _ hs).vi
  have hs0 := Rs.tokNil (T := e) (k := k) hr hdead
  have key := i_append (Pg := Pg) (ty := ty) (ρ := fun y => if y = s then some (.tk k 0 [] i 0) else if y = x then some d else none) (s := s) (x := x) (i := i) (n := 0) (cs := []) (m := 0) ht hi hz hk (by simp) (by simp [Ne.symm hne]) hd ho (by omega) (by simpa using hby)
  have hrd' : rdOk (H.set i (.tok e k 0)) [(i, .tok e k 0)] := rd1 (set_eq hil)
  have hex := key _ w (H.set i (.tok e k 0)) ev o hop hty hs0.rs0 hrd' (fun y hy u hu => by
    by_cases e1 : y = s
    · subst e1
      simp only [if_true, Option.some.injEq] at hu
      subst hu
      rw [es]
      refine .tk .nil ⟨0, ?_, Nat.le_refl _, fun _ => (upd_eq _ _ _).symm⟩
      show curT (H.set i _)[i]? = _
      rw [set_eq hil]; rfl
    · simp only [e1, if_false] at hu
      by_cases e2 : y = x
      · subst e2
        simp only [if_true, Option.some.injEq] at hu
        subst hu
        exact (h y (by simp [Op.operands, Call.operands]) _ hx).mo hs0.mo
      · simp [e2] at hu)
  have hset : setW (H.set i (.tok e k 0)) [(i, .tok e k (0 + 1))] = setW H [(i, .tok e k 1)] := by simp [setW]
  have fin : ∀ (v : Value) (w' : World) (g' : Gh), Rs w ⟨g.β, g.E, upd g.h i (.slice none 0 0)⟩ (H.set i (.tok e k 0)) g' w' (setW (H.set i (.tok e k 0)) [(i, .tok e k (0 + 1))]) → RV g' w' (setW (H.set i (.tok e k 0)) [(i, .tok e k (0 + 1))]) (.tk k (0 + n2) ([] ++ cs2) i (0 + 1)) v → ∃ g', Rs w g H g' w' (setW H [(i, .tok e k 1)]) ∧ RV g' w' (setW H [(i, .tok e k 1)]) (.tk k n2 cs2 i 1) v := fun v w' g' h1 h2 => by
    rw [hset] at h1 h2
    exact ⟨g', hs0.then h1, by simpa using h2⟩
  rcases hex with ⟨v, w', h1, g', h2, h3⟩ | ⟨w', h1, g', h2, h3⟩ | ⟨n, h1, h2⟩
  · exact .inl ⟨v, w', h1, fin v w' g' h2 h3⟩
  · exact .inr (.inl ⟨w', h1, fin _ w' g' h2 h3⟩)
  · exact .inr (.inr ⟨n, h1, h2.mono fun v w' ⟨g', h3, h4⟩ => fin v w' g' h3 h4⟩)
theorem i_appNN {t e : Nat} {q : TypeInfo} {s x : Operand} (ht : Pg.underlying t = some (.slice e)) (hi : Pg.info? e = some q) (hs : ρ s = some (.p (.v (.slice none 0 0)))) (hx : ρ x = some (.p (.v (.slice none 0 0)))) :
    It Pg (.call { callee := .builtin .append, args := #[s, x], argTypes := #[t, t] }) ty ρ [] [] (.p (.v (.slice none 0 0))) := .pure fun g w H ev o hop hty _ h => by
  have e1 := (h s (by simp [Op.operands, Call.operands]) _ hs).vi
  have e2 := (h x (by simp [Op.operands, Call.operands]) _ hx).vi
  refine ⟨_, ?_, .v _⟩
  unfold execOp; rw [hop]
  simp [resolve, invoke, builtin, hty, e1, e2, Sem.run_bind, Result.andThen, Builtin.append_, run_underlying ht, sizeOf, typeInfo, hi, Builtin.lenOf, Builtin.firstCells]
/-- nothing is appended -/
theorem i_app0 {t e : Nat} {q : TypeInfo} {s x : Operand} {a : V} {r : Nat × Nat × List P} (ht : Pg.underlying t = some (.slice e)) (hi : Pg.info? e = some q) (hs : ρ s = some a) (ha : a.slc = some r) (hx : ρ x = some (.p (.v (.slice none 0 0)))) :
    It Pg (.call { callee := .builtin .append, args := #[s, x], argTypes := #[t, t] }) ty ρ [] [] a := .pure fun g w H ev o hop hty _ h => by
  have e1 := h s (by simp [Op.operands, Call.operands]) _ hs
  have e2 := (h x (by simp [Op.operands, Call.operands]) _ hx).vi
  obtain ⟨k, n, cs⟩ := r
  refine ⟨_, ?_, e1⟩
  rcases (e1.slc ha).row with ⟨he, _, _⟩ | ⟨b, of, cap, us, he, hc, _⟩
  · unfold execOp; rw [hop]
    simp [resolve, invoke, builtin, hty, he, e2, Sem.run_bind, Result.andThen, Builtin.append_, run_underlying ht, sizeOf, typeInfo, hi, Builtin.lenOf, Builtin.firstCells]
  · unfold execOp; rw [hop]
    simp [resolve, invoke, builtin, hty, he, e2, hc, Sem.run_bind, Result.andThen, Builtin.append_, run_underlying ht, sizeOf, typeInfo, hi, Builtin.lenOf, Builtin.firstCells, storeCells]
open Classical in
/-- appending to what has no room is as appending to nothing -/
theorem i_appZ {t e k bytes n2 i : Nat} {z : Value} {s x : Operand} {cs2 : List P} {d : V} (ht : Pg.underlying t = some (.slice e)) (hi : (Pg.info? e).map (fun i => (i.zero, i.size, i.bytes)) = some (some z, k, bytes)) (hz : z.cells.size = k) (hk : 0 < k)
    (hs : ρ s = some .z) (hx : ρ x = some d) (hd : d.slc = some (k, n2, cs2)) (ho : ∀ c ∈ cs2, c.one = true) (hn : 0 < n2) (hmax : n2 ≤ 9223372036854775807) (hby : n2 * bytes ≤ 140737488355328) :
    It Pg (.call { callee := .builtin .append, args := #[s, x], argTypes := #[t, t] }) ty ρ [(i, .dead)] [(i, .tok e k 1)] (.tk k n2 cs2 i 1) := fun g w H ev o hop hty hr hrd h => by
  have hne : s ≠ x := fun q => by subst q; rw [hs] at hx; cases hx; cases hd
  have es := h s (by simp [Op.operands, Call.operands]) _ hs
  have ex := (h x (by simp [Op.operands, Call.operands]) _ hx).slc hd
  have key := i_appNil (Pg := Pg) (ty := ty) (ρ := fun y => if y = s then some (.p (.v (.slice none 0 0))) else ρ y) (s := s) (x := x) (i := i) ht hi hz hk (by simp) (by simp [Ne.symm hne, hx]) hd ho hmax hby g w H (fun y => if y = s then .slice none 0 0 else ev y) o hop hty hr hrd (fun y hy u hu => by
    by_cases e1 : y = s
    · subst e1
      simp only [if_true, Option.some.injEq] at hu ⊢
      subst hu; exact .v _
    · simp only [e1, if_false] at hu ⊢
      exact h y hy u hu)
  have hrun : (execOp ev o).run Pg w = (execOp (fun y => if y = s then .slice none 0 0 else ev y) o).run Pg w := by
    generalize hv : ev s = v at es
    cases es with
    | @z a =>
      rcases ex.row with ⟨_, h0, _⟩ | ⟨b, of, cap, us, he, hc, hEb, hbb, hlen, hrp, hu⟩
      · omega
      · obtain ⟨ti, hi0, hiz, his, hib⟩ : ∃ i, Pg.info? e = some i ∧ i.zero = some z ∧ i.size = k ∧ i.bytes = bytes := by
          cases hq : Pg.info? e with
          | none => rw [hq] at hi; cases hi
          | some i => rw [hq] at hi; simp only [Option.map_some, Option.some.injEq, Prod.mk.injEq] at hi; exact ⟨i, rfl, hi.1, hi.2.1, hi.2.2⟩
        have hul : us.length = n2 * ti.size := by rw [← hrp.1, hlen, his]
        have hcells : ∀ j v, us[j]? = some v → w.cell? ((⟨b, of, none⟩ : Addr).add j) = some v := fun j v hj => by rw [addr_add]; exact hu j v hj
        have r1 := fun ty => run_append_nil (P := Pg) w t ty e ti z ht hi0 hiz ⟨b, of, none⟩ n2 cap us hul hcells hn (by omega) (by rw [hib]; omega)
        have r2 := fun ty => run_append_grow (P := Pg) w t ty e ti z ht hi0 hiz a 0 0 [] (by simp) (fun j v hj => by simp at hj) ⟨b, of, none⟩ n2 cap us hul hcells (by omega) (by omega) (growslice_fits (by omega) (by rw [hib]; simpa using hby))
        unfold execOp; rw [hop]
        simp only [Nat.zero_add] at r2
        simp [resolve, invoke, builtin, hv, he, Ne.symm hne, Sem.run_bind, Result.andThen, r1, r2]
  rcases key with ⟨v, w', h1, h2⟩ | ⟨w', h1, h2⟩ | ⟨n, h1, h2⟩
  · exact .inl ⟨v, w', hrun.trans h1, h2⟩
  · exact .inr (.inl ⟨w', hrun.trans h1, h2⟩)
  · exact .inr (.inr ⟨n, hrun.trans h1, h2⟩)
theorem i_mkV {t e bytes i : Nat} {z : Value} {x y : Operand} {K K' : IntKind} {n : Int} (ht : Pg.underlying t = some (.slice e)) (hi : (Pg.info? e).map (fun i => (i.zero, i.size, i.bytes)) = some (some z, 1, bytes)) (hz : one1 z = true) (hx : ρ x = some (.p (.v (.int K n)))) (hy : ρ y = some (.p (.v (.int K' n)))) (hb : Nat.ble bytes 128 = true)
    (hn : 0 ≤ n ∧ n ≤ 1099511627776) : It Pg (.makeSlice t x y) ty ρ [(i, .dead)] [(i, .cells e (List.replicate n.toNat (.p (.v z))))] (.arr i 0 n.toNat n.toNat) := fun g w H ev o hop _ hr hrd h => by
  have e1 := (h x (by simp [Op.operands]) _ hx).vi
  have e1' := (h y (by simp [Op.operands]) _ hy).vi
  have hd := hrd.one
  obtain ⟨q, hi0, hiz, his, hib⟩ : ∃ i, Pg.info? e = some i ∧ i.zero = some z ∧ i.size = 1 ∧ i.bytes = bytes := by
    cases hx : Pg.info? e with
    | none => rw [hx] at hi; cases hi
    | some i => rw [hx] at hi; simp only [Option.map_some, Option.some.injEq, Prod.mk.injEq] at hi; exact ⟨i, rfl, hi.1, hi.2.1, hi.2.2⟩
  have hby : bytes * n.toNat ≤ 281474976710656 := by
    have := Nat.le_of_ble_eq_true hb
    calc bytes * n.toNat ≤ 128 * 1099511627776 := Nat.mul_le_mul this (by omega)
      _ ≤ 281474976710656 := by decide
  have hnn : ((n.toNat : Nat) : Int) = n := Int.toNat_of_nonneg hn.1
  have hmk := run_make (P := Pg) w t e q z ht hi0 hiz K K' (n.toNat : Int) (n.toNat : Int) (by omega) (Int.le_refl _) (by have h := Int.ofNat_le.2 hby; rw [Int.natCast_mul] at h; rw [hib]; exact h) (by omega)
  have hcs : madeCells z.cells (n.toNat * 1) = (List.replicate n.toNat z).toArray := by
    apply Array.toList_inj.1
    rw [Nat.mul_one, cells_one hz, toList_madeCells_one]
  simp only [Int.toNat_natCast, his, hcs] at hmk
  have hp : RVs g w H (List.replicate n.toNat (.p (.v z))) (List.replicate n.toNat z) := by
    generalize n.toNat = m
    induction m with
    | zero => exact .nil
    | succ m ih => exact .cons (.v z) ih
  refine .inl ⟨.slice (some ⟨w.heap.size, 0, none⟩) n.toNat n.toNat, w.alloc (.cells (List.replicate n.toNat z).toArray e), ?_, _, Rs.var hr hd hp, ?_⟩
  · unfold execOp; rw [hop]
    rw [hnn] at hmk
    simp [e1, e1', hmk, Sem.run_bind, Result.andThen]
  · have := RV.arr (g := ⟨upd g.β i w.heap.size, upd g.E w.heap.size 0, g.h⟩) (w := w.alloc (.cells (List.replicate n.toNat z).toArray e)) (H := setW H [(i, .cells e (List.replicate n.toNat (.p (.v z))))]) (i := i) (off := 0) (n := n.toNat) (cap := n.toNat) (by unfold live; show liveO (H.set i _)[i]?; rw [set_eq (List.getElem?_eq_some_iff.1 hd).1]; trivial)
    simpa [upd_eq] using this
end
section
variable {β : Type} {b : β} {Pg : Program} {ty : TypeId} {f : Fm} {H : List Ob} {kp : V → M β} {k : K β}
theorem info_eq {e : Nat} {q : TypeInfo} {z : Value} (h : Pg.info? e = some q) (hz : q.zero = some z) {s : Nat} (hs : q.size = s) : (Pg.info? e).map (fun i => (i.zero, i.size, i.bytes)) = some (some z, s, q.bytes) := by rw [h]; simp [hz, hs]
theorem eAppend_ok {T : Nat} {x y : Operand} {a d : V} (hx : evG f.fv x = some a) (hy : evG f.fv y = some d) (h : eAppend Pg H kp k T a d = .ok b) : Out Pg (.call { callee := .builtin .append, args := #[x, y], argTypes := #[T, T] }) ty f.fv H kp k b := by
  unfold eAppend at h
  split at h
  · obtain ⟨q, h1, h2⟩ := ty_ok h
    obtain ⟨h3, h4⟩ := infoOf_ok h1
    exact .p (i_appNN h3 h4 hx hy) h2
  · obtain ⟨q, h1, h2⟩ := ty_ok h
    obtain ⟨h3, h4⟩ := infoOf_ok h1
    obtain ⟨r, h5, h6⟩ := ob_ok h2
    exact .p (i_app0 h3 h4 hx h5 hy) h6
  · obtain ⟨q, h1, h2⟩ := ty_ok h
    obtain ⟨h3, h4⟩ := infoOf_ok h1
    obtain ⟨z, h5, h6⟩ := ob_ok h2
    obtain ⟨r, h7, h8⟩ := ob_ok h6
    obtain ⟨h9, h10⟩ := ck_ok h8
    simp only [Bool.and_eq_true, onesP_eq] at h9
    obtain ⟨⟨⟨⟨⟨c1, c2⟩, c3⟩, c4⟩, c5⟩, c6⟩ := h9
    have c1 := Nat.eq_of_beq_eq_true c1
    have c2 : 0 < q.2.size := Nat.le_of_ble_eq_true c2
    have c3 := Nat.eq_of_beq_eq_true c3
    have c4 := Nat.le_of_ble_eq_true c4
    have c5 := Nat.le_of_ble_eq_true c5
    have c6 : ∀ c ∈ r.2.2, c.one = true := List.all_eq_true.1 c6
    have hd : d.slc = some (q.2.size, r.2.1, r.2.2) := by rw [h7, ← c3]
    have hb1 : r.2.1 * q.2.bytes ≤ 1000000 * 100 := Nat.mul_le_mul c5 c4
    split at h10
    · rw [fN_eq, lenL_eq] at h10
      exact .inr ⟨_, 1, _, _, i_appNil h3 (info_eq h4 h5 rfl) c1 c2 hx hy hd c6 (by omega) (by omega), rd1 (dead_at H), fun q hq => (by simp at hq; subst hq; simp), h10⟩
    · obtain ⟨h11, h12⟩ := ck_ok h10
      have h11 : 0 < r.2.1 := Nat.le_of_ble_eq_true h11
      rw [fN_eq, lenL_eq] at h12
      exact .inr ⟨_, 1, _, _, i_appZ h3 (info_eq h4 h5 rfl) c1 c2 hx hy hd c6 h11 (by omega) (by omega), rd1 (dead_at H), fun q hq => (by simp at hq; subst hq; simp), h12⟩
    · obtain ⟨o, h11, h12⟩ := nth_ok h10
      split at h12
      · obtain ⟨h13, h14⟩ := ck_ok h12
        simp only [Bool.and_eq_true] at h13
        obtain ⟨⟨⟨⟨d1, d2⟩, d3⟩, d4⟩, d5⟩ := h13
        have d1 := Nat.eq_of_beq_eq_true d1
        have d2 := Nat.eq_of_beq_eq_true d2
        have d3 := Nat.eq_of_beq_eq_true d3
        have d4 := Nat.eq_of_beq_eq_true d4
        have d5 := Nat.le_of_ble_eq_true d5
        subst d1; subst d2; subst d3; subst d4
        rw [appL_eq] at h14
        refine .w (i_append h3 (info_eq h4 h5 rfl) c1 c2 hx hy hd c6 (by omega) ?_) h11 h14
        rw [Nat.add_mul]
        have : _ * q.2.bytes ≤ 1000000 * 100 := Nat.mul_le_mul d5 c4
        omega
      · cases h12
    · cases h10
theorem eMkSlice_ok {T : Nat} {x y : Operand} (h : eMkSlice Pg f H k T x y = .ok b) : Out Pg (.makeSlice T x y) ty f.fv H kp k b := by
  obtain ⟨a, h1, h2⟩ := ev_ok h
  obtain ⟨c, h3, h4⟩ := ev_ok h2
  obtain ⟨i, n, rfl, h5⟩ := asI_ok h4
  obtain ⟨j, m, rfl, h6⟩ := asI_ok h5
  obtain ⟨q, h7, h8⟩ := ty_ok h6
  obtain ⟨z, h9, h10⟩ := ob_ok h8
  obtain ⟨h11, h12⟩ := ck_ok h10
  simp only [Bool.and_eq_true, iLe_eq, iEq_eq, decide_eq_true_eq] at h11
  obtain ⟨⟨⟨⟨⟨c1, c2⟩, c3⟩, c4⟩, c5⟩, c6⟩ := h11
  subst c2
  obtain ⟨k1, k2⟩ := infoOf_ok h7
  exact .new (d := fun i => .arr i 0 n.toNat n.toNat) (i_mkV k1 (info_eq k2 h9 (Nat.eq_of_beq_eq_true c5)) c6 h1 h3 (Nat.ble_eq ▸ Nat.le_trans (Nat.le_of_ble_eq_true c4) (by decide)) ⟨c1, by omega⟩) h12
end
end Go.Dp
