/- Deep data: regions that draw their order: the law. -/
import Derived.Test.YtpcgfeckokgbfaaGreatDoorJe
set_option linter.all false
namespace Go.Dp
open Go Go.Mi Go.RowKit
theorem ble_no {i j : Nat} (h : i < j) : Nat.ble j i = false := by
  cases hb : Nat.ble j i with
  | false => rfl
  | true => have := Nat.le_of_ble_eq_true hb; omega
theorem ble_yes {i j : Nat} (h : j ≤ i) : Nat.ble j i = true := by rw [Nat.ble_eq]; exact h
theorem hpS_none {k : Nat} : ∀ {ms : List Im} {L : Nat → Bool} {H : List Ob}, (∀ j, L (k + j) = false) → hpS k ms L H = H
  | [], _, _, _ => rfl
  | m :: ms, L, H, h => by
    have := h 0; rw [Nat.add_zero] at this
    rw [hpS, this]
    exact hpS_none fun j => by have := h (j + 1); rwa [show k + (j + 1) = k + 1 + j by omega] at this
theorem hpS_last {L : Nat → Bool} : ∀ (k : Nat) (ms : List Im) (H : List Ob) (i : Nat) (m : Im), ms[i]? = some m → L (k + i) = true → (∀ j, i < j → L (k + j) = false) → hpS k ms L H = setW (hpS k ms (fun j => L j && !Nat.beq j (k + i)) H) m.wr
  | k, [], H, i, m, h, _, _ => by simp at h
  | k, x :: ms, H, 0, m, h, h1, h2 => by
    simp at h; subst h
    rw [Nat.add_zero] at h1
    have hz : ∀ j, L (k + 1 + j) = false := fun j => by have := h2 (j + 1) (by omega); rwa [show k + (j + 1) = k + 1 + j by omega] at this
    rw [hpS, h1, hpS, hpS_none hz, hpS_none (fun j => by simp only [hz j, Bool.false_and]), h1, Nat.add_zero, show Nat.beq k k = true from Nat.beq_refl k]
    rfl
  | k, x :: ms, H, i + 1, m, h, h1, h2 => by
    rw [hpS, hpS]
    have hk : (L k && !Nat.beq k (k + (i + 1))) = L k := by rw [beq_ne (show ¬ k = k + (i + 1) by omega)]; simp
    rw [hk, hpS_last (k + 1) ms _ i m (by simpa using h) (by rwa [show k + 1 + i = k + (i + 1) by omega]) (fun j hj => by have := h2 (j + 1) (by omega); rwa [show k + (j + 1) = k + 1 + j by omega] at this)]
    rw [show k + 1 + i = k + (i + 1) by omega]
theorem frS_last {t : Nat} {L : Nat → Bool} : ∀ (k : Nat) (os : List Oper) (ms : List Im) (l : Fv) (i : Nat) (o : Oper) (m : Im), os[i]? = some o → ms[i]? = some m → o.dst = some t → L (k + i) = true → (∀ j o', i < j → os[j]? = some o' → L (k + j) = true → o'.dst ≠ some t) → lk (frS k os ms L l) t = some m.d
  | k, [], ms, l, i, o, m, h, _, _, _, _ => by simp at h
  | k, _ :: _, [], l, i, o, m, _, h, _, _, _ => by simp at h
  | k, x :: os, y :: ms, l, 0, o, m, h1, h2, h3, h4, h5 => by
    simp at h1 h2; subst h1; subst h2
    rw [Nat.add_zero] at h4
    rw [frS, h4, if_pos rfl]
    have hgen : ∀ (k' : Nat) (os : List Oper) (ms : List Im) (l : Fv), lk l t = some y.d → (∀ j o', os[j]? = some o' → L (k' + j) = true → o'.dst ≠ some t) → lk (frS k' os ms L l) t = some y.d := fun k' os => by
      induction os generalizing k' with
      | nil => intro ms l h _; cases ms <;> exact h
      | cons z os ih =>
        intro ms l h hd
        cases ms with
        | nil => exact h
        | cons m ms =>
          rw [frS]
          refine ih (k' + 1) ms _ ?_ fun j o' hj hl => hd (j + 1) o' (by simpa using hj) (by rwa [show k' + (j + 1) = k' + 1 + j by omega])
          split
          · rename_i hl
            rw [lk_put (hd 0 z (by simp) (by rwa [Nat.add_zero]))]; exact h
          · exact h
    refine hgen (k + 1) os ms _ (by rw [h3]; exact lk_put_eq) fun j o' hj hl => h5 (j + 1) o' (by omega) (by simpa using hj) (by rwa [show k + (j + 1) = k + 1 + j by omega])
  | k, x :: os, y :: ms, l, i + 1, o, m, h1, h2, h3, h4, h5 => by
    rw [frS]
    exact frS_last (k + 1) os ms _ i o m (by simpa using h1) (by simpa using h2) h3 (by rwa [show k + 1 + i = k + (i + 1) by omega]) fun j o' hj ho hl => h5 (j + 1) o' (by omega) (by simpa using ho) (by rwa [show k + (j + 1) = k + 1 + j by omega])
section
variable {Y : Cy} {Q : Exit → Act → World → Prop}
structure ASt (Y : Cy) (os : List Oper) (ms : List Im) (l : Fv) (H : List Ob) (listed : Array Bool) (g : Gh) (w : World) (a : Act) : Prop where
  rs : Rs Y.w0 Y.g0 Y.H0 g w (hpS 0 ms (fun j => listed.getD j false) H)
  ok : OkD Y.X g w (hpS 0 ms (fun j => listed.getD j false) H) (frS 0 os ms (fun j => listed.getD j false) l) a
  cl : Closed os listed
theorem apart_use {os : List Oper} {a b : Oper} {ka kb : List Nat × List Nat} (h : apart os a b ka kb = true) :
    (∀ t, a.dst = some t → ¬ t ∈ usesO os b ∧ b.dst ≠ some t) ∧ (∀ t, b.dst = some t → ¬ t ∈ usesO os a ∧ a.dst ≠ some t) ∧ (∀ x ∈ ka.2, ¬ x ∈ kb.1 ∧ ¬ x ∈ kb.2) ∧ (∀ x ∈ kb.2, ¬ x ∈ ka.1 ∧ ¬ x ∈ ka.2) := by
  simp only [apart, Bool.and_eq_true] at h
  obtain ⟨⟨⟨⟨⟨h1, h2⟩, h3⟩, h4⟩, h5⟩, h6⟩ := h
  refine ⟨fun t e => ⟨disj_spec h1 (by simp [dstL, e]), fun e2 => disj_spec h3 (x := t) (by simp [dstL, e]) (by simp [dstL, e2])⟩, fun t e => ⟨disj_spec h2 (by simp [dstL, e]), fun e2 => disj_spec h3 (x := t) (by simp [dstL, e2]) (by simp [dstL, e])⟩,
    fun x hx => ⟨disj_spec h4 hx, disj_spec h6 hx⟩, fun x hx => ⟨disj_spec h5 hx, fun e => disj_spec h6 e hx⟩⟩
theorem hpS_P {Φ : List Ob → Prop} {L : Nat → Bool} : ∀ (k : Nat) (ms : List Im) (H : List Ob), Φ H → (∀ j m, ms[j]? = some m → L (k + j) = true → ∀ H, Φ H → Φ (setW H m.wr)) → Φ (hpS k ms L H)
  | _, [], _, h, _ => h
  | k, m :: ms, H, h, hw => by
    rw [hpS]
    refine hpS_P (k + 1) ms _ ?_ fun j m' hm hl => hw (j + 1) m' (by simpa using hm) (by rwa [show k + (j + 1) = k + 1 + j by omega])
    split
    · rename_i hl; exact hw 0 m (by simp) hl H h
    · exact h
/-- what an operation knows of the objects, no other one turns that may come ahead of it -/
def PhiOk (os : List Oper) (ms : List Im) (H : List Ob) : Prop := ∀ i m, ms[i]? = some m → m.φ H ∧ ∀ j mj, ms[j]? = some mj → waitsT os j i = true ∨ ∀ H', m.φ H' → m.φ (setW H' mj.wr)
theorem PhiOk.of {os : List Oper} {ms : List Im} {H : List Ob} (h : ∀ m ∈ ms, m.φ = fun _ => True) : PhiOk os ms H := fun i m hm => by
  have e := h m (List.mem_of_getElem? hm)
  rw [e]; exact ⟨trivial, fun _ _ _ => .inr fun _ _ => trivial⟩
theorem any_step {os : List Oper} {ms : List Im} {l : Fv} {H : List Ob} {listed : Array Bool} {g : Gh} {w : World} {a : Act} (hits : Its Y.X.P os os ms l) (hrd : RdAll ms H) (hφ : PhiOk os ms H) (hchk : allOk os Y.X.N (ms.map Im.keys) os (ms.map Im.keys) (masks os []) 0 = true) (hsz : listed.size = os.length)
    (st : ASt Y os ms l H listed g w a) {i : Nat} {o : Oper} (ho : os[i]? = some o) (hun : listed.getD i true = false) (hall : ∀ e ∈ o.after, Region.binds .any e = true → listed.getD e.on false = true)
    {K : Act → World → Prop} (hK : ∀ g' w' a', ASt Y os ms l H (listed.setIfInBounds i true) g' w' a' → K a' w') : if Region.wanted o (yielded os.toArray a.tmps) then o.wpIn (Fw Y.X.r) 0 Y.X.P a w K Q else K (a.put o.dst undef) w := by
  have hil : i < os.length := (List.getElem?_eq_some_iff.1 ho).1
  obtain ⟨L, hL⟩ : ∃ L : Nat → Bool, (fun j => listed.getD j false) = L := ⟨_, rfl⟩
  have hLj : ∀ j, listed.getD j false = L j := fun j => by rw [← hL]
  have hLi : L i = false := by
    rw [← hLj]
    simp only [Array.getD_eq_getD_getElem?] at hun ⊢
    cases hx : listed[i]? with
    | none => rfl
    | some b => rw [hx] at hun; simpa using hun
  have rs := st.rs; have ok := st.ok
  rw [hL] at rs ok
  obtain ⟨m, hm, hit⟩ := Its.get (L := fun j => decide (j < i)) 0 hits ho (fun j hj => by simpa using hj) (fun j hj => by simpa using hj)
  have hrdi := RdAll.get (L := fun j => decide (j < i)) 0 hrd hm (fun j hj => by simpa using hj) (fun j hj => by simpa using hj)
  obtain ⟨kb, mk, hkb, hmk, hback, hdok, hgd, hpair⟩ := allOk_get hchk ho
  have hkb' : kb = m.keys := by rw [List.getElem?_map, hm] at hkb; simpa using hkb.symm
  subst hkb'
  rw [Nat.zero_add] at hback hpair
  -- who is in one set alone is out of the way
  have hw : ∀ j, waitsT os i j = true → L j = true := fun j h => by rw [← hLj]; exact waitsT_spec st.cl ho hall h
  have hlo : ∀ j oj mj, os[j]? = some oj → ms[j]? = some mj → j < i → L j = false → apart os oj o mj.keys m.keys = true := fun j oj mj h1 h2 hj hlj => by
    rcases pairOk_get hpair (i := j) (a := oj) (ka := mj.keys) (by rw [List.getElem?_take, if_pos hj]; exact h1) (by rw [List.getElem?_take, if_pos hj, List.getElem?_map, h2]; rfl) with h | h
    · rw [Nat.zero_add] at h
      have := hw j (by unfold waitsT; rw [List.getD_eq_getElem?_getD, hmk]; exact h)
      rw [this] at hlj; cases hlj
    · exact h
  have hhi : ∀ j oj mj, os[j]? = some oj → ms[j]? = some mj → i < j → L j = true → apart os o oj m.keys mj.keys = true := fun j oj mj h1 h2 hj hlj => by
    obtain ⟨kj, mkj, k1, k2, _, _, _, k3⟩ := allOk_get hchk h1
    have e : kj = mj.keys := by rw [List.getElem?_map, h2] at k1; simpa using k1.symm
    subst e
    rw [Nat.zero_add] at k3
    rcases pairOk_get k3 (i := i) (a := o) (ka := m.keys) (by rw [List.getElem?_take, if_pos hj]; exact ho) (by rw [List.getElem?_take, if_pos hj, List.getElem?_map, hm]; rfl) with h | h
    · rw [Nat.zero_add] at h
      have := waitsT_spec (k := j) (j := i) st.cl h1 (fun e he hb => st.cl j oj (by rw [hLj]; exact hlj) h1 e he hb) (by unfold waitsT; rw [List.getD_eq_getElem?_getD, k2]; exact h)
      rw [hLj, hLi] at this; cases this
    · exact h
  have hms : ∀ j oj, os[j]? = some oj → ∃ mj, ms[j]? = some mj := fun j oj h1 => by
    obtain ⟨kj, _, k1, _⟩ := allOk_get hchk h1
    rw [List.getElem?_map] at k1
    cases h : ms[j]? with
    | none => rw [h] at k1; cases k1
    | some mj => exact ⟨mj, h⟩
  have hos : ∀ j mj, ms[j]? = some mj → ∃ oj, os[j]? = some oj := fun j mj h1 => by
    have hlen : ∀ (os : List Oper) (ms : List Im) (l : Fv), Its Y.X.P os os ms l → True := fun _ _ _ _ => trivial
    have : j < os.length := by
      have hl : ∀ (bs : List Oper) (ms : List Im) (l : Fv) (os0 : List Oper), Its Y.X.P os0 bs ms l → ms.length = bs.length := fun bs => by
        induction bs with
        | nil => intro ms l os0 h; cases ms with | nil => rfl | cons m ms => exact h.elim
        | cons b bs ih => intro ms l os0 h; cases ms with | nil => exact h.elim | cons m ms => simp [ih ms _ os0 h.2]
      have := (List.getElem?_eq_some_iff.1 h1).1
      rw [hl os ms l os hits] at this; exact this
    exact ⟨_, List.getElem?_eq_getElem this⟩
  have hfr : ∀ t, t ∈ usesO os o → lk (frS 0 os ms L l) t = lk (frS 0 os ms (fun j => decide (j < i)) l) t := fun t ht => by
    refine frS_eq 0 os ms l l rfl fun j oj hj => ?_
    rw [Nat.zero_add]
    obtain ⟨mj, hmj⟩ := hms j oj hj
    rcases Nat.lt_trichotomy j i with hlt | heq | hgt
    · cases hv : L j with
      | true => exact .inl (by simp [hlt])
      | false => exact .inr fun e => ((apart_use (hlo j oj mj hj hmj hlt hv)).1 t e).1 ht
    · subst heq; exact .inl (by simp [hLi])
    · cases hv : L j with
      | false => exact .inl (by simp; omega)
      | true => exact .inr fun e => ((apart_use (hhi j oj mj hj hmj hgt hv)).2.1 t e).1 ht
  have hhp : ∀ id, id ∈ m.keys.1 → (hpS 0 ms L H)[id]? = (hpS 0 ms (fun j => decide (j < i)) H)[id]? := fun id hid => by
    refine hpS_eq 0 ms H H rfl rfl fun j mj hj => ?_
    rw [Nat.zero_add]
    obtain ⟨oj, hoj⟩ := hos j mj hj
    rcases Nat.lt_trichotomy j i with hlt | heq | hgt
    · cases hv : L j with
      | true => exact .inl (by simp [hlt])
      | false => exact .inr fun q hq e => ((apart_use (hlo j oj mj hoj hj hlt hv)).2.2.1 id (by rw [← e]; exact List.mem_map_of_mem hq)).1 hid
    · subst heq; exact .inl (by simp [hLi])
    · cases hv : L j with
      | false => exact .inl (by simp; omega)
      | true => exact .inr fun q hq e => ((apart_use (hhi j oj mj hoj hj hgt hv)).2.2.2 id (by rw [← e]; exact List.mem_map_of_mem hq)).1 hid
  have hrdS : rdOk (hpS 0 ms L H) m.rd := fun q hq => by rw [hhp q.1 (List.mem_map_of_mem hq)]; exact hrdi q hq
  -- the sets behind
  let L' : Nat → Bool := fun j => (listed.setIfInBounds i true).getD j false
  have hL'i : L' i = true := by
    show (listed.setIfInBounds i true).getD i false = true
    simp [Array.getD_eq_getD_getElem?, Array.getElem?_setIfInBounds, hsz, hil]
  have hL'j : ∀ j, j ≠ i → L' j = L j := fun j hj => by
    show (listed.setIfInBounds i true).getD j false = _
    rw [getD_set_ne false (fun e => hj e.symm), hLj]
  have hcl' : Closed os (listed.setIfInBounds i true) := st.cl.set ho hall
  have hheap : setW (hpS 0 ms L H) m.wr = hpS 0 ms L' H := by
    apply List.ext_getElem?; intro id
    by_cases hid : id ∈ m.keys.2
    · have h1 : (hpS 0 ms L' H)[id]? = (hpS 0 ms (fun j => L' j && Nat.ble j i) H)[id]? := by
        refine hpS_eq 0 ms H H rfl rfl fun j mj hj => ?_
        rw [Nat.zero_add]
        obtain ⟨oj, hoj⟩ := hos j mj hj
        by_cases hji : j ≤ i
        · exact .inl (by simp [hji])
        · cases hv : L' j with
          | false => exact .inl (by simp)
          | true => exact .inr fun q hq e => ((apart_use (hhi j oj mj hoj hj (by omega) (by rw [← hL'j j (by omega)]; exact hv))).2.2.2 id (by rw [← e]; exact List.mem_map_of_mem hq)).2 hid
      rw [h1, hpS_last (L := fun j => L' j && Nat.ble j i) 0 ms H i m hm (by rw [Nat.zero_add]; simp [hL'i]) (fun j hj => by rw [Nat.zero_add]; show (L' j && Nat.ble j i) = false; rw [ble_no hj, Bool.and_false])]
      refine setW_congr _ _ _ (by rw [hpS_len, hpS_len]) ?_
      refine hpS_eq 0 ms H H rfl rfl fun j mj hj => ?_
      rw [Nat.zero_add]
      obtain ⟨oj, hoj⟩ := hos j mj hj
      rcases Nat.lt_trichotomy j i with hlt | heq | hgt
      · refine .inl ?_
        rw [hL'j j (by omega), Nat.zero_add, beq_ne (show ¬ j = i by omega), ble_yes (show j ≤ i by omega)]; simp
      · subst heq; refine .inl ?_; rw [Nat.zero_add, show Nat.beq j j = true from Nat.beq_refl j, hLi]; simp
      · cases hv : L j with
        | false => exact .inl (by rw [hL'j j (by omega), hv]; simp)
        | true => exact .inr fun q hq e => ((apart_use (hhi j oj mj hoj hj hgt hv)).2.2.2 id (by rw [← e]; exact List.mem_map_of_mem hq)).2 hid
    · rw [setW_out _ _ _ fun q hq e => hid (by rw [← e]; exact List.mem_map_of_mem hq)]
      refine hpS_eq 0 ms H H rfl rfl fun j mj hj => ?_
      rw [Nat.zero_add]
      by_cases hji : j = i
      · subst hji; rw [hm] at hj; cases hj
        exact .inr fun q hq e => hid (by rw [← e]; exact List.mem_map_of_mem hq)
      · exact .inl (hL'j j hji).symm
  have hok' : ∀ g' w' v, OkD Y.X g' w' (hpS 0 ms L' H) (frS 0 os ms L l) a → RV g' w' (hpS 0 ms L' H) m.d v → OkD Y.X g' w' (hpS 0 ms L' H) (frS 0 os ms L' l) (a.put o.dst v) := fun g' w' v h1 h2 => by
    have hp := h1.put hdok h2
    refine ⟨hp.1, hp.2.1, fun t d ht => hp.2.2 t d ?_⟩
    by_cases e : o.dst = some t
    · have := frS_last (t := t) (L := L') 0 os ms l i o m ho hm e (by rw [Nat.zero_add]; exact hL'i) fun j oj hj hoj hv e2 => by
        rw [Nat.zero_add] at hv
        obtain ⟨mj, hmj⟩ := hms j oj hoj
        exact ((apart_use (hhi j oj mj hoj hmj hj (by rw [← hL'j j (by omega)]; exact hv))).1 t e).2 e2
      rw [this] at ht
      rw [e, lk_put_eq]; exact ht
    · rw [lk_put e]
      rw [← ht]
      refine frS_eq 0 os ms l l rfl fun j oj hj => ?_
      rw [Nat.zero_add]
      by_cases hji : j = i
      · subst hji; rw [ho] at hj; cases hj; exact .inr e
      · exact .inl (hL'j j hji).symm
  have fin : ∀ v w' g', Rs w g (hpS 0 ms L H) g' w' (setW (hpS 0 ms L H) m.wr) → RV g' w' (setW (hpS 0 ms L H) m.wr) m.d v → K (a.put o.dst v) w' := fun v w' g' h1 h2 => by
    rw [hheap] at h1 h2
    refine hK g' w' _ ⟨?_, ?_, hcl'⟩
    · exact rs.then h1
    · exact hok' g' w' v (ok.mo h1.mo) h2
  have huse : ∀ x ∈ o.op.operands, ∀ u, evV (frS 0 os ms (fun j => decide (j < i)) l) x = some u → RV g w (hpS 0 ms L H) u (a.eval x) := fun x hx u hu => by
    refine ok.ev ?_
    cases x with
    | tmp t =>
      simp only [evV] at hu ⊢
      rw [hfr t (by unfold usesO tmpsOf; rw [List.mem_append]; right; exact List.mem_filterMap.2 ⟨.tmp t, by simpa using hx, rfl⟩)]; exact hu
    | const v => exact hu
    | global q => exact hu
    | func f => exact hu
  have hphi : m.φ (hpS 0 ms L H) := by
    refine hpS_P 0 ms H (hφ i m hm).1 fun j mj hj hlj => ?_
    rw [Nat.zero_add] at hlj
    rcases (hφ i m hm).2 j mj hj with h | h
    · exfalso
      obtain ⟨oj, hoj⟩ := hos j mj hj
      have := waitsT_spec (k := j) (j := i) st.cl hoj (fun e he hb => st.cl j oj (by rw [hLj]; exact hlj) hoj e he hb) h
      rw [hLj, hLi] at this; cases this
    · exact h
  have run : ItP m.φ Y.X.P o.op o.type (evV (frS 0 os ms (fun j => decide (j < i)) l)) m.rd m.wr m.d → o.wpIn (Fw Y.X.r) 0 Y.X.P a w K Q := fun h => by
    refine ⟨fun _ _ => trivial, ?_⟩
    rcases h g w _ a.eval o rfl rfl rs.rs0 hphi hrdS huse with ⟨v, w', h1, g', h2, h3⟩ | ⟨w', h1, g', h2, h3⟩ | ⟨n, h1, h2⟩
    · rw [semAt_of h1 (by intro d h; cases h)]
      exact fin v w' g' h2 h3
    · rw [semAt_of h1 (by intro d h; cases h)]
      exact fin undef w' g' h2 h3
    · rw [semAt_of h1 h2.ne]
      exact h2.upon fun v w' ⟨g', h3, h4⟩ => fin v w' g' h3 h4
  have hgy : ∀ {j dj : Nat} {want b : Bool}, o.guard = some (j, want) → (os[j]?).bind (·.dst) = some dj → lk (frS 0 os ms (fun j => decide (j < i)) l) dj = some (.p (.v (.bool b))) → yielded os.toArray a.tmps j = some b := fun {j dj want b} hg hj hb =>
    yield_of ok (by simpa using hj) (by rw [hfr dj (by unfold usesO; rw [hg, List.mem_append]; left; show dj ∈ ((os[j]?).bind (·.dst)).toList; rw [hj]; simp)]; exact hb)
  have hgt : ∀ {j dj : Nat} {want : Bool} {x : Array Value}, o.guard = some (j, want) → (os[j]?).bind (·.dst) = some dj → lk (frS 0 os ms (fun j => decide (j < i)) l) dj = some (.p (.v (.tuple x))) → yielded os.toArray a.tmps j = none := fun {j dj want x} hg hj hb => by
    obtain ⟨v, h1, h2⟩ := ok.2.2 dj _ (by rw [hfr dj (by unfold usesO; rw [hg, List.mem_append]; left; show dj ∈ ((os[j]?).bind (·.dst)).toList; rw [hj]; simp)]; exact hb)
    have := h2.vi
    unfold yielded
    rw [show (os.toArray[j]?).bind (·.dst) = some dj by simpa using hj]
    simp [h1, this]
  cases hit with
  | run hg h =>
    have : Region.wanted o (yielded os.toArray a.tmps) = true := by unfold Region.wanted; rw [hg]
    rw [if_pos this]; exact run h
  | on hg hj hb h =>
    have : Region.wanted o (yielded os.toArray a.tmps) = true := by unfold Region.wanted; rw [hg]; simp only [hgy hg hj hb, beq_self_eq_true]
    rw [if_pos this]; exact run h
  | @off j dj want hg hj hb he =>
    have : Region.wanted o (yielded os.toArray a.tmps) = false := by unfold Region.wanted; rw [hg]; simp only [hgy hg hj hb]; cases want <;> rfl
    rw [if_neg (by rw [this]; decide)]
    subst he
    refine hK g w _ ⟨?_, ?_, hcl'⟩
    · show Rs Y.w0 Y.g0 Y.H0 g w (hpS 0 ms L' H)
      rw [← hheap]; exact rs
    · exact hok' g w undef (by rw [← hheap]; exact ok) (.v _)
  | @offT j dj want x hg hj hb he =>
    have : Region.wanted o (yielded os.toArray a.tmps) = false := by unfold Region.wanted; rw [hg]; simp only [hgt hg hj hb]; rfl
    rw [if_neg (by rw [this]; decide)]
    subst he
    refine hK g w _ ⟨?_, ?_, hcl'⟩
    · show Rs Y.w0 Y.g0 Y.H0 g w (hpS 0 ms L' H)
      rw [← hheap]; exact rs
    · exact hok' g w undef (by rw [← hheap]; exact ok) (.v _)
theorem any_all {os : List Oper} {ms : List Im} {l : Fv} {H : List Ob} (hits : Its Y.X.P os os ms l) (hrd : RdAll ms H) (hφ : PhiOk os ms H) (hchk : allOk os Y.X.N (ms.map Im.keys) os (ms.map Im.keys) (masks os []) 0 = true)
    (hend : ∀ listed g w a, ASt Y os ms l H listed g w a → (∀ i, i < os.length → listed.getD i false = true) → Q .normal a w) :
    ∀ (m : Nat) (listed : Array Bool) (g : Gh) (w : World) (a : Act), listed.toList.count false = m → listed.size = os.length → ASt Y os ms l H listed g w a → wpAnyIn (Fw Y.X.r) 0 Y.X.P .any os.toArray Q m listed a w := by
  intro m
  induction m with
  | zero =>
    intro listed g w a hcnt hsz st
    have hall : ∀ i, i < os.length → listed.getD i false = true := fun i hi => by
      cases hb : listed.getD i false with
      | true => rfl
      | false =>
        exfalso
        rw [List.count_eq_zero] at hcnt
        apply hcnt
        have hlt : i < listed.size := by omega
        rw [Array.getD_eq_getD_getElem?, Array.getElem?_eq_getElem hlt] at hb
        simp at hb
        exact List.mem_of_getElem? (i := i) (by rw [Array.getElem?_toList, Array.getElem?_eq_getElem hlt, hb])
    refine ⟨?_, hend listed g w a st hall⟩
    rw [List.eq_nil_iff_forall_not_mem]
    intro i hi
    obtain ⟨h0, o, ho, _⟩ := mem_ready.1 hi
    have hlt : i < os.length := by simpa using (Array.getElem?_eq_some_iff.1 ho).1
    have h1 := hall i hlt
    simp only [Array.getD_eq_getD_getElem?] at h0 h1
    cases hx : listed[i]? with
    | none => rw [hx] at h1; simp at h1
    | some b => rw [hx] at h0 h1; simp at h0 h1; rw [h0] at h1; cases h1
  | succ m ih =>
    intro listed g w a hcnt hsz st
    have hex : ∃ i, i < os.length ∧ listed.getD i true = false := by
      have hm : false ∈ listed.toList := List.count_pos_iff.1 (by omega)
      obtain ⟨i, hi⟩ := List.getElem?_of_mem hm
      have hlt := (List.getElem?_eq_some_iff.1 hi).1
      refine ⟨i, by simpa [hsz] using hlt, ?_⟩
      rw [Array.getElem?_toList] at hi
      rw [Array.getD_eq_getD_getElem?, hi]; rfl
    obtain ⟨i0, ⟨hi0, hu0⟩, hleast⟩ := least hex
    have ho0 : os[i0]? = some os[i0] := List.getElem?_eq_getElem hi0
    have hr0 : i0 ∈ Region.ready .any os.toArray listed := by
      refine mem_ready.2 ⟨hu0, os[i0], by simpa using ho0, fun e he hb => ?_⟩
      obtain ⟨_, _, _, _, hback, _⟩ := allOk_get hchk ho0
      rw [Nat.zero_add] at hback
      have hlt := backOk_spec hback e he hb
      have hle : e.on < listed.size := by omega
      cases hv : listed.getD e.on true with
      | true => rw [Array.getD_eq_getD_getElem?, Array.getElem?_eq_getElem hle] at hv ⊢; simpa using hv
      | false => have := hleast e.on ⟨by omega, hv⟩; omega
    refine ⟨fun h0 => by rw [h0] at hr0; simp at hr0, fun i hi' => ?_⟩
    obtain ⟨hun, o, ho, hall⟩ := mem_ready.1 hi'
    have ho' : os[i]? = some o := by simpa using ho
    have hfalse : listed.toList[i]? = some false := listed_get hun
    have := any_step (Q := Q) (K := wpAnyIn (Fw Y.X.r) 0 Y.X.P .any os.toArray Q m (listed.setIfInBounds i true)) hits hrd hφ hchk hsz st ho' hun hall fun g' w' a' st' => ih _ g' w' a' (by
      have := cnt_set _ _ hfalse
      simp only [Array.toList_setIfInBounds]
      omega) (by simp [hsz]) st'
    unfold wpOpIn
    simp only [ho]
    split
    · rename_i hw; rw [if_pos hw] at this; exact this
    · rename_i hw; rw [if_neg hw] at this; exact ⟨fun _ _ => trivial, this⟩
/-- what is left of a region that draws its order, when some of it has been gone through in the order of the text -/
def AJ (Y : Cy) (Q : Exit → Act → World → Prop) (os0 : List Oper) (rest : List Oper) (l : Fv) (H : List Ob) (acc : List (List Nat × List Nat)) : Prop :=
  ∃ ms : List Im, Its Y.X.P os0 rest ms l ∧ RdAll ms H ∧ (∀ m ∈ ms, m.φ = fun _ => True) ∧ allOk os0 Y.X.N (acc ++ ms.map Im.keys) os0 (acc ++ ms.map Im.keys) (masks os0 []) 0 = true ∧ DJ Y Q .normal (frS 0 rest ms (fun _ => true) l) (hpS 0 ms (fun _ => true) H)
theorem AJ.nil {os0 : List Oper} {l : Fv} {H : List Ob} {acc : List (List Nat × List Nat)} (hc : allOk os0 Y.X.N acc os0 acc (masks os0 []) 0 = true) (h : DJ Y Q .normal l H) : AJ Y Q os0 [] l H acc := ⟨[], trivial, trivial, fun _ h => (by cases h), by simpa using hc, h⟩
theorem frS_one : ∀ (k : Nat) (os : List Oper) (ms : List Im) (l : Fv), frS (k + 1) os ms (fun _ => true) l = frS k os ms (fun _ => true) l := fun k os => by
  induction os generalizing k with
  | nil => intro ms l; cases ms <;> rfl
  | cons x os ih => intro ms l; cases ms with | nil => rfl | cons m ms => rw [frS, frS]; exact ih _ _ _
theorem hpS_one : ∀ (k : Nat) (ms : List Im) (H : List Ob), hpS (k + 1) ms (fun _ => true) H = hpS k ms (fun _ => true) H := fun k ms => by
  induction ms generalizing k with
  | nil => intro H; rfl
  | cons x ms ih => intro H; rw [hpS, hpS]; exact ih _ _
theorem AJ.cons {os0 : List Oper} {o : Oper} {rest : List Oper} {l : Fv} {H : List Ob} {acc : List (List Nat × List Nat)} {m : Im} (hi : ItO Y.X.P os0 o l m) (hrd : rdOk H m.rd) (k : AJ Y Q os0 rest (putV o.dst m.d l) (setW H m.wr) (acc ++ [m.keys])) (hp : m.φ = fun _ => True := by rfl) : AJ Y Q os0 (o :: rest) l H acc := by
  obtain ⟨ms, h1, h2, h5, h3, h4⟩ := k
  refine ⟨m :: ms, ⟨hi, h1⟩, ⟨hrd, h2⟩, ?_, by simpa using h3, ?_⟩
  · intro x hx
    rcases List.mem_cons.1 hx with e | e
    · rw [e]; exact hp
    · exact h5 x e
  · rw [frS, hpS, frS_one, hpS_one]
    exact h4
theorem AJ.q {os0 : List Oper} {t : Nat} {op : Op} {ty : TypeId} {pos : String} {af : Array Edge} {rest : List Oper} {l : Fv} {H : List Ob} {acc : List (List Nat × List Nat)} {d : V} (h : It Y.X.P op ty (evV l) [] [] d) (k : AJ Y Q os0 rest ((t, d) :: l) H (acc ++ [([], [])])) :
    AJ Y Q os0 ({ dst := some t, op := op, type := ty, pos := pos, after := af, guard := none } :: rest) l H acc := AJ.cons (m := ⟨[], [], d, fun _ => True⟩) (.run rfl h.pw) rd0 k
theorem AJ.o {os0 : List Oper} {dst : Option Tmp} {op : Op} {ty : TypeId} {pos : String} {af : Array Edge} {rest : List Oper} {l : Fv} {H : List Ob} {acc : List (List Nat × List Nat)} {i : Nat} {ob : Ob} {wr : List (Nat × Ob)} {d : V} (h : It Y.X.P op ty (evV l) [(i, ob)] wr d) (hi : H[i]? = some ob)
    (k : AJ Y Q os0 rest (putV dst d l) (setW H wr) (acc ++ [([i], wr.map (·.1))])) : AJ Y Q os0 ({ dst := dst, op := op, type := ty, pos := pos, after := af, guard := none } :: rest) l H acc := AJ.cons (m := ⟨[(i, ob)], wr, d, fun _ => True⟩) (.run rfl h.pw) (rd1 hi) k
theorem AJ.it {os0 : List Oper} {dst : Option Tmp} {op : Op} {ty : TypeId} {pos : String} {af : Array Edge} {rest : List Oper} {l : Fv} {H : List Ob} {acc : List (List Nat × List Nat)} {rd wr : List (Nat × Ob)} {d : V} (h : It Y.X.P op ty (evV l) rd wr d) (hi : rdOk H rd)
    (k : AJ Y Q os0 rest (putV dst d l) (setW H wr) (acc ++ [(rd.map (·.1), wr.map (·.1))])) : AJ Y Q os0 ({ dst := dst, op := op, type := ty, pos := pos, after := af, guard := none } :: rest) l H acc := AJ.cons (m := ⟨rd, wr, d, fun _ => True⟩) (.run rfl h.pw) hi k
theorem J.anyP {id : Nat} {os : List Oper} {l : Fv} {H : List Ob} (hm : Y.X.P.follows .mixedOrders = true) (ms : List Im) (h1 : Its Y.X.P os os ms l) (h2 : RdAll ms H) (h5 : PhiOk os ms H) (h3 : allOk os Y.X.N (ms.map Im.keys) os (ms.map Im.keys) (masks os []) 0 = true)
    (h4 : DJ Y Q .normal (frS 0 os ms (fun _ => true) l) (hpS 0 ms (fun _ => true) H)) : J Y (.region id os.toArray true) Q l H := fun g w a hr ha => by
  refine wpIn_region_any hm ?_
  have hfalse : ∀ j, (Array.replicate os.toArray.size false).getD j false = false := fun j => by
    simp only [Array.getD_eq_getD_getElem?]; rw [Array.getElem?_replicate]; split <;> simp
  have hn1 : hpS 0 ms (fun j => (Array.replicate os.toArray.size false).getD j false) H = H := hpS_none fun j => hfalse _
  have hn2 : frS 0 os ms (fun j => (Array.replicate os.toArray.size false).getD j false) l = l := by
    have hgen : ∀ (k : Nat) (os : List Oper) (ms : List Im) (L : Nat → Bool) (l : Fv), (∀ j, L j = false) → frS k os ms L l = l := fun k os => by
      induction os generalizing k with
      | nil => intro ms L l _; cases ms <;> rfl
      | cons x os ih => intro ms L l hL; cases ms with | nil => rfl | cons m ms => rw [frS, hL k]; exact ih _ _ _ _ hL
    exact hgen 0 os ms _ l hfalse
  have hdr : Mo g w H g w.drew H := ⟨Nat.le_refl _, fun _ _ => Nat.le_refl _, fun _ _ _ _ => rfl, fun _ h => ⟨h, rfl⟩, fun t m ht => ⟨m, ht, Nat.le_refl _, fun _ => rfl⟩⟩
  have hrd : Rs w g H g w.drew H := ⟨rfl, rfl, rfl, hr.gl.mo hdr, hdr, fun _ _ _ => ⟨rfl, rfl⟩, fun i o hi => RO.mo hdr hi (fun _ _ => ⟨rfl, rfl⟩) (fun _ _ _ _ _ => rfl) (hr.ob i o hi), hr.sep, fun i b ho => .inl ⟨i, ho⟩⟩
  have := any_all (Y := Y) (Q := Q) h1 h2 h5 h3 (fun listed g' w' a' st hall => by
    have e1 : hpS 0 ms (fun j => listed.getD j false) H = hpS 0 ms (fun _ => true) H := by
      apply List.ext_getElem?; intro id
      refine hpS_eq 0 ms H H rfl rfl fun i m hi => .inl ?_
      rw [Nat.zero_add]
      have hl : ∀ (bs : List Oper) (ms : List Im) (l : Fv) (os0 : List Oper), Its Y.X.P os0 bs ms l → ms.length = bs.length := fun bs => by
        induction bs with
        | nil => intro ms l os0 h; cases ms with | nil => rfl | cons m ms => exact h.elim
        | cons b bs ih => intro ms l os0 h; cases ms with | nil => exact h.elim | cons m ms => simp [ih ms _ os0 h.2]
      exact hall i (by rw [← hl os ms l os h1]; exact (List.getElem?_eq_some_iff.1 hi).1)
    refine h4 g' w' a' (by rw [← e1]; exact st.rs) ?_
    have ok := st.ok
    rw [e1] at ok
    refine ⟨ok.1, ok.2.1, fun t d ht => ok.2.2 t d ?_⟩
    rw [← ht]
    refine frS_eq 0 os ms l l rfl fun i o hi => .inl ?_
    rw [Nat.zero_add]
    exact hall i (List.getElem?_eq_some_iff.1 hi).1) os.toArray.size (Array.replicate os.toArray.size false) g w.drew a (by simp) (by simp)
    ⟨by rw [hn1]; exact hr.then hrd, by rw [hn1, hn2]; exact ha.mo hdr, fun i o hl => by rw [hfalse] at hl; cases hl⟩
  exact this
theorem J.any {id : Nat} {os : List Oper} {l : Fv} {H : List Ob} (hm : Y.X.P.follows .mixedOrders = true) (h : AJ Y Q os os l H []) : J Y (.region id os.toArray true) Q l H   := by
  obtain ⟨ms, h1, h2, h5, h3, h4⟩ := h
  exact J.anyP hm ms h1 h2 (.of h5) (by simpa using h3) h4
end
end Go.Dp
namespace Go.Dp
open Go Go.Mi Go.RowKit
abbrev CE (Pg : Program) (f : FuncId) (ds : List V) (H : List Ob) (r : V) (H' : List Ob) : Prop := CD Pg f ds H (fun r' H2 => r' = r ∧ H2 = H')
/-- one that is about no object -/
abbrev CP (Pg : Program) (f : FuncId) (ds : List V) (r : V) : Prop := CE Pg f ds [] r []
abbrev vI (n : Int) : V := .p (.v (.int .i64 n))
abbrev vB (b : Bool) : V := .p (.v (.bool b))
abbrev v8 (n : Int) : V := .p (.v (.int .u8 n))
abbrev vS (s : ByteArray) : V := .p (.v (.string s))
abbrev pI (n : Int) : P := .v (.int .i64 n)
abbrev pB (b : Bool) : P := .v (.bool b)
abbrev p8 (n : Int) : P := .v (.int .u8 n)
abbrev pS (s : ByteArray) : P := .v (.string s)
/-- a list as a slice: what its elements are, cell by cell -/
def sl {α : Type} (k : Nat) (e : α → List P) (xs : List α) : P := .sl k xs.length (xs.flatMap e)
abbrev vL {α : Type} (k : Nat) (e : α → List P) (xs : List α) : V := .p (sl k e xs)
def tk {α : Type} (k : Nat) (e : α → List P) (xs : List α) (i m : Nat) : V := .tk k xs.length (xs.flatMap e) i m
def eI (n : Int) : List P := [pI n]
def eB (b : Bool) : List P := [pB b]
def e8 (n : Int) : List P := [p8 n]
def eS (s : ByteArray) : List P := [pS s]
theorem flat_el {α : Type} {k : Nat} {e : α → List P} (hk : ∀ x, (e x).length = k) : ∀ {xs : List α} {j : Nat} {x : α}, xs[j]? = some x → ((xs.flatMap e).drop (j * k)).take k = e x
  | [], j, x, h => by simp at h
  | y :: ys, 0, x, h => by
    simp at h; subst h
    rw [Nat.zero_mul, List.drop_zero, List.flatMap_cons, List.take_append_of_le_length (by rw [hk]; exact Nat.le_refl _), List.take_of_length_le (by rw [hk]; exact Nat.le_refl _)]
  | y :: ys, j + 1, x, h => by
    rw [List.flatMap_cons, Nat.add_mul, Nat.one_mul, Nat.add_comm, ← List.drop_drop, show List.drop k (e y ++ ys.flatMap e) = ys.flatMap e by rw [← hk y]; simp]
    exact flat_el hk (by simpa using h)
def V.sls {α : Type} (k : Nat) (e : α → List P) (d : V) (xs : List α) : Prop := d.slc = some (k, xs.length, xs.flatMap e)
theorem sls_p {α : Type} {k : Nat} {e : α → List P} {xs : List α} : V.sls k e (vL k e xs) xs := rfl
theorem sls_t {α : Type} {k : Nat} {e : α → List P} {xs : List α} {i m : Nat} : V.sls k e (tk k e xs i m) xs := rfl
section
variable {Pg : Program} {ty : TypeId} {ρ : Operand → Option V}
/-- an element of a list -/
theorem i_ix {α : Type} {T E k : Nat} {e : α → List P} {x y : Operand} {K : IntKind} {j : Int} {d : V} {xs : List α} {z : α} (hT : ∀ w, (underlying T).run Pg w = .ok (.slice E) w) (hE : ∀ w, (sizeOf E).run Pg w = .ok k w) (hx : ρ x = some d) (hy : ρ y = some (.p (.v (.int K j)))) (hd : V.sls k e d xs) (hk : ∀ x, (e x).length = k)
    (h0 : 0 ≤ j) (hz : xs[j.toNat]? = some z) : It Pg (.indexAddr T x y) ty ρ [] [] (.el (e z)) :=
  i_index hT hE hx hy hd h0 (by have := (List.getElem?_eq_some_iff.1 hz).1; omega) (flat_el hk hz)
theorem i_ln {α : Type} {T E k : Nat} {e : α → List P} {x : Operand} {d : V} {xs : List α} (hT : ∀ w, (underlying T).run Pg w = .ok (.slice E) w) (hx : ρ x = some d) (hd : V.sls k e d xs) : It Pg (.call { callee := .builtin .len, args := #[x], argTypes := #[T] }) ty ρ [] [] (vI xs.length) := i_len hT hx hd
theorem i_ap {α : Type} {t el k bytes i m : Nat} {e : α → List P} {z : Value} {s x : Operand} {xs ys : List α} {d : V} (ht : Pg.underlying t = some (.slice el)) (hi : (Pg.info? el).map (fun i => (i.zero, i.size, i.bytes)) = some (some z, k, bytes)) (hz : z.cells.size = k) (hk : 0 < k)
    (hs : ρ s = some (tk k e xs i m)) (hx : ρ x = some d) (hd : V.sls k e d ys) (ho : ∀ y, (e y).all P.one = true) (hmax : xs.length + ys.length ≤ 9223372036854775807) (hby : (xs.length + ys.length) * bytes ≤ 140737488355328) :
    It Pg (.call { callee := .builtin .append, args := #[s, x], argTypes := #[t, t] }) ty ρ [(i, .tok el k m)] [(i, .tok el k (m + 1))] (tk k e (xs ++ ys) i (m + 1)) := by
  have := i_append (ty := ty) ht hi hz hk hs hx hd (fun c hc => by obtain ⟨y, _, h2⟩ := List.mem_flatMap.1 hc; exact List.all_eq_true.1 (ho y) c h2) hmax hby
  unfold tk
  rw [List.length_append, List.flatMap_append]; exact this
/-- a literal of one element, and of more -/
theorem i_bs {α : Type} {t el k : Nat} {e : α → List P} {z : Value} {os : List Operand} {parts : Array (Nat × Operand)} {ds : List V} (xs : List α) (ht : ∀ w, (underlying t).run Pg w = .ok (.slice el) w) (hk : ∀ w, (sizeOf el).run Pg w = .ok k w) (hz : ∀ w, (zeroValue el).run Pg w = .ok z w)
    (hparts : parts.toList = os.zipIdx.map (fun p => (p.2, p.1))) (hx : os.map ρ = ds.map some) (ho : (ds.all fun d => d.cells.all V.one && Nat.beq d.cells.length k) = true) (hcs : ds.flatMap V.cells = (xs.flatMap e).map .p) (hn : ds.length = xs.length) (hle : xs.length * k ≤ 16777216) : It Pg (.buildSlice t xs.length parts) ty ρ [] [] (vL k e xs) :=
  i_bslice ht hk hz hparts hx ho hcs hn hle
end
/-! a slice that is nothing yet, with the right to append -/
section
variable {Y : Cy} {Q : Exit → Act → World → Prop} {l : Fv} {H : List Ob} {ops : Array Oper} {rest : List Oper}
theorem nil_step {α : Type} {e : α → List P} {T k i t : Nat} {g : Gh} {w : World} {a : Act} (hr : Rs Y.w0 Y.g0 Y.H0 g w H) (ha : OkD Y.X g w H l a) (ht : lk l t = some (.p (.v (.slice none 0 0)))) (hi : H[i]? = some .dead) :
    ∃ g', Rs Y.w0 Y.g0 Y.H0 g' w (H.set i (.tok T k 0)) ∧ OkD Y.X g' w (H.set i (.tok T k 0)) ((t, tk k e [] i 0) :: l) a := by
  have hs := Rs.tokNil (T := T) (k := k) hr.rs0 hi
  refine ⟨_, hr.then hs, ?_⟩
  have ha' := ha.mo hs.mo
  refine ⟨ha'.1, ha'.2.1, fun s d hd => ?_⟩
  simp only [lk] at hd
  by_cases q : t = s
  · subst q
    rw [show Nat.beq t t = true from Nat.beq_refl t] at hd
    simp only [cond_true, Option.some.injEq] at hd
    subst hd
    obtain ⟨v, h1, h2⟩ := ha'.2.2 t _ ht
    refine ⟨v, h1, ?_⟩
    rw [h2.vi]
    refine .tk .nil ⟨0, ?_, Nat.le_refl _, fun _ => (upd_eq _ _ _).symm⟩
    show curT (H.set i _)[i]? = _
    rw [set_eq (List.getElem?_eq_some_iff.1 hi).1]; rfl
  · rw [beq_ne q] at hd; exact ha'.2.2 s d hd
theorem J.nil {α : Type} {c : Code} (e : α → List P) (T k i t : Nat) (ht : lk l t = some (.p (.v (.slice none 0 0)))) (hi : H[i]? = some .dead) (h : J Y c Q ((t, tk k e [] i 0) :: l) (H.set i (.tok T k 0))) : J Y c Q l H := fun g w a hr ha => by
  obtain ⟨g', h1, h2⟩ := nil_step (e := e) (T := T) (k := k) hr ha ht hi
  exact h g' w a h1 h2
theorem SJ.niL {α : Type} (e : α → List P) (T k i t : Nat) (ht : lk l t = some (.p (.v (.slice none 0 0)))) (hi : H[i]? = some .dead) (h : SJ Y ops Q rest ((t, tk k e [] i 0) :: l) (H.set i (.tok T k 0))) : SJ Y ops Q rest l H := fun g w a hr ha => by
  obtain ⟨g', h1, h2⟩ := nil_step (e := e) (T := T) (k := k) hr ha ht hi
  exact h g' w a h1 h2
end
theorem Wv.tkp {α : Type} {k : Nat} {e : α → List P} {xs : List α} {i m : Nat} : Wv (Go.Dp.tk k e xs i m) (vL k e xs) := Wv.tk
theorem rdc {H : List Ob} {i : Nat} {o : Ob} {rd : List (Nat × Ob)} (h : H[i]? = some o) (k : rdOk H rd) : rdOk H ((i, o) :: rd) := fun q hq => by
  rcases List.mem_cons.1 hq with rfl | hq
  · exact h
  · exact k q hq
def idOk (k0 : Nat) (sel : List Nat) : Bool := (List.range k0).all fun i => Nat.blt i sel.length && Nat.beq (sf sel i) i
theorem Kp.of {H0 H Hr : List Ob} {sel : List Nat} (hl : sel.length = Hr.length) (h : rdOk H (wl (sf sel) sel Hr)) (hn : sel.Nodup) (hlt : Hr.all (Ob.lt Hr.length) = true) (hid : idOk H0.length sel = true) : Kp H0 H Hr sel :=
  ⟨sel_of hl h, hn, hlt, fun i hi => by
    have := List.all_eq_true.1 hid i (by simpa using hi)
    simp only [Bool.and_eq_true] at this
    exact ⟨by simpa [Nat.blt_eq] using this.1, Nat.eq_of_beq_eq_true this.2⟩⟩
end Go.Dp
