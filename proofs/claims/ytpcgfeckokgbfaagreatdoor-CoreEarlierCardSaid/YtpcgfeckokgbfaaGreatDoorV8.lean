/- The functions of chapter 11, in plain words: the law CoreEarlier answers true for bytes. -/
import Derived.Test.YtpcgfeckokgbfaaGreatDoorV7
set_option linter.all false
namespace Go.Proofs.YtpcgfeckokgbfaaGreatDoor
open Go Go.Dp
/-- CoreEarlier answers true. -/
theorem law5 {r : List Anon92} {z : Anon51} (hr : ∀ x ∈ r, B92 x) (hz : B51 z) : m5 r z = some true := by
  unfold m5
  rw [q22 hr]
  refine Eq.trans (Option.bind_some ..) ?_
  obtain ⟨ops, hops⟩ : ∃ ops, ops = mkK r (min r.length 40) := ⟨_, rfl⟩
  have hv := mkK_ok hr (min r.length 40)
  have hlen := mkK_len r (min r.length 40)
  have e : mdC r = ⟨chs, ops, [(ops.length : Int) - 1, (ops.length : Int) / 2]⟩ := by rw [hops]; rfl
  rw [e]
  rw [← hops] at hv hlen
  clear hops e
  obtain ⟨z0, z1, z2⟩ := hz
  have k0 := em_bd (a := z.a0) (b := 6) (by omega)
  have k1 := em_bd (a := z.a1) (b := 6) (by omega)
  have k2 := em_bd (a := z.a2) (b := (ops.length : Int)) (by omega)
  have k3 := em_bd (a := z.a1 % 6 + 1) (b := 6) (by omega)
  rw [wi_eq (n := z.a0) (by omega) (by omega), wi_eq (n := z.a1) (by omega) (by omega), wi_eq (n := z.a2) (by omega) (by omega), md_pos z0.1 (by omega), md_pos z1.1 (by omega)]
  repeat rw [Option.bind_some]
  rw [wi_eq (n := z.a0 % 6 - 2) (by omega) (by omega)]
  generalize hx0 : z.a0 % 6 - 2 = x0 at *
  generalize hx1 : z.a1 % 6 = x1 at *
  rw [show ix [x0, x1] 0 = some x0 from rfl, show ix [x0, x1] 1 = some x1 from rfl]
  repeat rw [Option.bind_some]
  rw [wi_eq (n := x1 + 1) (by omega) (by omega), md_pos (by omega) (by omega), md_pos z2.1 (show (0 : Int) < ops.length by omega)]
  repeat rw [Option.bind_some]
  generalize hx2 : (x1 + 1) % 6 = x2 at *
  generalize hk : z.a2 % (ops.length : Int) = k at *
  have hs : Sm ⟨chs, ops, [(ops.length : Int) - 1, (ops.length : Int) / 2]⟩ := ⟨by simp [chs], by simp; omega, by simp⟩
  have hrt : ∀ r ∈ [(ops.length : Int) - 1, (ops.length : Int) / 2], 0 ≤ r ∧ r < ops.length := fun r h => by
    simp only [List.mem_cons, List.not_mem_nil, or_false] at h
    rcases h with rfl | rfl <;> omega
  have o1 := opn0 (a := x0) (b := x1) hv (by omega) hrt (by simp) (by omega) (by omega)
  have o2 := opn0 (a := x0) (b := x2) hv (by omega) hrt (by simp) (by omega) (by omega)
  rw [q23 hs]
  repeat rw [Option.bind_some]
  rw [q24 (by simp), q24 (by simp)]
  repeat rw [Option.bind_some]
  have E1 : m10 ⟨chs, ops, [(ops.length : Int) - 1, (ops.length : Int) / 2]⟩ [x0, x1] = some (celK [x0, x1] ops ops.length, 0) := by rw [q10 hs, o1, if_pos rfl]
  have E2 : m10 ⟨chs, ops, [(ops.length : Int) - 1, (ops.length : Int) / 2]⟩ [x0, x2] = some (celK [x0, x2] ops ops.length, 0) := by rw [q10 hs, o2, if_pos rfl]
  have E3 : m11 ⟨chs, ops, [(ops.length : Int) - 1, (ops.length : Int) / 2]⟩ [x0, x1] = some ([at_ (celK [x0, x1] ops ops.length) ((ops.length : Int) - 1), at_ (celK [x0, x1] ops ops.length) ((ops.length : Int) / 2)], 0) := by rw [q11 hs, o1, if_pos rfl]; rfl
  rw [E1]
  repeat rw [Option.bind_some]
  rw [E2]
  repeat rw [Option.bind_some]
  rw [E3]
  repeat rw [Option.bind_some]
  rw [wi_eq (n := 1 + k) (by omega) (by omega)]
  have hlx : lx ops 0 (1 + k) = some (ops.take (1 + k).toNat) := by unfold lx; rw [if_pos (by omega)]; simp
  rw [hlx]
  repeat rw [Option.bind_some]
  have hkl : (ops.take (1 + k).toNat).length = (1 + k).toNat := by rw [List.length_take]; omega
  have hs' : Sm ⟨chs, ops.take (1 + k).toNat, []⟩ := ⟨by simp [chs], by simp; omega, by simp⟩
  have hv' : ∀ i x, (ops.take (1 + k).toNat)[i]? = some x → opB 2 i x = true ∧ ¬ x.code = 4 := fun i x h => by
    rw [List.getElem?_take] at h
    split at h
    · exact hv i x h
    · cases h
  have o3 := opn0 (a := x0) (b := x1) (roots := []) hv' (by omega) (fun r h => by cases h) (by simp) (by omega) (by omega)
  have E4 : m10 ⟨chs, ops.take (1 + k).toNat, []⟩ [x0, x1] = some (celK [x0, x1] ops (1 + k).toNat, 0) := by
    rw [q10 hs', o3, if_pos rfl]
    show some (celK [x0, x1] (ops.take (1 + k).toNat) (ops.take (1 + k).toNat).length, (0 : Int)) = _
    rw [hkl, celK_take _ _ _ _ (Nat.le_refl _)]
  rw [E4]
  repeat rw [Option.bind_some]
  have c1 := celK_len [x0, x1] ops ops.length
  have c2 := celK_len [x0, x2] ops ops.length
  have c3 := celK_len [x0, x1] ops (1 + k).toNat
  have r1 := root_ix (c := ⟨chs, ops, [(ops.length : Int) - 1, (ops.length : Int) / 2]⟩) (open_of o1) (r := (ops.length : Int) - 1) (by simp)
  have r2 := root_ix (c := ⟨chs, ops, [(ops.length : Int) - 1, (ops.length : Int) / 2]⟩) (open_of o1) (r := (ops.length : Int) / 2) (by simp)
  simp only at r1 r2
  rw [if_neg (by simp), if_neg (by simp), if_neg (by simp), if_neg (by simp), if_neg (by simp [c1]), if_neg (by simp [c1, c2]), if_neg (by simp), if_neg (by simp [c3, hkl])]
  rw [show ∀ a b : ApiValue, ix [a, b] 0 = some a from fun _ _ => rfl, Option.bind_some]
  rw [show ∀ a b : Int, ix [a, b] 0 = some a from fun _ _ => rfl, Option.bind_some, r1, Option.bind_some, if_neg (by simp)]
  rw [show ∀ a b : ApiValue, ix [a, b] 1 = some b from fun _ _ => rfl, Option.bind_some]
  rw [show ∀ a b : Int, ix [a, b] 1 = some b from fun _ _ => rfl, Option.bind_some, r2, Option.bind_some, if_neg (by simp)]
  have hly : lx (celK [x0, x1] ops ops.length) 0 ((celK [x0, x1] ops (1 + k).toNat).length : Int) = some (celK [x0, x1] ops (1 + k).toNat) := by
    unfold lx
    rw [if_pos (by rw [c1, c3]; omega), c3]
    show some (((celK [x0, x1] ops ops.length).drop 0).take ((((1 + k).toNat : Nat) : Int).toNat - 0)) = _
    rw [Int.toNat_natCast, List.drop_zero, Nat.sub_zero, celK_pre _ _ _ _ (by omega)]
  rw [hly, Option.bind_some, q25 (by rw [c3]; omega), Option.bind_some, if_neg (by simp)]
  exact q5_1 (c := ⟨chs, ops, [(ops.length : Int) - 1, (ops.length : Int) / 2]⟩) hv rfl (by show ops.length ≤ 1000; omega)
end Go.Proofs.YtpcgfeckokgbfaaGreatDoor
