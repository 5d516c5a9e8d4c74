/- The functions of chapters 7 and 11, in plain words: the cell of an operation, on both sides. -/
import Derived.Test.YtpcgfeckokgbfaaGreatDoorV3
set_option linter.all false
namespace Go.Proofs.YtpcgfeckokgbfaaGreatDoor
open Go Go.Dp
def mkV (n : Int) : ApiValue := if inB (-9999) 9999 n = true then ⟨0, n⟩ else ⟨2, 0⟩
def bV (b : Bool) : ApiValue := if b = true then ⟨0, 1⟩ else ⟨0, 0⟩
theorem mkV_cl (n : Int) : clB (mkV n) = true := by
  unfold mkV
  cases h : inB (-9999) 9999 n with
  | true => simp [clB, h]
  | false => rfl
theorem bV_cl (b : Bool) : clB (bV b) = true := by cases b <;> rfl
theorem q138 (b : Bool) : m138 b = some (bV b) := by cases b <;> simp [m138, q66, bV, inB]
/-- one operand -/
def o1 (k : Int) (a : ApiValue) : ApiValue := if a.fault ≠ 0 then a else if k = 5 then ⟨0, -a.n⟩ else bV (decide (a.n = 0))
theorem o1_cl {k : Int} {a : ApiValue} (h : clB a = true) : clB (o1 k a) = true := by
  unfold o1
  by_cases e : a.fault = 0
  · rw [if_neg (by simp [e])]
    by_cases e2 : k = 5
    · rw [if_pos e2]
      rcases clB_cases h with h | h
      · simp [clB, inB]; omega
      · omega
    · rw [if_neg e2]; exact bV_cl _
  · rw [if_pos e]; exact h
theorem q98_1 (a : ApiValue) : m98 [a] = some (if a.fault = 0 then (⟨0, 0⟩, false) else (a, true)) := by
  rw [q98 (by simp)]
  by_cases e : a.fault = 0 <;> simp [e]
theorem q98_2 (a b : ApiValue) : m98 [a, b] = some (if a.fault = 0 then (if b.fault = 0 then (⟨0, 0⟩, false) else (b, true)) else (a, true)) := by
  rw [q98 (by simp)]
  by_cases e : a.fault = 0 <;> by_cases e2 : b.fault = 0 <;> simp [e, e2]
theorem q67 {k : Int} {a : ApiValue} (hk : k = 5 ∨ k = 6) (h : clB a = true) : m67 k a = some (o1 k a, 0) := by
  unfold m67
  have hz : ∃ z : Nat, m96 k = some z ∧ (z = 1 ∧ k = 5 ∨ z = 2 ∧ k = 6) := by
    rcases hk with rfl | rfl
    · exact ⟨1, rfl, .inl ⟨rfl, rfl⟩⟩
    · exact ⟨2, rfl, .inr ⟨rfl, rfl⟩⟩
  obtain ⟨z, hz1, hz2⟩ := hz
  rw [hz1]
  simp only [Option.bind_some]
  rw [if_neg (by simp; omega), q97 h]
  simp only [Option.bind_some]
  rw [if_neg (by simp), q98_1]
  simp only [Option.bind_some]
  by_cases e : a.fault = 0
  · simp only [e, if_true, Bool.false_eq_true, if_false]
    rcases clB_cases h with ⟨_, h1, h2⟩ | h1
    · rcases hz2 with ⟨rfl, rfl⟩ | ⟨rfl, rfl⟩
      · have ho : o1 5 a = ⟨0, -a.n⟩ := by simp [o1, e]
        have : inB (-9999) 9999 (-a.n) = true := by unfold inB; simp; omega
        rw [ho]
        simp [md160, m136, wi_eq (n := -a.n) (by omega) (by omega), q66, this]
      · have ho : o1 6 a = bV (decide (a.n = 0)) := by simp [o1, e]
        rw [ho]
        simp [md160, m137, q138]
    · omega
  · have ho : o1 k a = a := by simp [o1, e]
    rw [ho]
    simp [e]
/-- a choice of two -/
def o3 (a b c : ApiValue) : ApiValue := if a.fault ≠ 0 then a else if a.n = 0 then c else b
theorem o3_cl {a b c : ApiValue} (ha : clB a = true) (hb : clB b = true) (hc : clB c = true) : clB (o3 a b c) = true := by
  unfold o3; split
  · exact ha
  · split
    · exact hc
    · exact hb
theorem q68 {a b c : ApiValue} (ha : clB a = true) (hb : clB b = true) (hc : clB c = true) : m68 a b c = some (o3 a b c, 0) := by
  unfold m68 o3
  rw [q99 (by simp) (by simp [ha, hb, hc])]
  simp only [Option.bind_some]
  by_cases e : a.fault = 0
  · by_cases e2 : a.n = 0 <;> simp [e, e2]
  · simp [e]
/-- two operands -/
def o2 (k : Int) (a b : ApiValue) : ApiValue :=
  if k = 15 then o3 a b ⟨0, 0⟩ else if k = 16 then o3 a ⟨0, 1⟩ b else if a.fault ≠ 0 then a else if b.fault ≠ 0 then b else
  if k = 7 then mkV (a.n + b.n) else if k = 8 then mkV (a.n - b.n) else if k = 9 then mkV (a.n * b.n) else if k = 12 then bV (decide (a.n = b.n)) else if k = 13 then bV (decide (a.n < b.n)) else if k = 14 then bV (decide (a.n ≤ b.n)) else
  if b.n = 0 then ⟨1, 0⟩ else if k = 10 then ⟨0, fl a.n b.n⟩ else ⟨0, a.n - b.n * fl a.n b.n⟩
theorem fl_bd {a b : Int} (hb : b ≠ 0) (hb1 : -9999 ≤ b) (hb2 : b ≤ 9999) (ha : -9999 ≤ a) (ha2 : a ≤ 9999) : (-9999 ≤ fl a b ∧ fl a b ≤ 9999) ∧ (-9999 ≤ a - b * fl a b ∧ a - b * fl a b ≤ 9999) := by
  have hs := fl_spec (a := a) hb
  rcases Int.lt_or_gt_of_ne hb with hn | hp
  · obtain ⟨h3, h4⟩ := hs.2 hn
    refine ⟨⟨?_, ?_⟩, by omega, by omega⟩
    · refine Int.not_lt.1 fun hlt => ?_
      have : b * (-10000) ≤ b * fl a b := Int.mul_le_mul_of_nonpos_left (by omega) (by omega)
      omega
    · refine Int.not_lt.1 fun hlt => ?_
      have : b * fl a b ≤ b * 10000 := Int.mul_le_mul_of_nonpos_left (by omega) (by omega)
      omega
  · obtain ⟨h3, h4⟩ := hs.1 hp
    refine ⟨⟨?_, ?_⟩, by omega, by omega⟩
    · refine Int.not_lt.1 fun hlt => ?_
      have : b * fl a b ≤ b * (-10000) := Int.mul_le_mul_of_nonneg_left (by omega) (by omega)
      omega
    · refine Int.not_lt.1 fun hlt => ?_
      have : b * 10000 ≤ b * fl a b := Int.mul_le_mul_of_nonneg_left (by omega) (by omega)
      omega
theorem o2_cl {k : Int} {a b : ApiValue} (ha : clB a = true) (hb : clB b = true) : clB (o2 k a b) = true := by
  unfold o2
  by_cases h15 : k = 15
  · rw [if_pos h15]; exact o3_cl ha hb rfl
  rw [if_neg h15]
  by_cases h16 : k = 16
  · rw [if_pos h16]; exact o3_cl ha rfl hb
  rw [if_neg h16]
  by_cases e1 : a.fault = 0
  · rw [if_neg (by simp [e1])]
    by_cases e2 : b.fault = 0
    · rw [if_neg (by simp [e2])]
      repeat' split
      all_goals first | exact mkV_cl _ | exact bV_cl _ | rfl | skip
      all_goals
        rename_i hb0 _
        rcases clB_cases ha with ha | ha
        · rcases clB_cases hb with hb | hb
          · have := fl_bd hb0 hb.2.1 hb.2.2 ha.2.1 ha.2.2
            simp [clB, inB]; omega
          · omega
        · omega
    · rw [if_pos e2]; exact hb
  · rw [if_pos e1]; exact ha
theorem mul_bd {a b : Int} (hb1 : -9999 ≤ b) (hb2 : b ≤ 9999) (ha : -9999 ≤ a) (ha2 : a ≤ 9999) : -100000000 ≤ a * b ∧ a * b ≤ 100000000 := by
  have h := Int.natAbs_mul a b
  have h1 : a.natAbs * b.natAbs ≤ 9999 * 9999 := Nat.mul_le_mul (by omega) (by omega)
  omega
theorem q192 (a b : Int) : m192 a b = some (if a < b then -1 else if b < a then 1 else 0) := by
  unfold m192 m186
  simp only [Option.bind_some, decide_true, Bool.not_true, Bool.false_eq_true, if_false]
  by_cases h1 : a < b <;> by_cases h2 : b < a <;> simp [h1, h2]
theorem q69 {k : Int} {a b : ApiValue} (hk : 7 ≤ k ∧ k ≤ 16) (ha : clB a = true) (hb : clB b = true) : m69 k a b = some (o2 k a b, 0) := by
  unfold m69
  by_cases h15 : k = 15
  · subst h15
    simp only [decide_true, if_true, q66, Option.bind_some, show inB (-9999) 9999 0 = true from rfl]
    rw [q68 ha hb rfl]; rfl
  by_cases h16 : k = 16
  · subst h16
    simp only [decide_true, if_true, q66, Option.bind_some, show inB (-9999) 9999 1 = true from rfl]
    rw [if_neg (by decide), q68 ha rfl hb]; rfl
  rw [if_neg (by simpa using h15), if_neg (by simpa using h16)]
  have hz : m100 k = some (k - 6).toNat := by
    have : k = 7 ∨ k = 8 ∨ k = 9 ∨ k = 10 ∨ k = 11 ∨ k = 12 ∨ k = 13 ∨ k = 14 := by omega
    rcases this with rfl | rfl | rfl | rfl | rfl | rfl | rfl | rfl <;> rfl
  rw [hz]
  simp only [Option.bind_some]
  rw [if_neg (by simp; omega), q99 (by simp) (by simp [ha, hb])]
  simp only [Option.bind_some]
  rw [if_neg (by simp), q98_2]
  simp only [Option.bind_some]
  by_cases e1 : a.fault = 0
  · by_cases e2 : b.fault = 0
    · simp only [e1, e2, if_true, Bool.false_eq_true, if_false]
      rcases clB_cases ha with ⟨_, a1, a2⟩ | ha'
      · rcases clB_cases hb with ⟨_, b1, b2⟩ | hb'
        · have hm := mul_bd b1 b2 a1 a2
          have hs : k = 7 ∨ k = 8 ∨ k = 9 ∨ k = 10 ∨ k = 11 ∨ k = 12 ∨ k = 13 ∨ k = 14 := by omega
          unfold md167
          rcases hs with rfl | rfl | rfl | rfl | rfl | rfl | rfl | rfl
          · rw [show o2 7 a b = mkV (a.n + b.n) by simp [o2, e1, e2]]
            simp [m143, wi_eq (n := a.n + b.n) (by omega) (by omega), q66, mkV]
          · rw [show o2 8 a b = mkV (a.n - b.n) by simp [o2, e1, e2]]
            simp [m144, wi_eq (n := a.n - b.n) (by omega) (by omega), q66, mkV]
          · rw [show o2 9 a b = mkV (a.n * b.n) by simp [o2, e1, e2]]
            simp [m145, wi_eq (n := a.n * b.n) (by omega) (by omega), q66, mkV]
          · by_cases hb0 : b.n = 0
            · rw [show o2 10 a b = ⟨1, 0⟩ by simp [o2, e1, e2, hb0]]
              simp [m189i1, hb0, m95]
            · rw [show o2 10 a b = ⟨0, fl a.n b.n⟩ by simp [o2, e1, e2, hb0]]
              have hq := fl_bd hb0 b1 b2 a1 a2
              have hi : inB (-9999) 9999 (fl a.n b.n) = true := by unfold inB; simp; omega
              simp [m189i1, hb0, q190 hb0 b1 b2 a1 a2, m147, q66, hi]
          · by_cases hb0 : b.n = 0
            · rw [show o2 11 a b = ⟨1, 0⟩ by simp [o2, e1, e2, hb0]]
              simp [m189i2, hb0, m95]
            · rw [show o2 11 a b = ⟨0, a.n - b.n * fl a.n b.n⟩ by simp [o2, e1, e2, hb0]]
              have hq := fl_bd hb0 b1 b2 a1 a2
              have hi : inB (-9999) 9999 (a.n - b.n * fl a.n b.n) = true := by unfold inB; simp; omega
              simp [m189i2, hb0, q190 hb0 b1 b2 a1 a2, m148, q66, hi]
          · rw [show o2 12 a b = bV (decide (a.n = b.n)) by simp [o2, e1, e2]]
            have : decide ((if a.n < b.n then (-1 : Int) else if b.n < a.n then 1 else 0) = 0) = decide (a.n = b.n) := by
              rw [Bool.eq_iff_iff, decide_eq_true_eq, decide_eq_true_eq]; split <;> (try split) <;> omega
            simp [m191i1, q192, m150, q138, this, -ite_eq_right_iff, -ite_eq_left_iff]
          · rw [show o2 13 a b = bV (decide (a.n < b.n)) by simp [o2, e1, e2]]
            have : decide ((if a.n < b.n then (-1 : Int) else if b.n < a.n then 1 else 0) < 0) = decide (a.n < b.n) := by
              rw [Bool.eq_iff_iff, decide_eq_true_eq, decide_eq_true_eq]; split <;> (try split) <;> omega
            simp [m191i2, q192, m151, q138, this]
          · rw [show o2 14 a b = bV (decide (a.n ≤ b.n)) by simp [o2, e1, e2]]
            have : decide ((if a.n < b.n then (-1 : Int) else if b.n < a.n then 1 else 0) ≤ 0) = decide (a.n ≤ b.n) := by
              rw [Bool.eq_iff_iff, decide_eq_true_eq, decide_eq_true_eq]; split <;> (try split) <;> omega
            simp [m191i3, q192, m152, q138, this]
        · omega
      · omega
    · rw [show o2 k a b = b by simp [o2, o3, e1, e2, h15, h16]]
      simp [e1, e2]
  · rw [show o2 k a b = a by simp [o2, o3, e1, h15, h16]]
    simp [e1]
end Go.Proofs.YtpcgfeckokgbfaaGreatDoor
