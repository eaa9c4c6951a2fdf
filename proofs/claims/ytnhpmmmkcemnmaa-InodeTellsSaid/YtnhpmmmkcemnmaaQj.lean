/- Places of a file's blocks, and how many it needs, in plain Lean. -/
import Derived.Test.YtnhpmmmkcemnmaaQi
import Derived.Test.YtnhpmmmkcemnmaaPcx27
namespace Go.Proofs.Ytnhpmmmkcemnmaa.Pc
open Go.RowKit Go.Proofs.YtnhpmmmkcemnmaaW.PrintWords Go.Proofs.YtnhpmmmkcemnmaaW.PrintLast Go.Proofs.YtnhpmmmkcemnmaaW.PrintMore
set_option linter.unusedVariables false
set_option linter.unusedSimpArgs false

def placeZ (a : Int) : Int × Int × Int := if a < 0 ∨ 162 ≤ a then (-1, -1, -1) else if a < 6 then (0, a, 0) else if a < 18 then (1, a - 6, 0) else (2, (a - 18) / 12, (a - 18) % 12)
def needZ (s : Int) : Int := if s < 1 then 0 else if 20736 ≤ s then 162 else (s + 127) / 128
theorem w64 {a : Int} (h0 : -9223372036854775808 ≤ a) (h1 : a ≤ 9223372036854775807) : wrap64 a = a := by unfold wrap64; omega
theorem place_j (a : Int) (h0 : 0 ≤ a) (h1 : a < 162) (k : Nat) : inode_Place.j0 (k + 1) a false = some (placeZ a) := by
  unfold placeZ
  simp only [inode_Place.j0]
  try rw [if_neg Bool.false_ne_true]
  rw [if_neg (show ¬ (a < 0 ∨ 162 ≤ a) by omega)]
  by_cases c1 : a < 6
  · rw [if_pos c1, if_pos c1]
  · rw [if_neg c1, if_neg c1]
    by_cases c2 : a < 18
    · rw [if_pos c2, if_pos c2, w64 (by omega) (by omega)]
    · rw [if_neg c2, if_neg c2, w64 (a := a - 18) (by omega) (by omega), Int.tdiv_eq_ediv_of_nonneg (by omega), Int.tmod_eq_emod_of_nonneg (by omega), w64 (by omega) (by omega)]
theorem place_is (a : Int) : inode_Place.f 10 a = some (placeZ a) := by
  unfold inode_Place.f
  by_cases c0 : a < 0
  · rw [if_pos c0]
    unfold placeZ
    rw [if_pos (.inl c0)]
    rfl
  · rw [if_neg c0]
    by_cases c1 : a ≥ 162
    · rw [decide_eq_true c1]
      unfold placeZ
      rw [if_pos (.inr c1)]
      rfl
    · rw [decide_eq_false c1]
      exact place_j a (by omega) (by omega) 9
theorem place_ref_j (a : Int) (h0 : 0 ≤ a) (h1 : a < 162) (k : Nat) : purlinref7_Place.j0 (k + 1) a false = some (placeZ a) := by
  unfold placeZ
  simp only [purlinref7_Place.j0]
  try rw [if_neg Bool.false_ne_true]
  rw [if_neg (show ¬ (a < 0 ∨ 162 ≤ a) by omega)]
  by_cases c1 : a < 6
  · rw [if_pos c1, if_pos c1]
  · rw [if_neg c1, if_neg c1]
    by_cases c2 : a < 18
    · rw [if_pos c2, if_pos c2, w64 (by omega) (by omega)]
    · rw [if_neg c2, if_neg c2, w64 (a := a - 6) (by omega) (by omega), w64 (a := a - 6 - 12) (by omega) (by omega), show a - 6 - 12 = a - 18 by omega, Int.tdiv_eq_ediv_of_nonneg (by omega), Int.tmod_eq_emod_of_nonneg (by omega), w64 (by omega) (by omega)]
theorem place_ref_is (a : Int) : purlinref7_Place.f 10 a = some (placeZ a) := by
  unfold purlinref7_Place.f
  by_cases c0 : a < 0
  · rw [if_pos c0]
    unfold placeZ
    rw [if_pos (.inl c0)]
    rfl
  · rw [if_neg c0]
    by_cases c1 : a ≥ 162
    · rw [decide_eq_true c1]
      unfold placeZ
      rw [if_pos (.inr c1)]
      rfl
    · rw [decide_eq_false c1]
      exact place_ref_j a (by omega) (by omega) 9
theorem need_is (s : Int) : inode_Need.f s = some (needZ s) := by
  unfold inode_Need.f needZ
  by_cases c0 : s < 1
  · rw [if_pos c0, if_pos c0]
  · rw [if_neg c0, if_neg c0]
    by_cases c1 : s ≥ 20736
    · rw [if_pos c1, if_pos c1]
    · rw [if_neg c1, if_neg (by omega), w64 (a := s + 128) (by omega) (by omega), w64 (a := s + 128 - 1) (by omega) (by omega), show s + 128 - 1 = s + 127 by omega, Int.tdiv_eq_ediv_of_nonneg (by omega), w64 (by omega) (by omega)]
theorem need_ref_is (s : Int) : purlinref7_Need.f s = some (needZ s) := by
  unfold purlinref7_Need.f needZ
  by_cases c0 : s < 1
  · rw [if_pos c0, if_pos c0]
  · rw [if_neg c0, if_neg c0]
    by_cases c1 : s ≥ 20736
    · rw [if_pos c1, if_pos c1]
    · rw [if_neg c1, if_neg (by omega), w64 (a := s + 128) (by omega) (by omega), w64 (a := s + 128 - 1) (by omega) (by omega), show s + 128 - 1 = s + 127 by omega, Int.tdiv_eq_ediv_of_nonneg (by omega), w64 (by omega) (by omega)]
theorem need_facts (s : Int) (h0 : 0 ≤ s) (h1 : s ≤ 20736) : 0 ≤ needZ s ∧ needZ s ≤ 162 ∧ s ≤ needZ s * 128 ∧ (needZ s = 0 ∨ (needZ s ≠ 0 ∧ (needZ s - 1) * 128 < s)) := by
  unfold needZ
  by_cases c0 : s < 1
  · rw [if_pos c0]
    omega
  · rw [if_neg c0]
    by_cases c1 : 20736 ≤ s
    · rw [if_pos c1]
      omega
    · rw [if_neg c1]
      omega
theorem need_mono (s : Int) (h0 : 0 ≤ s) (h1 : s < 20736) : needZ s ≤ needZ (s + 1) := by
  unfold needZ
  by_cases c0 : s < 1
  · rw [if_pos c0]
    split
    · omega
    · split <;> omega
  · rw [if_neg c0, if_neg (by omega), if_neg (by omega)]
    split <;> omega
theorem need_neg (s : Int) (h0 : s ≤ 0) : needZ s = 0 := by
  unfold needZ
  rw [if_pos (by omega)]
/-- Where a place lies. -/
theorem place_zone (a x y z : Int) (h0 : 0 ≤ a) (h1 : a < 162) (h : placeZ a = (x, y, z)) : 0 ≤ y ∧ 0 ≤ z ∧ ((x = 0 ∧ y < 6 ∧ z = 0 ∧ a = y) ∨ (x = 1 ∧ y < 12 ∧ z = 0 ∧ a = y + 6) ∨ (x = 2 ∧ y < 12 ∧ z < 12 ∧ a = 18 + 12 * y + z)) := by
  unfold placeZ at h
  rw [if_neg (by omega)] at h
  by_cases c1 : a < 6
  · rw [if_pos c1] at h
    simp only [Prod.mk.injEq] at h
    omega
  · rw [if_neg c1] at h
    by_cases c2 : a < 18
    · rw [if_pos c2] at h
      simp only [Prod.mk.injEq] at h
      omega
    · rw [if_neg c2] at h
      simp only [Prod.mk.injEq] at h
      omega
theorem place_same (a b x y z u v w : Int) (ha : 0 ≤ a ∧ a < 162) (hb : 0 ≤ b ∧ b < 162) (h : placeZ a = (x, y, z)) (k : placeZ b = (u, v, w)) :
    ((x == u) = false ∧ (a == b) = false) ∨ ((x == u) = true ∧ (y == v) = false ∧ (a == b) = false) ∨ ((x == u) = true ∧ (y == v) = true ∧ (z == w) = false ∧ (a == b) = false) ∨ ((x == u) = true ∧ (y == v) = true ∧ (z == w) = true ∧ (a == b) = true) := by
  have h1 := place_zone a x y z ha.1 ha.2 h
  have k1 := place_zone b u v w hb.1 hb.2 k
  simp only [beq_iff_eq, beq_eq_false_iff_ne]
  omega
theorem zone_bools (a x y z : Int) (ha : 0 ≤ a ∧ a < 162) (h : placeZ a = (x, y, z)) :
    ((x == 0) = true ∧ decide (y < 6) = true ∧ (z == 0) = true) ∨ ((x == 0) = false ∧ (x == 1) = true ∧ decide (y < 12) = true ∧ (z == 0) = true) ∨ ((x == 0) = false ∧ (x == 1) = false ∧ (x == 2) = true ∧ decide (y < 12) = true ∧ decide (z < 12) = true) := by
  have h1 := place_zone a x y z ha.1 ha.2 h
  simp only [beq_iff_eq, beq_eq_false_iff_ne, decide_eq_true_iff]
  omega
end Go.Proofs.Ytnhpmmmkcemnmaa.Pc
