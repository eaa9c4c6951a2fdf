/- One of four inodes put in place of another, in plain Lean. -/
import Derived.Test.YtnhpmmmkcemnmaaQi
namespace Go.Proofs.Ytnhpmmmkcemnmaa.Pc
open Go.RowKit Go.Proofs.YtnhpmmmkcemnmaaW.PrintWords Go.Proofs.YtnhpmmmkcemnmaaW.PrintLast Go.Proofs.YtnhpmmmkcemnmaaW.PrintMore
set_option linter.unusedVariables false
set_option linter.unusedSimpArgs false

def putI (is : List Int) (q : Nat) (i : List Int) : List Int := is.take (11 * q) ++ i ++ is.drop (11 * q + i.length)
theorem putI_len {is i : List Int} {q : Nat} (hl : is.length = 44) (hi : i.length = 11) (hq : q < 4) : (putI is q i).length = 44 := by
  unfold putI
  rw [List.length_append, List.length_append, List.length_take, List.length_drop, hl, hi]
  omega
theorem putI_same {is i : List Int} {q : Nat} (hl : is.length = 44) (hi : i.length = 11) (hq : q < 4) : chunk (putI is q i) q = i := by
  have h1 : (is.take (11 * q)).length = 11 * q := by rw [List.length_take]; omega
  unfold chunk putI
  rw [List.append_assoc, List.drop_append_of_le_length (by omega), List.drop_eq_nil_of_le (by omega), List.nil_append, List.take_append_of_le_length (by omega), List.take_of_length_le (by omega)]
theorem putI_other {is i : List Int} {q m : Nat} (hl : is.length = 44) (hi : i.length = 11) (hq : q < 4) (hm : m < 4) (hne : m ≠ q) : chunk (putI is q i) m = chunk is m := by
  have h1 : (is.take (11 * q)).length = 11 * q := by rw [List.length_take]; omega
  unfold chunk putI
  by_cases h : m < q
  · rw [List.append_assoc, List.drop_append_of_le_length (by omega), List.take_append_of_le_length (by rw [List.length_drop]; omega), List.drop_take, List.take_take, Nat.min_eq_left (by omega)]
  · have h2 : (is.take (11 * q) ++ i).length = 11 * q + 11 := by rw [List.length_append]; omega
    rw [List.drop_append, List.drop_eq_nil_of_le (by omega), h2, hi, List.nil_append, List.drop_drop, show 11 * q + 11 + (11 * m - (11 * q + 11)) = 11 * m by omega]
theorem putI_eq {is i : List Int} {q : Nat} (hl : is.length = 44) (hi : i.length = 11) (hq : q < 4) : (is == putI is q i) = (chunk is q == i) := by
  rw [Bool.eq_iff_iff, beq_iff_eq, beq_iff_eq]
  constructor
  · intro h
    have := putI_same hl hi hq
    rw [← h] at this
    exact this
  · intro h
    unfold putI
    rw [← h, chunk_len hl q hq]
    unfold chunk
    rw [← List.take_add, List.take_append_drop]
theorem body_at {is : List Int} (hl : is.length = 44) (m r : Nat) (hm : m < 4) (hr : r < 23) : (bodyTo is 4).getD (23 * m + r) 0 = (laidZ (chunk is m)).getD r 0 := by
  obtain ⟨r', h⟩ := drop_body hl [] m hm
  rw [List.append_nil] at h
  have e : (bodyTo is 4).getD (23 * m + r) 0 = ((bodyTo is 4).drop (23 * m)).getD r 0 := by
    rw [List.getD_eq_getElem?_getD, List.getD_eq_getElem?_getD, List.getElem?_drop]
  rw [e, h, List.getD_eq_getElem?_getD, List.getElem?_append_left (by rw [laidZ_len (chunk_len hl m hm)]; exact hr), ← List.getD_eq_getElem?_getD]
theorem body_out {is : List Int} (hl : is.length = 44) (j : Nat) (hj : 92 ≤ j) : (bodyTo is 4).getD j 0 = 0 := by
  have := bodyTo_len hl 4 (Nat.le_refl _)
  rw [List.getD_eq_getElem?_getD, List.getElem?_eq_none (by omega)]
  rfl
theorem bodyZ_get (l : List Int) (j : Nat) : (bodyZ l).getD j 0 = l.getD j 0 := by
  unfold bodyZ
  rw [List.getD_eq_getElem?_getD, List.getD_eq_getElem?_getD]
  by_cases h : j < l.length
  · rw [List.getElem?_append_left h]
  · rw [List.getElem?_append_right (by omega), List.getElem?_eq_none (by omega : l.length ≤ j)]
    rw [List.getElem?_replicate]
    split <;> rfl
theorem seal_at (k : Int) (l : List Int) (hl : l.length ≤ 123) (j : Nat) (hj : j < 123) : (sealZ k l).getD (j + 1) 0 = l.getD j 0 := by
  have e : sealZ k l = padZ k l ++ be4 (sumZ (padZ k l)) := rfl
  have hp := padZ_len k l hl
  rw [e, List.getD_eq_getElem?_getD, List.getElem?_append_left (by omega), padZ_body, List.getElem?_cons_succ, ← List.getD_eq_getElem?_getD, bodyZ_get]
/-- The bytes of the others stay. -/
theorem slots_stay {is i : List Int} {q : Nat} (hl : is.length = 44) (hi : i.length = 11) (hq : q < 4) (k : Nat) (hk : k < 124) (hown : ¬ (1 + 23 * q ≤ k ∧ k < 1 + 23 * (q + 1))) :
    (sealZ 73 (bodyTo (putI is q i) 4)).getD k 0 = (sealZ 73 (bodyTo is 4)).getD k 0 := by
  have hl2 := putI_len hl hi hq
  cases k with
  | zero => rw [sealZ_head, sealZ_head]
  | succ j =>
    rw [seal_at 73 _ (by rw [bodyTo_len hl2 4 (Nat.le_refl _)]; omega) j (by omega), seal_at 73 _ (by rw [bodyTo_len hl 4 (Nat.le_refl _)]; omega) j (by omega)]
    by_cases h : j < 92
    · have hm : j / 23 < 4 := by omega
      have hne : j / 23 ≠ q := by omega
      have e : j = 23 * (j / 23) + j % 23 := by omega
      have hr : j % 23 < 23 := by omega
      rw [e, body_at hl2 (j / 23) (j % 23) hm hr, body_at hl (j / 23) (j % 23) hm hr, putI_other hl hi hq hm hne]
    · rw [body_out hl2 j (by omega), body_out hl j (by omega)]
end Go.Proofs.Ytnhpmmmkcemnmaa.Pc
