/- The document's sums and sealed sectors are the program's. -/
import Derived.Test.YtnhpmmmkcemnmaaQf
import Derived.Test.YtnhpmmmkcemnmaaPcx4
namespace Go.Proofs.Ytnhpmmmkcemnmaa.Pc
open Go.RowKit Go.Proofs.YtnhpmmmkcemnmaaW.PrintWords Go.Proofs.YtnhpmmmkcemnmaaW.PrintLast Go.Proofs.YtnhpmmmkcemnmaaW.PrintMore
set_option linter.unusedVariables false
set_option linter.unusedSimpArgs false

theorem ref2_Sum.l0_is (l : List Int) (hl : By l) (hm : l.length ≤ 1000000) (d : Nat) : ∀ (k i : Nat) (r : Nat), r < 4294967296 → i + d = l.length → d < k →
    purlinref2_Sum.l0 k l (r : Int) (i : Int) = some ((finN (regN r (l.drop i)) : Nat) : Int) := by
  induction d with
  | zero =>
    intro k i r hr hd hk
    obtain ⟨k, rfl⟩ : ∃ m, k = m + 1 := ⟨k - 1, by omega⟩
    simp only [purlinref2_Sum.l0]
    rw [if_neg (by omega), List.drop_eq_nil_of_le (by omega), fin_is r hr]
    rfl
  | succ d ih =>
    intro k i r hr hd hk
    obtain ⟨k, rfl⟩ : ∃ m, k = m + 1 := ⟨k - 1, by omega⟩
    simp only [purlinref2_Sum.l0]
    have hb := hl.getD i
    rw [if_pos (by omega), if_pos (by omega), wrap64_is (by omega) (by omega), rd_getD, step_is r hr _ hb.1 hb.2, drop_rd l i (by omega), rd_getD]
    exact ih k (i + 1) _ (stepN_lt _ _) (by omega) (by omega)
theorem ref2_Sum.is (l : List Int) (hl : By l) (hm : l.length ≤ 1000000) (k : Nat) (hk : l.length < k) : purlinref2_Sum.f k l = some (sumZ l) := by
  unfold purlinref2_Sum.f
  exact ref2_Sum.l0_is l hl hm l.length k 0 2166136261 (by omega) (by omega) hk
theorem ref2_Seal.is (k : Int) (l : List Int) (h0 : 0 ≤ k) (h1 : k < 256) (hl : By l) (K : Nat) (hK : 200 ≤ K) :
    purlinref2_Seal.f K k l = some (if k = 0 ∨ 123 < l.length then ([], 2) else (sealZ k l, 0)) := by
  unfold purlinref2_Seal.f
  by_cases c1 : k = 0
  · rw [if_pos c1, if_pos (Or.inl c1)]
  · rw [if_neg c1]
    by_cases c2 : (l.length : Int) > 123
    · rw [if_pos c2, if_pos (Or.inr (by omega))]
    · have w : wrap64 (123 - (l.length : Int)) = ((123 - l.length : Nat) : Int) := by
        rw [wrap64_is (by omega) (by omega)]
        omega
      have e : ([k] : List Int) ++ l ++ List.replicate (123 - l.length) 0 = padZ k l := by
        rw [List.append_assoc]
        rfl
      have s := ref2_Sum.is (padZ k l) (padZ_by h0 h1 hl) (by have := padZ_len k l (by omega); omega) K (by have := padZ_len k l (by omega); omega)
      have hp := padZ_len k l (by omega)
      rw [if_neg c2, if_neg (by omega), Option.bind_some, if_pos (by simp; omega), Option.bind_some, w, Int.toNat_natCast, if_pos (by omega), if_pos (by simp; omega), Option.bind_some, e, s, Option.bind_some, Option.bind_some, if_pos (by simp; omega)]
      rfl
theorem ref2_Kind.is (b : List Int) (hb : By b) (K : Nat) (hK : 201 ≤ K) : purlinref2_Kind.f K b = some (kindZ b) := by
  obtain ⟨K, rfl⟩ : ∃ m, K = m + 1 := ⟨K - 1, by omega⟩
  unfold purlinref2_Kind.f
  by_cases h : b.length = 128
  · rw [if_pos (by omega), if_pos (by omega)]
    simp only [purlinref2_Kind.j0]
    rw [rd_zero]
    have hb0 := hb.getD 0
    by_cases h0 : b.getD 0 0 = 0
    · rw [if_pos (beq_iff_eq.mpr h0)]
      unfold kindZ good
      rw [h0]
      simp
    · have hf : By ((b.take 124).drop 1) := (hb.take_ 124).drop_ 1
      have hfl : ¬ (b.getD 0 0 = 0 ∨ 123 < ((b.take 124).drop 1).length) := by
        rintro (h | h)
        · exact h0 h
        · simp at h
          omega
      have hs : By (sealZ (b.getD 0 0) ((b.take 124).drop 1)) := sealZ_by hb0.1 hb0.2 hf
      rw [if_neg (fun e => h0 (beq_iff_eq.mp e)), if_pos (by omega), if_pos (by omega), if_pos (by omega), ref2_Seal.is _ _ hb0.1 hb0.2 hf K (by omega), if_neg hfl, Option.bind_some]
      simp only [strs_eq hs hb]
      rw [seal_of_front b h]
      unfold kindZ good
      rw [h, bne_iff_ne.mpr h0]
      by_cases e : b.take 124 ++ be4 (sumZ (b.take 124)) = b
      · rw [if_pos e, if_pos (by simp [e])]
      · rw [if_neg e, if_neg (by simp; exact fun e' => e e'.symm)]
  · rw [if_neg (by omega)]
    simp only [purlinref2_Kind.j0]
    unfold kindZ good
    simp [h]
theorem ref2_Open.is (k : Int) (b : List Int) (hb : By b) (K : Nat) (hK : 201 ≤ K) :
    purlinref2_Open.f K k b = some (if k ≠ 0 ∧ kindZ b = k then ((b.take 124).drop 1, 0) else ([], 3)) := by
  unfold purlinref2_Open.f
  by_cases h0 : k = 0
  · rw [if_pos h0, if_neg (by simp [h0])]
  · rw [if_neg h0, ref2_Kind.is b hb K hK, Option.bind_some]
    by_cases h1 : kindZ b = k
    · have hl : b.length = 128 := kindZ_len (by rw [h1]; exact h0)
      rw [if_pos h1, if_pos hl, if_pos ⟨h0, h1⟩]
    · rw [if_neg h1, if_neg (by simp [h1])]
/-- What was answered is written over: whatever it was. -/
theorem over_l0 (n d : Nat) (hn : n ≤ 1000000) : ∀ (k i : Nat) (l : List Int), l.length = n → i + d = n → d < k → purlinlaw0_OverBytes.l0 k l (i : Int) = some () := by
  induction d with
  | zero =>
    intro k i l hl hi hk
    obtain ⟨k, rfl⟩ : ∃ m, k = m + 1 := ⟨k - 1, by omega⟩
    simp only [purlinlaw0_OverBytes.l0]
    rw [if_neg (by omega), if_pos (by omega)]
  | succ d ih =>
    intro k i l hl hi hk
    obtain ⟨k, rfl⟩ : ∃ m, k = m + 1 := ⟨k - 1, by omega⟩
    simp only [purlinlaw0_OverBytes.l0]
    rw [if_pos (by omega), if_pos (by omega), wrap64_is (by omega) (by omega)]
    exact ih k (i + 1) _ (by rw [List.length_set]; exact hl) (by omega) (by omega)
theorem over_is (l : List Int) (hl : l.length ≤ 1000000) (k : Nat) (hk : l.length < k) : purlinlaw0_OverBytes.f k l = some () :=
  over_l0 l.length l.length hl k 0 l rfl (by omega) hk
end Go.Proofs.Ytnhpmmmkcemnmaa.Pc
