/- The document's sectors of bits are the program's. -/
import Derived.Test.YtnhpmmmkcemnmaaQe
import Derived.Test.YtnhpmmmkcemnmaaQr
import Derived.Test.YtnhpmmmkcemnmaaPcx23
namespace Go.Proofs.Ytnhpmmmkcemnmaa.Pc
open Go.RowKit Go.Proofs.YtnhpmmmkcemnmaaW.PrintWords Go.Proofs.YtnhpmmmkcemnmaaW.PrintLast Go.Proofs.YtnhpmmmkcemnmaaW.PrintMore
set_option linter.unusedVariables false
set_option linter.unusedSimpArgs false

theorem ref3_Has.is (l : List Int) (hl : By l) (i : Nat) (hi : i < 9007199254740992) : purlinref3_Has.f l (i : Int) = some (hasZ l i) := by
  unfold purlinref3_Has.f
  have e1 : Int.tdiv (i : Int) 8 = ((i / 8 : Nat) : Int) := by rw [Int.tdiv_eq_ediv_of_nonneg (by omega)]; rfl
  have e2 : Int.tmod (i : Int) 8 = ((i % 8 : Nat) : Int) := by rw [Int.tmod_eq_emod_of_nonneg (by omega)]; rfl
  rw [if_pos (by omega), e1, wrap64_is (by omega) (by omega)]
  by_cases h : i / 8 < l.length
  · have hb := hl.getD (i / 8)
    rw [if_pos (by omega), if_pos (by omega), e2, if_pos (by omega), rd_getD, bit_is _ _ hb.1 hb.2 (by omega)]
    rfl
  · rw [if_neg (by omega), hasZ_out l i (by omega)]
theorem ref3_all_l0 (l : List Int) (hl : By l) (hm : l.length ≤ 100000) (n : Int) (hn : n ≤ 1000000) (d : Nat) : ∀ (K i : Nat), (min n (8 * (l.length : Int))).toNat = i + d → 2 * d + 2 ≤ K →
    purlinref3_All.l0 K l n (intsZ (allZ l i)) (i : Int) = some (intsZ (allZ l (min n (8 * (l.length : Int))).toNat)) := by
  induction d with
  | zero =>
    intro K i hd hK
    obtain ⟨K, rfl⟩ : ∃ m, K = m + 2 := ⟨K - 2, by omega⟩
    rw [hd]
    simp only [purlinref3_All.l0]
    by_cases h : (i : Int) < n
    · have hdec : decide ((i : Int) < wrap64 (8 * (l.length : Int))) = false := decide_eq_false (by rw [wrap64_is (by omega) (by omega)]; omega)
      rw [if_pos h, hdec]
      simp only [purlinref3_All.j1]
      rw [if_neg (by decide), Nat.add_zero]
    · rw [if_neg h]
      simp only [purlinref3_All.j1]
      rw [if_neg (by decide), Nat.add_zero]
  | succ d ih =>
    intro K i hd hK
    obtain ⟨K, rfl⟩ : ∃ m, K = m + 2 := ⟨K - 2, by omega⟩
    simp only [purlinref3_All.l0]
    have hdec : decide ((i : Int) < wrap64 (8 * (l.length : Int))) = true := decide_eq_true (by rw [wrap64_is (by omega) (by omega)]; omega)
    have hal := allZ_len l i
    rw [if_pos (by omega), hdec]
    simp only [purlinref3_All.j1]
    rw [if_pos trivial, ref3_Has.is l hl i (by omega)]
    simp only [Option.bind_some]
    have hnext := ih K (i + 1) (by omega) (by omega)
    rw [allZ_succ] at hnext
    rw [wrap64_is (by omega) (by omega)]
    by_cases h : hasZ l i = true
    · rw [if_pos h, if_pos (by simp [intsZ]; omega)]
      rw [if_pos h] at hnext
      have : intsZ (allZ l i) ++ [(i : Int)] = intsZ (allZ l i ++ [i]) := by simp [intsZ]
      rw [this]
      exact hnext
    · rw [if_neg h]
      rw [if_neg h] at hnext
      exact hnext
theorem ref3_All.is (l : List Int) (hl : By l) (hm : l.length ≤ 1000) (n : Nat) (hn : n ≤ 1000000) (K : Nat) (hK : 16 * l.length + 4 ≤ K) : purlinref3_All.f K l (n : Int) = some (intsZ (allZ l n)) := by
  unfold purlinref3_All.f
  have := ref3_all_l0 l hl (by omega) (n : Int) (by omega) (min (n : Int) (8 * (l.length : Int))).toNat K 0 (by omega) (by omega)
  have e : allZ l (min (n : Int) (8 * (l.length : Int))).toNat = allZ l n := by
    by_cases h : n ≤ 8 * l.length
    · congr 1
      omega
    · rw [allZ_out l n (by omega)]
      congr 1
      omega
  rw [e] at this
  exact this

theorem ref11_Lay.is (p q : List Int) (hp : By p) (hq : By q) (K : Nat) (hK : 200 ≤ K) (hm : p.length ≤ 1000) (hn : q.length ≤ 1000) : purlinref11_Lay.f K p q = group_Lay.f K p q := by
  by_cases h : sizesZ p q
  · rw [group_Lay.yes p q hp hq h K hK]
    obtain ⟨h1, h2, h3, h4⟩ := h
    unfold purlinref11_Lay.f
    have w : wrap64 (4 - (p.length : Int)) = ((4 - p.length : Nat) : Int) := by
      rw [wrap64_is (by omega) (by omega)]
      omega
    have hb : By (p ++ List.replicate (4 - p.length) 0 ++ q) := (hp.app (By.zeros _)).app hq
    have hl : (p ++ List.replicate (4 - p.length) 0 ++ q).length ≤ 123 := by simp; omega
    have hs := ref2_Seal.is 71 _ (by omega) (by omega) hb K hK
    rw [if_neg (by omega)] at hs
    have e : sealZ 71 (p ++ List.replicate (4 - p.length) 0 ++ q) = sealZ 71 (group_Lay.body p q) := by
      rw [(sealZ_inj 71 71 _ _ hl (by rw [groupZ_len p q h2 h4]; omega))]
      refine ⟨rfl, ?_⟩
      unfold bodyZ
      rw [groupZ_len p q h2 h4]
      unfold group_Lay.body
      have e1 : (p ++ List.replicate (4 - p.length) 0 ++ q).length = 4 + q.length := by simp; omega
      rw [e1, List.append_assoc, List.append_assoc, List.append_assoc, List.append_assoc, List.append_assoc, List.replicate_append_replicate]
      congr 4
      omega
    rw [if_neg (by omega), if_neg (by omega), if_neg (by omega), if_neg (by omega), if_pos (by simp; omega), Option.bind_some, w, Int.toNat_natCast, if_pos (by omega), if_pos (by simp; omega), Option.bind_some, List.nil_append, if_pos (by simp; omega), hs, Option.bind_some, e]
  · rw [group_Lay.no p q h K]
    unfold sizesZ at h
    unfold purlinref11_Lay.f
    by_cases a1 : (p.length : Int) < 1
    · rw [if_pos a1]
    rw [if_neg a1]
    by_cases a2 : (p.length : Int) > 4
    · rw [if_pos a2]
    rw [if_neg a2]
    by_cases a3 : (q.length : Int) < 2
    · rw [if_pos a3]
    rw [if_neg a3, if_pos (by omega)]
/-- As many below n + d as below n: none between. -/
theorem all_more (l : List Int) (n d : Nat) : (allZ l n).length ≤ (allZ l (n + d)).length ∧ ((allZ l (n + d)).length = (allZ l n).length ↔ ∀ j, n ≤ j → j < n + d → hasZ l j = false) := by
  induction d with
  | zero => exact ⟨Nat.le_refl _, fun _ j h1 h2 => absurd h1 (by omega), fun _ => rfl⟩
  | succ d ih =>
    rw [← Nat.add_assoc, allZ_succ]
    by_cases h : hasZ l (n + d) = true
    · rw [if_pos h, List.length_append, List.length_singleton]
      refine ⟨by omega, fun e => absurd e (by omega), fun g => ?_⟩
      have := g (n + d) (by omega) (by omega)
      rw [h] at this
      exact absurd this (by simp)
    · rw [if_neg h]
      refine ⟨ih.1, fun e j h1 h2 => ?_, fun g => ih.2.2 fun j h1 h2 => g j h1 (by omega)⟩
      by_cases e2 : j = n + d
      · rw [e2]
        exact Bool.eq_false_iff.mpr h
      · exact ih.2.1 e j h1 (by omega)
theorem all_fits (l : List Int) (n N : Nat) (hN : 8 * l.length = N) (hn : n ≤ N) : (allZ l N).length = (allZ l n).length ↔ fitsZ l n := by
  obtain ⟨d, rfl⟩ : ∃ d, N = n + d := ⟨N - n, by omega⟩
  rw [(all_more l n d).2]
  constructor
  · intro h j hj
    by_cases z : j < n
    · exact z
    · by_cases z2 : j < n + d
      · rw [h j (by omega) z2] at hj
        exact absurd hj (by simp)
      · rw [hasZ_out l j (by omega)] at hj
        exact absurd hj (by simp)
  · intro h j h1 h2
    by_cases g : hasZ l j = true
    · have := h j g
      omega
    · exact Bool.eq_false_iff.mpr g
theorem hasZ_take (l : List Int) (m j : Nat) (h : j < 8 * m) : hasZ (l.take m) j = hasZ l j := by
  unfold hasZ
  congr 2
  rw [List.getD_eq_getElem?_getD, List.getD_eq_getElem?_getD, List.getElem?_take, if_pos (by omega)]
theorem cut_take {l : List Int} (hl : By l) {n : Nat} (h : fitsZ l n) (hn : n ≤ 8 * l.length) : cutZ l n = l.take ((n + 7) / 8) := by
  refine set_ext (cutZ_by l n) (hl.take_ _) (by rw [cutZ_len, List.length_take]; omega) (fun j hj => ?_)
  rw [cutZ_len] at hj
  rw [cut_fits h, hasZ_take l _ j hj]
end Go.Proofs.Ytnhpmmmkcemnmaa.Pc
