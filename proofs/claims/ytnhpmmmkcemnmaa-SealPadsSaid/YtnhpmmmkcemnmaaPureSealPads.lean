/- Zeros behind a body change nothing; a sector is opened to what was sealed in it again; sealed once more it is the same: for every kind, body and number. -/
import Derived.Test.YtnhpmmmkcemnmaaPcx7
import Derived.Test.YtnhpmmmkcemnmaaQb
namespace Go.Proofs.Ytnhpmmmkcemnmaa.Pure
open Go.RowKit Go.Proofs.Ytnhpmmmkcemnmaa.Pc Go.Proofs.YtnhpmmmkcemnmaaW.PrintWords Go.Proofs.YtnhpmmmkcemnmaaW.PrintLast Go.Proofs.YtnhpmmmkcemnmaaW.PrintMore

theorem body_zeros (l : List Int) (n : Nat) (h : l.length + n ≤ 123) : bodyZ (l ++ List.replicate n 0) = bodyZ l := by
  unfold bodyZ
  rw [List.append_assoc, List.length_append, List.length_replicate, List.replicate_append_replicate]
  congr 2
  omega

theorem pads_awake (K : Nat) (hK : 300 ≤ K) (a0 : Int) (l1 : List Int) (a2 : Int) : purlinlaw2_SealPads.j0 K a0 l1 a2 true = some true := by
  obtain ⟨K, rfl⟩ : ∃ m, K = m + 1 := ⟨K - 1, by omega⟩
  simp only [purlinlaw2_SealPads.j0]
  rw [if_pos trivial, purlinlaw2_awake.is K (by omega)]
  rfl

theorem SealPads : purlinlaw2_SealPads.Pure := by
  intro a0 l1 a2 h0 hm hs hl h2
  have hb := By.of_wf hl
  have hk := bounds_u8 h0
  refine ⟨1000, ?_⟩
  unfold purlinlaw2_SealPads.f
  by_cases c1 : (l1.length : Int) > 123
  · rw [if_pos c1]
    exact pads_awake 1000 (by omega) _ _ _
  · rw [if_neg c1]
    by_cases c2 : a0 = 0
    · rw [beq_iff_eq.mpr c2]
      exact pads_awake 1000 (by omega) _ _ _
    · rw [beq_eq_false_iff_ne.mpr c2]
      have hn : l1.length ≤ 123 := by omega
      have hsb := sealZ_by hk.1 (by omega) hb
      show purlinlaw2_SealPads.j0 (999 + 1) a0 l1 a2 false = some true
      simp only [purlinlaw2_SealPads.j0]
      rw [if_neg (by decide), wrap64_is (x := 123 - (l1.length : Int)) (by omega) (by omega), wrap64_is (by omega) (by omega)]
      obtain ⟨r, hr, r0, r1⟩ := Low_is a2 (123 - (l1.length : Int) + 1) (by omega) (by omega)
      rw [hr]
      simp only [Option.bind_some]
      have hn2 : (([] : List Int) ++ l1 ++ List.replicate r.toNat 0).length ≤ 123 := by simp; omega
      have e1 : sealZ a0 ([] ++ l1 ++ List.replicate r.toNat 0) = sealZ a0 l1 := by
        rw [← sealZ_bodyZ a0 _ hn2, ← sealZ_bodyZ a0 l1 hn, List.nil_append, body_zeros l1 r.toNat (by omega)]
      rw [seal_Seal.yes a0 l1 c2 hk.1 (by omega) hb hn 999 (by omega)]
      simp only [Option.bind_some]
      rw [if_pos (by simp; omega), if_pos r0, if_pos (by simp; omega), seal_Seal.yes a0 _ c2 hk.1 (by omega) ((By.nil.app hb).app (By.zeros _)) hn2 999 (by omega), e1]
      simp only [Option.bind_some]
      rw [seal_Open.is a0 _ hsb 999 (by omega), kindZ_sealZ a0 l1 c2 hn, if_pos ⟨c2, rfl⟩, sealZ_open a0 l1 hn]
      simp only [Option.bind_some]
      rw [seal_Seal.yes a0 (bodyZ l1) c2 hk.1 (by omega) (bodyZ_by hb) (by rw [bodyZ_len l1 hn]; omega) 999 (by omega), sealZ_bodyZ a0 l1 hn]
      simp only [Option.bind_some]
      rw [if_pos trivial, if_pos trivial, if_pos trivial, if_pos trivial, same_is _ _ (by rw [sealZ_len a0 l1 hn]; omega) 999 (by rw [sealZ_len a0 l1 hn]; omega), beq_self_eq_true]
      simp only [Option.bind_some]
      rw [if_pos trivial, if_pos trivial, sealZ_len a0 l1 hn, if_pos (by omega), if_pos (by omega), rd_zero, sealZ_head, if_pos rfl, seal_Kind.is _ hsb 999 (by omega), kindZ_sealZ a0 l1 c2 hn]
      simp only [Option.bind_some]
      rw [if_pos trivial, purlinlaw2_awake.is 999 (by omega)]
      rfl

end Go.Proofs.Ytnhpmmmkcemnmaa.Pure
