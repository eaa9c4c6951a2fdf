/- The document's superblocks are the program's. -/
import Derived.Test.YtnhpmmmkcemnmaaQd
import Derived.Test.YtnhpmmmkcemnmaaQr
import Derived.Test.YtnhpmmmkcemnmaaPcx18
import Derived.Test.YtnhpmmmkcemnmaaPcx19
namespace Go.Proofs.Ytnhpmmmkcemnmaa.Pc
open Go.RowKit Go.Proofs.YtnhpmmmkcemnmaaW.PrintWords Go.Proofs.YtnhpmmmkcemnmaaW.PrintLast Go.Proofs.YtnhpmmmkcemnmaaW.PrintMore
set_option linter.unusedVariables false
set_option linter.unusedSimpArgs false

theorem ref5_May.is (g i b : Int) : purlinref5_May.f g i b = some (geomZ g i b) := by
  unfold purlinref5_May.f geomZ
  have ht : 4 ≤ i → Int.tmod i 4 = i % 4 := fun h => Int.tmod_eq_emod_of_nonneg (by omega)
  by_cases c1 : g ≥ 1
  · rw [if_pos c1]
    by_cases c2 : g ≤ 8
    · rw [if_pos c2]
      by_cases c3 : i ≥ 4
      · rw [if_pos c3]
        by_cases c4 : i ≤ 32
        · rw [if_pos c4, ht c3]
          by_cases c5 : i % 4 = 0
          · rw [if_pos c5]
            by_cases c6 : b ≥ 16
            · rw [if_pos c6]
              congr 1
              exact decide_eq_decide.2 (by omega)
            · rw [if_neg c6, decide_eq_false (by omega)]
          · rw [if_neg c5, decide_eq_false (by omega)]
        · rw [if_neg c4, decide_eq_false (by omega)]
      · rw [if_neg c3, decide_eq_false (by omega)]
    · rw [if_neg c2, decide_eq_false (by omega)]
  · rw [if_neg c1, decide_eq_false (by omega)]
theorem ref6_Lay.is (g i b : Int) (o : Bool) (K : Nat) (hK : 200 ≤ K) : purlinref6_Lay.f K g i b o = some (if geomZ g i b = true then (sealZ 83 (superZ g i b o), 0) else ([], 2)) := by
  unfold purlinref6_Lay.f
  rw [ref5_May.is, Option.bind_some]
  by_cases h : geomZ g i b = true
  · rw [if_pos h, if_pos h]
    have h' := geomZ_is.1 h
    have hs := ref2_Seal.is 83 (superZ g i b o) (by omega) (by omega) (superZ_by h) K hK
    rw [if_neg (by have := superZ_len g i b o; omega)] at hs
    rw [Option.bind_some, show g % 256 = g by omega, show i % 256 = i by omega, show b % 256 = b by omega]
    cases o
    · rw [if_neg Bool.false_ne_true]
      show ((purlinref2_Seal.f K 83 (superZ g i b false)).bind _) = _
      rw [hs]
      rfl
    · rw [if_pos rfl, if_pos (by simp)]
      show ((purlinref2_Seal.f K 83 (superZ g i b true)).bind _) = _
      rw [hs]
      rfl
  · rw [if_neg h, if_neg h]
theorem ref6_Read.is (l : List Int) (hl : By l) (K : Nat) (hK : 201 ≤ K) : purlinref6_Read.f K l = some (readSuperZ l) := by
  unfold purlinref6_Read.f readSuperZ
  rw [ref2_Open.is 83 l hl K hK, Option.bind_some]
  by_cases h : kindZ l = 83
  · have hlen : l.length = 128 := kindZ_len (by omega)
    have hxl : (bodyOf l).length = 123 := by unfold bodyOf; simp; omega
    have hx := bodyOf_by hl
    have e : (if (83 : Int) ≠ 0 ∧ kindZ l = 83 then ((l.take 124).drop 1, (0 : Int)) else ([], 3)) = (bodyOf l, 0) := by
      rw [if_pos ⟨by omega, h⟩]
      rfl
    rw [e]
    simp only []
    generalize bodyOf l = x at hxl hx
    have r4 : rd x 4 = x.getD 4 0 := rfl
    have r5 : rd x 5 = x.getD 5 0 := rfl
    have r6 : rd x 6 = x.getD 6 0 := rfl
    have r7 : rd x 7 = x.getD 7 0 := rfl
    have b4 := hx.getD 4
    have b5 := hx.getD 5
    have b6 := hx.getD 6
    rw [if_pos trivial, if_pos (by omega), if_pos (by omega), if_pos (by omega), if_pos (by omega), r4, r5, r6, r7]
    generalize x.getD 4 0 = g at b4
    generalize x.getD 5 0 = i at b5
    generalize x.getD 6 0 = b at b6
    generalize (x.getD 7 0 == 1) = o
    rw [wrap64_is (x := g) (by omega) (by omega), wrap64_is (x := i) (by omega) (by omega), wrap64_is (x := b) (by omega) (by omega), ref6_Lay.is g i b o K (by omega), Option.bind_some]
    by_cases hg : geomZ g i b = true
    · have e2 : (if geomZ g i b = true then (sealZ 83 (superZ g i b o), (0 : Int)) else ([], 2)) = (sealZ 83 (superZ g i b o), 0) := if_pos hg
      rw [e2]
      simp only []
      rw [if_pos trivial]
      simp only [strs_eq (sealZ_by (k := 83) (by omega) (by omega) (superZ_by (o := o) hg)) hl]
      by_cases hs : sealZ 83 (superZ g i b o) = l
      · rw [if_pos hs, if_pos ⟨h, hg, hs⟩]
      · rw [if_neg hs, if_neg (fun z => hs z.2.2)]
    · have e2 : (if geomZ g i b = true then (sealZ 83 (superZ g i b o), (0 : Int)) else ([], 2)) = ([], 2) := if_neg hg
      rw [e2]
      simp only []
      rw [if_neg (by omega), if_neg (fun z => hg z.2.1)]
  · have e : (if (83 : Int) ≠ 0 ∧ kindZ l = 83 then ((l.take 124).drop 1, (0 : Int)) else ([], 3)) = ([], 3) := if_neg (fun z => h z.2)
    rw [e]
    simp only []
    rw [if_neg (by omega), if_neg (fun z => h z.1)]
end Go.Proofs.Ytnhpmmmkcemnmaa.Pc
