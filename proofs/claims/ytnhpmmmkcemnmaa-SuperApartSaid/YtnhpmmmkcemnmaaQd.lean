/- Superblocks over lists of numbers: which geometries may be, what is laid, and what is read. -/
import Derived.Test.YtnhpmmmkcemnmaaQf
import Derived.Test.YtnhpmmmkcemnmaaPcx16
import Derived.Test.YtnhpmmmkcemnmaaPcx17
namespace Go.Proofs.Ytnhpmmmkcemnmaa.Pc
open Go.RowKit Go.Proofs.YtnhpmmmkcemnmaaW.PrintWords Go.Proofs.YtnhpmmmkcemnmaaW.PrintLast Go.Proofs.YtnhpmmmkcemnmaaW.PrintMore
set_option linter.unusedVariables false
set_option linter.unusedSimpArgs false

/-! ### geometries -/
def geomZ (g i b : Int) : Bool := decide (1 ≤ g ∧ g ≤ 8 ∧ 4 ≤ i ∧ i ≤ 32 ∧ i % 4 = 0 ∧ 16 ≤ b ∧ b ≤ 96)
theorem geomZ_is {g i b : Int} : geomZ g i b = true ↔ (1 ≤ g ∧ g ≤ 8 ∧ 4 ≤ i ∧ i ≤ 32 ∧ i % 4 = 0 ∧ 16 ≤ b ∧ b ≤ 96) := by
  unfold geomZ
  exact decide_eq_true_iff
theorem between_is (x lo hi : Int) : geom_between.f x lo hi = some (decide (lo ≤ x ∧ x ≤ hi)) := by
  unfold geom_between.f
  by_cases h : x ≥ lo
  · rw [if_pos h]
    congr 1
    exact decide_eq_decide.2 (by omega)
  · rw [if_neg h]
    congr 1
    exact (decide_eq_false (by omega)).symm
theorem geom_May.is (g i b : Int) : geom_May.f g i b = some (geomZ g i b) := by
  unfold geom_May.f
  rw [between_is, Option.bind_some, between_is, Option.bind_some, between_is, Option.bind_some]
  by_cases h1 : 1 ≤ g ∧ g ≤ 8
  · rw [if_pos (decide_eq_true h1)]
    by_cases h2 : 4 ≤ i ∧ i ≤ 32
    · rw [if_pos (decide_eq_true h2), Int.tmod_eq_emod_of_nonneg (by omega)]
      by_cases h3 : i % 4 = 0
      · rw [if_pos h3]
        congr 1
        unfold geomZ
        exact decide_eq_decide.2 (by omega)
      · rw [if_neg h3]
        congr 1
        exact (decide_eq_false (by omega)).symm
    · rw [if_neg (by simpa using h2)]
      congr 1
      exact (decide_eq_false (by omega)).symm
  · rw [if_neg (by simpa using h1)]
    congr 1
    exact (decide_eq_false (by omega)).symm

/-! ### superblocks -/
def superZ (g i b : Int) (o : Bool) : List Int := [80, 82, 76, 1, g, i, b, if o = true then 1 else 0]
theorem superZ_by {g i b : Int} {o : Bool} (h : geomZ g i b = true) : By (superZ g i b o) := by
  have h' := geomZ_is.1 h
  intro x hx
  simp only [superZ, List.mem_cons, List.not_mem_nil, or_false] at hx
  rcases hx with rfl | rfl | rfl | rfl | rfl | rfl | rfl | rfl
  all_goals first | omega | (split <;> omega)
theorem superZ_len (g i b : Int) (o : Bool) : (superZ g i b o).length ≤ 123 := by simp [superZ]
theorem super_Lay.is (g i b : Int) (o : Bool) (K : Nat) (hK : 200 ≤ K) : super_Lay.f K g i b o = some (if geomZ g i b = true then (sealZ 83 (superZ g i b o), 0) else ([], 2)) := by
  unfold super_Lay.f
  rw [geom_May.is, Option.bind_some]
  by_cases h : geomZ g i b = true
  · rw [if_pos h, if_pos h]
    have h' := geomZ_is.1 h
    have e : [80, 82, 76, 1, g % 256, i % 256, b % 256, if o = true then 1 else 0] = superZ g i b o := by
      unfold superZ
      rw [show g % 256 = g by omega, show i % 256 = i by omega, show b % 256 = b by omega]
    rw [e]
    exact seal_Seal.yes 83 _ (by omega) (by omega) (by omega) (superZ_by h) (superZ_len _ _ _ _) K hK
  · rw [if_neg h, if_neg h]
def readSuperZ (l : List Int) : Int × Int × Int × Bool × Int :=
  let x := bodyOf l
  let g := x.getD 4 0
  let i := x.getD 5 0
  let b := x.getD 6 0
  let o := x.getD 7 0 == 1
  if kindZ l = 83 ∧ geomZ g i b = true ∧ sealZ 83 (superZ g i b o) = l then (g, i, b, o, 0) else (0, 0, 0, false, 3)
theorem super_Read.is (l : List Int) (hl : By l) (K : Nat) (hK : 201 ≤ K) : super_Read.f K l = some (readSuperZ l) := by
  unfold super_Read.f readSuperZ
  rw [seal_Open.is 83 l hl K hK, Option.bind_some]
  by_cases h : kindZ l = 83
  · have hlen : l.length = 128 := kindZ_len (by omega)
    have hxl : (bodyOf l).length = 123 := by unfold bodyOf; simp; omega
    have hx := bodyOf_by hl
    have e : (if (83 : Int) ≠ 0 ∧ kindZ l = 83 then ((l.take 124).drop 1, (0 : Int)) else ([], 3)) = (bodyOf l, 0) := by
      rw [if_pos ⟨by omega, h⟩]
      rfl
    rw [e]
    simp only []
    generalize bodyOf l = x at hxl hx
    have r4 : rd x 4 = x.getD 4 0 := rfl
    have r5 : rd x 5 = x.getD 5 0 := rfl
    have r6 : rd x 6 = x.getD 6 0 := rfl
    have r7 : rd x 7 = x.getD 7 0 := rfl
    have b4 := hx.getD 4
    have b5 := hx.getD 5
    have b6 := hx.getD 6
    rw [if_pos trivial, if_pos (by omega), if_pos (by omega), if_pos (by omega), if_pos (by omega), r4, r5, r6, r7]
    generalize x.getD 4 0 = g at b4
    generalize x.getD 5 0 = i at b5
    generalize x.getD 6 0 = b at b6
    generalize (x.getD 7 0 == 1) = o
    rw [wrap64_is (x := g) (by omega) (by omega), wrap64_is (x := i) (by omega) (by omega), wrap64_is (x := b) (by omega) (by omega), super_Lay.is g i b o K (by omega), Option.bind_some]
    by_cases hg : geomZ g i b = true
    · have e2 : (if geomZ g i b = true then (sealZ 83 (superZ g i b o), (0 : Int)) else ([], 2)) = (sealZ 83 (superZ g i b o), 0) := if_pos hg
      rw [e2]
      simp only []
      rw [if_pos trivial, bytes_Equal_is _ l (sealZ_by (by omega) (by omega) (superZ_by hg)) hl, Option.bind_some]
      by_cases hs : sealZ 83 (superZ g i b o) = l
      · rw [if_pos (beq_iff_eq.mpr hs), if_pos ⟨h, hg, hs⟩]
      · rw [if_neg (fun z => hs (beq_iff_eq.mp z)), if_neg (fun z => hs z.2.2)]
    · have e2 : (if geomZ g i b = true then (sealZ 83 (superZ g i b o), (0 : Int)) else ([], 2)) = ([], 2) := if_neg hg
      rw [e2]
      simp only []
      rw [if_neg (by omega), if_neg (fun z => hg z.2.1)]
  · have e : (if (83 : Int) ≠ 0 ∧ kindZ l = 83 then ((l.take 124).drop 1, (0 : Int)) else ([], 3)) = ([], 3) := if_neg (fun z => h z.2)
    rw [e]
    simp only []
    rw [if_neg (by omega), if_neg (fun z => h z.1)]
theorem read_laid (g i b : Int) (o : Bool) (h : geomZ g i b = true) : readSuperZ (sealZ 83 (superZ g i b o)) = (g, i, b, o, 0) := by
  have e : bodyOf (sealZ 83 (superZ g i b o)) = bodyZ (superZ g i b o) := sealZ_open 83 _ (superZ_len _ _ _ _)
  have e4 : (bodyZ (superZ g i b o)).getD 4 0 = g := rfl
  have e5 : (bodyZ (superZ g i b o)).getD 5 0 = i := rfl
  have e6 : (bodyZ (superZ g i b o)).getD 6 0 = b := rfl
  have e7 : ((bodyZ (superZ g i b o)).getD 7 0 == 1) = o := by cases o <;> rfl
  unfold readSuperZ
  simp only []
  rw [e, e4, e5, e6, e7, if_pos ⟨kindZ_sealZ 83 _ (by omega) (superZ_len _ _ _ _), h, rfl⟩]
theorem read_none {l : List Int} (h : kindZ l ≠ 83) : readSuperZ l = (0, 0, 0, false, 3) := by
  unfold readSuperZ
  simp only []
  rw [if_neg (fun z => h z.1)]
theorem purlinlaw6_awake.is (K : Nat) (hK : 201 ≤ K) : purlinlaw6_awake.f K = some true := by
  unfold purlinlaw6_awake.f
  have hg : geomZ 1 4 16 = true := by decide
  have hs := sealZ_by (k := 83) (by omega) (by omega) (superZ_by (o := true) hg)
  rw [super_Lay.is 1 4 16 true K (by omega), if_pos hg, Option.bind_some]
  simp only []
  rw [super_Read.is _ hs K hK, read_laid 1 4 16 true hg, Option.bind_some, super_Read.is [] By.nil K hK, read_none (by decide), Option.bind_some, sealZ_len 83 _ (superZ_len _ _ _ _)]
  rfl
end Go.Proofs.Ytnhpmmmkcemnmaa.Pc
