/- Sectors of bits over lists of numbers: what is laid, and what is read. -/
import Derived.Test.YtnhpmmmkcemnmaaQc
import Derived.Test.YtnhpmmmkcemnmaaQf
import Derived.Test.YtnhpmmmkcemnmaaPcx21
import Derived.Test.YtnhpmmmkcemnmaaPcx22
namespace Go.Proofs.Ytnhpmmmkcemnmaa.Pc
open Go.RowKit Go.Proofs.YtnhpmmmkcemnmaaW.PrintWords Go.Proofs.YtnhpmmmkcemnmaaW.PrintLast Go.Proofs.YtnhpmmmkcemnmaaW.PrintMore
set_option linter.unusedVariables false
set_option linter.unusedSimpArgs false

theorem hasZ_pad (p : List Int) (z j : Nat) : hasZ (p ++ List.replicate z 0) j = hasZ p j := by
  unfold hasZ
  congr 2
  rw [List.getD_eq_getElem?_getD, List.getD_eq_getElem?_getD]
  by_cases h : j / 8 < p.length
  · rw [List.getElem?_append_left h]
  · rw [List.getElem?_append_right (by omega), List.getElem?_eq_none (l := p) (by omega), List.getElem?_replicate]
    split <;> rfl
/-- The first n bits. -/
def cutZ (l : List Int) (n : Nat) : List Int := setZ n (intsZ (allZ l n))
theorem cutZ_len (l : List Int) (n : Nat) : (cutZ l n).length = (n + 7) / 8 := setZ_len _ _
theorem cutZ_by (l : List Int) (n : Nat) : By (cutZ l n) := setZ_by _ _
theorem mem_ints (l : List Nat) (j : Nat) : (j : Int) ∈ intsZ l ↔ j ∈ l := by
  unfold intsZ
  rw [List.mem_map]
  constructor
  · rintro ⟨x, hx, he⟩
    rwa [← Int.ofNat.inj he]
  · intro h
    exact ⟨j, h, rfl⟩
theorem mem_all (l : List Int) (n j : Nat) : j ∈ allZ l n ↔ j < n ∧ hasZ l j = true := by
  unfold allZ
  rw [List.mem_filter, List.mem_range]
theorem hasZ_cutZ (l : List Int) (n j : Nat) : hasZ (cutZ l n) j = (decide (j < n) && hasZ l j) := by
  unfold cutZ
  rw [hasZ_setZ]
  by_cases h : j < n
  · rw [decide_eq_true h, Bool.true_and, Bool.true_and]
    by_cases g : hasZ l j = true
    · rw [g]
      exact decide_eq_true ((mem_ints _ _).2 ((mem_all _ _ _).2 ⟨h, g⟩))
    · rw [Bool.eq_false_iff.mpr g]
      exact decide_eq_false fun z => g ((mem_all _ _ _).1 ((mem_ints _ _).1 z)).2
  · rw [decide_eq_false h]
    rfl
theorem allZ_congr {l m : List Int} {n : Nat} (h : ∀ j, j < n → hasZ l j = hasZ m j) : allZ l n = allZ m n := by
  unfold allZ
  refine List.filter_congr fun j hj => h j (List.mem_range.1 hj)
theorem cutZ_congr {l m : List Int} {n : Nat} (h : ∀ j, j < n → hasZ l j = hasZ m j) : cutZ l n = cutZ m n := by
  unfold cutZ
  rw [allZ_congr h]
/-- No bit lies beyond. -/
def fitsZ (l : List Int) (n : Nat) : Prop := ∀ j, hasZ l j = true → j < n

/-! ### what is laid -/
theorem groupZ_len (p q : List Int) (hp : p.length ≤ 4) (hq : q.length ≤ 12) : (group_Lay.body p q).length = 16 := by
  unfold group_Lay.body
  simp
  omega
theorem groupZ_by {p q : List Int} (hp : By p) (hq : By q) : By (group_Lay.body p q) := hp.app ((By.zeros _).app (hq.app (By.zeros _)))
def sizesZ (p q : List Int) : Prop := 1 ≤ p.length ∧ p.length ≤ 4 ∧ 2 ≤ q.length ∧ q.length ≤ 12
theorem group_Lay.yes (p q : List Int) (hp : By p) (hq : By q) (h : sizesZ p q) (K : Nat) (hK : 200 ≤ K) : group_Lay.f K p q = some (sealZ 71 (group_Lay.body p q), 0) := by
  obtain ⟨h1, h2, h3, h4⟩ := h
  unfold group_Lay.f
  rw [if_neg (by omega), if_neg (by omega), if_neg (by omega), if_neg (by omega)]
  exact seal_Seal.yes 71 _ (by omega) (by omega) (by omega) (groupZ_by hp hq) (by rw [groupZ_len p q h2 h4]; omega) K hK
theorem group_Lay.no (p q : List Int) (h : ¬ sizesZ p q) (K : Nat) : group_Lay.f K p q = some ([], 2) := by
  unfold sizesZ at h
  unfold group_Lay.f
  by_cases a1 : (p.length : Int) < 1
  · rw [if_pos a1]
  rw [if_neg a1]
  by_cases a2 : (p.length : Int) > 4
  · rw [if_pos a2]
  rw [if_neg a2]
  by_cases a3 : (q.length : Int) < 2
  · rw [if_pos a3]
  rw [if_neg a3, if_pos (by omega)]
/-- The two halves of a body. -/
def headZ (l : List Int) : List Int := (bodyOf l).take 4
def tailZ (l : List Int) : List Int := ((bodyOf l).take 16).drop 4
theorem laid_bodyOf (p q : List Int) (hp : p.length ≤ 4) (hq : q.length ≤ 12) : bodyOf (sealZ 71 (group_Lay.body p q)) = bodyZ (group_Lay.body p q) := sealZ_open 71 _ (by rw [groupZ_len p q hp hq]; omega)
theorem laid_head (p q : List Int) (hp : p.length ≤ 4) (hq : q.length ≤ 12) : headZ (sealZ 71 (group_Lay.body p q)) = p ++ List.replicate (4 - p.length) 0 := by
  unfold headZ
  rw [laid_bodyOf p q hp hq]
  unfold bodyZ group_Lay.body
  rw [← List.append_assoc p, List.append_assoc (p ++ _)]
  exact List.take_left' (by simp; omega)
theorem laid_tail (p q : List Int) (hp : p.length ≤ 4) (hq : q.length ≤ 12) : tailZ (sealZ 71 (group_Lay.body p q)) = q ++ List.replicate (12 - q.length) 0 := by
  unfold tailZ
  rw [laid_bodyOf p q hp hq]
  unfold bodyZ
  rw [List.take_left' (groupZ_len p q hp hq)]
  unfold group_Lay.body
  rw [← List.append_assoc p]
  exact List.drop_left' (by simp; omega)

/-! ### what is read -/
def spanZ (n m : Int) : Prop := 4 ≤ n ∧ n ≤ 32 ∧ 16 ≤ m ∧ m ≤ 96
instance (n m : Int) : Decidable (spanZ n m) := by unfold spanZ; infer_instance
def readGroupZ (l : List Int) (n m : Int) : List Int × List Int × Int :=
  if spanZ n m then
    (if kindZ l = 71 ∧ sealZ 71 (group_Lay.body (cutZ (headZ l) n.toNat) (cutZ (tailZ l) m.toNat)) = l then (cutZ (headZ l) n.toNat, cutZ (tailZ l) m.toNat, 0) else ([], [], 3))
  else ([], [], 2)
theorem cut_sizes (x y : List Int) (n m : Nat) (h : 4 ≤ n ∧ n ≤ 32 ∧ 16 ≤ m ∧ m ≤ 96) : sizesZ (cutZ x n) (cutZ y m) := by
  unfold sizesZ
  rw [cutZ_len, cutZ_len]
  omega
theorem group_Read.is (l : List Int) (hl : By l) (n m : Int) (K : Nat) (hK : 300 ≤ K) : group_Read.f K l n m = some (readGroupZ l n m) := by
  obtain ⟨K, rfl⟩ : ∃ t, K = t + 1 := ⟨K - 1, by omega⟩
  unfold group_Read.f readGroupZ
  have out : group_Read.j0 (K + 1) l n m true = some ([], [], 2) := by
    simp only [group_Read.j0]
    rw [if_pos trivial]
  by_cases h : spanZ n m
  · have h' := h
    obtain ⟨h1, h2, h3, h4⟩ := h
    rw [if_neg (by omega), if_neg (by omega), if_neg (by omega), decide_eq_false (by omega), if_pos h']
    simp only [group_Read.j0]
    rw [if_neg Bool.false_ne_true, seal_Open.is 71 l hl K (by omega), Option.bind_some]
    by_cases hk : kindZ l = 71
    · have e : (if (71 : Int) ≠ 0 ∧ kindZ l = 71 then ((l.take 124).drop 1, (0 : Int)) else ([], 3)) = (bodyOf l, 0) := by
        rw [if_pos ⟨by omega, hk⟩]
        rfl
      rw [e]
      simp only []
      have hlen : l.length = 128 := kindZ_len (by omega)
      have hxl : (bodyOf l).length = 123 := by unfold bodyOf; simp; omega
      have hx := bodyOf_by hl
      obtain ⟨N, rfl⟩ := Int.eq_ofNat_of_zero_le (show 0 ≤ n by omega)
      obtain ⟨M, rfl⟩ := Int.eq_ofNat_of_zero_le (show 0 ≤ m by omega)
      have hA := allZ_len (headZ l) N
      have hB := allZ_len (tailZ l) M
      have hh : By (headZ l) := hx.take_ 4
      have ht : By (tailZ l) := (hx.take_ 16).drop_ 4
      have hhl : (headZ l).length = 4 := by unfold headZ; simp; omega
      have htl : (tailZ l).length = 12 := by unfold tailZ; simp; omega
      rw [if_pos trivial, if_pos (by omega)]
      show ((bits_All.f K (headZ l) (N : Int)).bind fun t465 => _) = _
      rw [bits_All.is _ hh (by omega) N (by omega) K (by omega), Option.bind_some, bits_Of.is N (by omega) _ (by unfold intsZ; rw [List.length_map]; omega) K (by unfold intsZ; rw [List.length_map]; omega), Option.bind_some, if_pos (by omega), if_pos (by omega)]
      show ((bits_All.f K (tailZ l) (M : Int)).bind fun t465 => _) = _
      rw [bits_All.is _ ht (by omega) M (by omega) K (by omega), Option.bind_some, bits_Of.is M (by omega) _ (by unfold intsZ; rw [List.length_map]; omega) K (by unfold intsZ; rw [List.length_map]; omega), Option.bind_some]
      rw [group_Lay.yes _ _ (setZ_by _ _) (setZ_by _ _) (cut_sizes (headZ l) (tailZ l) N M (by omega)) K (by omega), Option.bind_some]
      simp only []
      rw [if_pos trivial, bytes_Equal_is _ l (sealZ_by (by omega) (by omega) (groupZ_by (setZ_by _ _) (setZ_by _ _))) hl, Option.bind_some]
      show (if (sealZ 71 (group_Lay.body (cutZ (headZ l) N) (cutZ (tailZ l) M)) == l) = true then some (cutZ (headZ l) N, cutZ (tailZ l) M, (0 : Int)) else some ([], [], 3)) = _
      rw [Int.toNat_natCast, Int.toNat_natCast]
      by_cases hs : sealZ 71 (group_Lay.body (cutZ (headZ l) N) (cutZ (tailZ l) M)) = l
      · rw [if_pos (beq_iff_eq.mpr hs), if_pos ⟨hk, hs⟩]
      · rw [if_neg (fun z => hs (beq_iff_eq.mp z)), if_neg (fun z => hs z.2)]
    · have e : (if (71 : Int) ≠ 0 ∧ kindZ l = 71 then ((l.take 124).drop 1, (0 : Int)) else ([], 3)) = ([], 3) := if_neg (fun z => hk z.2)
      rw [e]
      simp only []
      rw [if_neg (by omega), if_neg (fun z => hk z.1)]
  · rw [if_neg h]
    unfold spanZ at h
    by_cases a1 : n < 4
    · rw [if_pos a1, out]
    rw [if_neg a1]
    by_cases a2 : n > 32
    · rw [if_pos a2, out]
    rw [if_neg a2]
    by_cases a3 : m < 16
    · rw [if_pos a3, out]
    rw [if_neg a3, decide_eq_true (by omega), out]
theorem pad_ext {x p : List Int} (hx : By x) (hp : By p) (N : Nat) (hxl : x.length ≤ N) (hpl : p.length ≤ N) (h : ∀ j, hasZ x j = hasZ p j) : x ++ List.replicate (N - x.length) 0 = p ++ List.replicate (N - p.length) 0 :=
  set_ext (hx.app (By.zeros _)) (hp.app (By.zeros _)) (by simp; omega) (fun j _ => by rw [hasZ_pad, hasZ_pad]; exact h j)
theorem body_split {p q x y : List Int} (hp : p.length ≤ 4) (hx : x.length ≤ 4) (h : group_Lay.body p q = group_Lay.body x y) :
    p ++ List.replicate (4 - p.length) 0 = x ++ List.replicate (4 - x.length) 0 ∧ q ++ List.replicate (12 - q.length) 0 = y ++ List.replicate (12 - y.length) 0 := by
  unfold group_Lay.body at h
  rw [← List.append_assoc, ← List.append_assoc x] at h
  exact List.append_inj h (by simp; omega)
theorem cut_fits {p : List Int} {n : Nat} (h : fitsZ p n) (j : Nat) : hasZ (cutZ p n) j = hasZ p j := by
  rw [hasZ_cutZ]
  by_cases g : hasZ p j = true
  · rw [g, decide_eq_true (h j g)]
    rfl
  · rw [Bool.eq_false_iff.mpr g, Bool.and_false]
/-- What was laid is read again just if no bit lies beyond. -/
theorem read_group (p q : List Int) (hp : By p) (hq : By q) (hpl : p.length ≤ 4) (hql : q.length ≤ 12) (n m : Nat) (h : 4 ≤ n ∧ n ≤ 32 ∧ 16 ≤ m ∧ m ≤ 96) :
    (fitsZ p n ∧ fitsZ q m → readGroupZ (sealZ 71 (group_Lay.body p q)) n m = (cutZ p n, cutZ q m, 0)) ∧
    (¬ (fitsZ p n ∧ fitsZ q m) → readGroupZ (sealZ 71 (group_Lay.body p q)) n m = ([], [], 3)) := by
  have hs : spanZ n m := by unfold spanZ; omega
  have hbl := groupZ_len p q hpl hql
  have hk : kindZ (sealZ 71 (group_Lay.body p q)) = 71 := kindZ_sealZ 71 _ (by omega) (by omega)
  unfold readGroupZ
  rw [if_pos hs, laid_head p q hpl hql, laid_tail p q hpl hql, Int.toNat_natCast, Int.toNat_natCast]
  have c1 : cutZ (p ++ List.replicate (4 - p.length) 0) n = cutZ p n := cutZ_congr fun j _ => hasZ_pad _ _ _
  have c2 : cutZ (q ++ List.replicate (12 - q.length) 0) m = cutZ q m := cutZ_congr fun j _ => hasZ_pad _ _ _
  have l1 : (cutZ p n).length ≤ 4 := by rw [cutZ_len]; omega
  have l2 : (cutZ q m).length ≤ 12 := by rw [cutZ_len]; omega
  have hbl2 := groupZ_len (cutZ p n) (cutZ q m) l1 l2
  rw [c1, c2]
  constructor
  · rintro ⟨f1, f2⟩
    have e : group_Lay.body (cutZ p n) (cutZ q m) = group_Lay.body p q := by
      have a := pad_ext (cutZ_by p n) hp 4 l1 hpl (cut_fits f1)
      have b := pad_ext (cutZ_by q m) hq 12 l2 hql (cut_fits f2)
      unfold group_Lay.body
      rw [← List.append_assoc, ← List.append_assoc p, a, b]
    rw [if_pos ⟨hk, by rw [e]⟩]
  · intro f
    rw [if_neg]
    rintro ⟨_, e⟩
    refine f ?_
    have e2 := ((sealZ_inj 71 71 _ _ (by omega) (by omega)).1 e).2
    unfold bodyZ at e2
    have e3 := (List.append_inj e2 (by omega)).1
    obtain ⟨e4, e5⟩ := body_split l1 hpl e3
    constructor
    · intro j hj
      have := hasZ_pad (cutZ p n) (4 - (cutZ p n).length) j
      rw [e4, hasZ_pad, hj, hasZ_cutZ] at this
      by_cases z : j < n
      · exact z
      · rw [decide_eq_false z] at this
        exact absurd this (by simp)
    · intro j hj
      have := hasZ_pad (cutZ q m) (12 - (cutZ q m).length) j
      rw [e5, hasZ_pad, hj, hasZ_cutZ] at this
      by_cases z : j < m
      · exact z
      · rw [decide_eq_false z] at this
        exact absurd this (by simp)
theorem fits_setZ (n : Nat) (is : List Int) : fitsZ (setZ n is) n := by
  intro j hj
  rw [hasZ_setZ] at hj
  exact of_decide_eq_true ((Bool.and_eq_true _ _ ▸ hj).1)
theorem cut_setZ (n : Nat) (is : List Int) : cutZ (setZ n is) n = setZ n is :=
  set_ext (cutZ_by _ _) (setZ_by _ _) (by rw [cutZ_len, setZ_len]) (fun j _ => cut_fits (fits_setZ n is) j)
theorem purlinlaw11_awake.is (K : Nat) (hK : 300 ≤ K) : purlinlaw11_awake.f K = some true := by
  unfold purlinlaw11_awake.f
  have b1 : By [1] := by intro x hx; simp at hx; omega
  have b2 : By [0, 3] := by intro x hx; simp at hx; omega
  have sz : sizesZ [1] [0, 3] := by unfold sizesZ; simp
  have f1 : cutZ [1] 8 = [1] := by decide
  have f2 : cutZ [0, 3] 16 = [0, 3] := by decide
  have g1 : fitsZ [1] 8 := by
    intro j hj
    by_cases z : j < 8
    · exact z
    · rw [hasZ_out _ _ (by simp; omega)] at hj
      exact absurd hj (by simp)
  have g2 : fitsZ [0, 3] 16 := by
    intro j hj
    by_cases z : j < 16
    · exact z
    · rw [hasZ_out _ _ (by simp; omega)] at hj
      exact absurd hj (by simp)
  have r := (read_group [1] [0, 3] b1 b2 (by simp) (by simp) 8 16 (by omega)).1 ⟨g1, g2⟩
  have r3 : readGroupZ (sealZ 71 (group_Lay.body [1] [0, 3])) 3 16 = ([], [], 2) := by
    unfold readGroupZ
    rw [if_neg (by unfold spanZ; omega)]
  have hl : By (sealZ 71 (group_Lay.body [1] [0, 3])) := sealZ_by (by omega) (by omega) (groupZ_by b1 b2)
  rw [group_Lay.yes [1] [0, 3] b1 b2 sz K (by omega), Option.bind_some]
  simp only []
  rw [group_Read.is _ hl 8 16 K (by omega), Option.bind_some, group_Read.is _ hl 3 16 K (by omega), Option.bind_some, r3]
  have r' : readGroupZ (sealZ 71 (group_Lay.body [1] [0, 3])) 8 16 = (cutZ [1] 8, cutZ [0, 3] 16, 0) := r
  rw [r', f1, f2, sealZ_len 71 _ (by rw [groupZ_len _ _ (by simp) (by simp)]; omega)]
  simp only []
  rw [if_pos (by omega), if_pos trivial, if_pos trivial, same_is _ _ (by simp) K (by simp; omega), Option.bind_some, if_pos (by decide), same_is _ _ (by simp) K (by simp; omega), Option.bind_some, if_pos (by decide)]
  rfl
end Go.Proofs.Ytnhpmmmkcemnmaa.Pc
