/- What the document reads out of a sector of bits is what the program reads. -/
import Derived.Test.YtnhpmmmkcemnmaaQg
import Derived.Test.YtnhpmmmkcemnmaaHr11
namespace Go.Proofs.Ytnhpmmmkcemnmaa.Pc
open Go.RowKit Go.Proofs.YtnhpmmmkcemnmaaW.PrintWords Go.Proofs.YtnhpmmmkcemnmaaW.PrintLast Go.Proofs.YtnhpmmmkcemnmaaW.PrintMore
set_option linter.unusedVariables false
set_option linter.unusedSimpArgs false

def restZ (B : List Int) : Prop := ∀ q, 16 ≤ q → q < 123 → B.getD q 0 = 0
theorem ref11_end (B h t : List Int) (hh : By h) (ht : By t) (hl : h.length = 4) (tl : t.length = 12) (bl : B.length = 123) (N M : Nat) (nm : 4 ≤ N ∧ N ≤ 32 ∧ 16 ≤ M ∧ M ≤ 96) (r : List Int × List Int × Int)
    (h1 : fitsZ h N ∧ fitsZ t M → r = (h.take ((N + 7) / 8), t.take ((M + 7) / 8), 0)) (h2 : ¬ (fitsZ h N ∧ fitsZ t M) → r = ([], [], 3)) (K : Nat) (hK : 400 ≤ K) :
    purlinref11_Read.l0 (K + 1) (N : Int) (M : Int) B h t 123 = some r := by
  have e1 := ref3_All.is h hh (by omega) 32 (by omega) K (by omega)
  have e2 := ref3_All.is h hh (by omega) N (by omega) K (by omega)
  have e3 := ref3_All.is t ht (by omega) 96 (by omega) K (by omega)
  have e4 := ref3_All.is t ht (by omega) M (by omega) K (by omega)
  rw [show ((32 : Nat) : Int) = 32 from rfl] at e1
  rw [show ((96 : Nat) : Int) = 96 from rfl] at e3
  have f1 := all_fits h N 32 (by omega) (by omega)
  have f2 := all_fits t M 96 (by omega) (by omega)
  have il : ∀ l : List Nat, (intsZ l).length = l.length := fun l => by unfold intsZ; rw [List.length_map]
  have q1 := il (allZ h 32)
  have q2 := il (allZ h N)
  have q3 := il (allZ t 96)
  have q4 := il (allZ t M)
  have t1 : Int.tdiv ((N : Int) + 7) 8 = (((N + 7) / 8 : Nat) : Int) := by rw [Int.tdiv_eq_ediv_of_nonneg (by omega)]; omega
  have t2 : Int.tdiv ((M : Int) + 7) 8 = (((M + 7) / 8 : Nat) : Int) := by rw [Int.tdiv_eq_ediv_of_nonneg (by omega)]; omega
  have w1 := Aside0.mk (show wrap64 (Int.tdiv (wrap64 ((N : Int) + 7)) 8) = (((N + 7) / 8 : Nat) : Int) by
    rw [wrap64_is (x := (N : Int) + 7) (by omega) (by omega), t1]
    exact wrap64_is (by omega) (by omega))
  have w2 := Aside0.mk (show wrap64 (Int.tdiv (wrap64 ((M : Int) + 7)) 8) = (((M + 7) / 8 : Nat) : Int) by
    rw [wrap64_is (x := (M : Int) + 7) (by omega) (by omega), t2]
    exact wrap64_is (by omega) (by omega))
  clear t1 t2
  generalize allZ h 32 = a1 at *
  generalize allZ h N = a2 at *
  generalize allZ t 96 = a3 at *
  generalize allZ t M = a4 at *
  generalize intsZ a1 = b1 at *
  generalize intsZ a2 = b2 at *
  generalize intsZ a3 = b3 at *
  generalize intsZ a4 = b4 at *
  simp only [purlinref11_Read.l0]
  rw [if_neg (by omega), e1, Option.bind_some, e2, Option.bind_some]
  by_cases g1 : (b1.length : Int) = (b2.length : Int)
  · rw [if_pos g1, e3, Option.bind_some, e4, Option.bind_some]
    by_cases g2 : (b3.length : Int) = (b4.length : Int)
    · rw [if_pos g2, w1.out, w2.out, Int.toNat_natCast, Int.toNat_natCast, if_pos (by omega), if_pos (by omega), if_pos (by simp; omega), if_pos (by omega), if_pos (by omega), if_pos (by simp; omega), List.nil_append, List.nil_append]
      rw [h1 ⟨f1.1 (by omega), f2.1 (by omega)⟩]
    · rw [if_neg g2, h2 (fun z => g2 (by have := f2.2 z.2; omega))]
  · rw [if_neg g1, h2 (fun z => g1 (by have := f1.2 z.1; omega))]
theorem ref11_l0 (B h t : List Int) (hh : By h) (ht : By t) (hl : h.length = 4) (tl : t.length = 12) (bl : B.length = 123) (N M : Nat) (nm : 4 ≤ N ∧ N ≤ 32 ∧ 16 ≤ M ∧ M ≤ 96) (r : List Int × List Int × Int)
    (h1 : restZ B ∧ fitsZ h N ∧ fitsZ t M → r = (h.take ((N + 7) / 8), t.take ((M + 7) / 8), 0)) (h2 : ¬ (restZ B ∧ fitsZ h N ∧ fitsZ t M) → r = ([], [], 3)) (d : Nat) : ∀ (K i : Nat), i + d = 123 → 401 + d ≤ K → (∀ q, 16 ≤ q → q < i → B.getD q 0 = 0) →
    purlinref11_Read.l0 K (N : Int) (M : Int) B h t (i : Int) = some r := by
  induction d with
  | zero =>
    intro K i hi hK hz
    obtain ⟨K, rfl⟩ : ∃ m, K = m + 1 := ⟨K - 1, by omega⟩
    obtain rfl : i = 123 := by omega
    exact ref11_end B h t hh ht hl tl bl N M nm r (fun z => h1 ⟨hz, z.1, z.2⟩) (fun z => h2 fun y => z ⟨y.2.1, y.2.2⟩) K (by omega)
  | succ d ih =>
    intro K i hi hK hz
    obtain ⟨K, rfl⟩ : ∃ m, K = m + 1 := ⟨K - 1, by omega⟩
    have w := Aside0.mk (show wrap64 ((i : Int) + 1) = ((i + 1 : Nat) : Int) from wrap64_is (by omega) (by omega))
    have rb : rd B (i : Int) = B.getD i 0 := rfl
    simp only [purlinref11_Read.l0]
    rw [if_pos (by omega), w.out]
    by_cases g : (i : Int) ≥ 16
    · rw [if_pos g, if_pos (by omega), rb]
      by_cases z : B.getD i 0 = 0
      · rw [if_pos z]
        refine ih K (i + 1) (by omega) (by omega) (fun q q1 q2 => ?_)
        by_cases e : q = i
        · rw [e]; exact z
        · exact hz q q1 (by omega)
      · rw [if_neg z, h2 (fun y => z (y.1 i (by omega) (by omega)))]
    · rw [if_neg g]
      exact ih K (i + 1) (by omega) (by omega) (fun q q1 q2 => hz q q1 (by omega))
theorem split_body (B : List Int) (bl : B.length = 123) : B = B.take 4 ++ ((B.take 16).drop 4 ++ B.drop 16) := by
  have e1 : (B.take 16).drop 4 ++ B.drop 16 = B.drop 4 := by
    have h : B.take 16 ++ B.drop 16 = B := List.take_append_drop 16 B
    have h2 := congrArg (List.drop 4) h
    rw [List.drop_append_of_le_length (by rw [List.length_take]; omega)] at h2
    exact h2
  rw [e1, List.take_append_drop]
theorem relaid (l : List Int) (hl : By l) (hk : kindZ l = 71) (N M : Nat) (nm : 4 ≤ N ∧ N ≤ 32 ∧ 16 ≤ M ∧ M ≤ 96) :
    sealZ 71 (group_Lay.body (cutZ (headZ l) N) (cutZ (tailZ l) M)) = l ↔ (restZ (bodyOf l) ∧ fitsZ (headZ l) N ∧ fitsZ (tailZ l) M) := by
  have hlen : l.length = 128 := kindZ_len (by omega)
  have bl : (bodyOf l).length = 123 := by unfold bodyOf; simp; omega
  have hb := bodyOf_by hl
  have hs : sealZ 71 (bodyOf l) = l := by
    have := kindZ_seal (b := l) (by omega)
    rw [hk] at this
    exact this
  have l1 : (cutZ (headZ l) N).length ≤ 4 := by rw [cutZ_len]; omega
  have l2 : (cutZ (tailZ l) M).length ≤ 12 := by rw [cutZ_len]; omega
  have hbl := groupZ_len (cutZ (headZ l) N) (cutZ (tailZ l) M) l1 l2
  have hhl : (headZ l).length = 4 := by unfold headZ; simp; omega
  have htl : (tailZ l).length = 12 := by unfold tailZ; simp; omega
  have hh : By (headZ l) := hb.take_ 4
  have ht : By (tailZ l) := (hb.take_ 16).drop_ 4
  have sp : bodyOf l = headZ l ++ (tailZ l ++ (bodyOf l).drop 16) := split_body (bodyOf l) bl
  have bz : bodyZ (bodyOf l) = bodyOf l := by unfold bodyZ; rw [bl]; simp
  have bx : bodyZ (group_Lay.body (cutZ (headZ l) N) (cutZ (tailZ l) M)) = (cutZ (headZ l) N ++ List.replicate (4 - (cutZ (headZ l) N).length) 0) ++ ((cutZ (tailZ l) M ++ List.replicate (12 - (cutZ (tailZ l) M).length) 0) ++ List.replicate 107 0) := by
    unfold bodyZ
    rw [hbl]
    unfold group_Lay.body
    simp only [List.append_assoc]
  have key : sealZ 71 (group_Lay.body (cutZ (headZ l) N) (cutZ (tailZ l) M)) = l ↔ bodyZ (group_Lay.body (cutZ (headZ l) N) (cutZ (tailZ l) M)) = bodyOf l := by
    have := sealZ_inj 71 71 (group_Lay.body (cutZ (headZ l) N) (cutZ (tailZ l) M)) (bodyOf l) (by omega) (by omega)
    rw [hs, bz] at this
    rw [this]
    exact ⟨fun z => z.2, fun z => ⟨rfl, z⟩⟩
  have c1 := hasZ_cutZ (headZ l) N
  have c2 := hasZ_cutZ (tailZ l) M
  have p1 := fun f : fitsZ (headZ l) N => pad_ext (cutZ_by (headZ l) N) hh 4 l1 (by omega) (cut_fits f)
  have p2 := fun f : fitsZ (tailZ l) M => pad_ext (cutZ_by (tailZ l) M) ht 12 l2 (by omega) (cut_fits f)
  rw [key, bx]
  unfold restZ
  rw [hhl] at p1
  rw [htl] at p2
  have pd : ∀ (u : List Int) (z j : Nat), hasZ (u ++ List.replicate z 0) j = hasZ u j := hasZ_pad
  constructor
  · intro e
    rw [sp] at e
    have e1 := List.append_inj e (by rw [hhl]; simp; omega)
    have e2 := List.append_inj e1.2 (by rw [htl]; simp; omega)
    refine ⟨fun q q1 q2 => ?_, fun j hj => ?_, fun j hj => ?_⟩
    · have e3 : (bodyOf l).getD q 0 = ((bodyOf l).drop 16).getD (q - 16) 0 := by
        rw [List.getD_eq_getElem?_getD, List.getD_eq_getElem?_getD, List.getElem?_drop, show 16 + (q - 16) = q by omega]
      rw [e3, ← e2.2, List.getD_eq_getElem?_getD, List.getElem?_replicate]
      split <;> rfl
    · have := pd (cutZ (headZ l) N) (4 - (cutZ (headZ l) N).length) j
      rw [e1.1, hj, c1] at this
      by_cases z : j < N
      · exact z
      · rw [decide_eq_false z] at this
        exact absurd this (by simp)
    · have := pd (cutZ (tailZ l) M) (12 - (cutZ (tailZ l) M).length) j
      rw [e2.1, hj, c2] at this
      by_cases z : j < M
      · exact z
      · rw [decide_eq_false z] at this
        exact absurd this (by simp)
  · rintro ⟨r0, f1, f2⟩
    have e4 : (bodyOf l).drop 16 = List.replicate 107 0 := by
      apply List.ext_getElem (by simp; omega)
      intro i h1 h2
      have h3 : i < 107 := by simpa using h2
      have := r0 (16 + i) (by omega) (by omega)
      rw [List.getD_eq_getElem?_getD, List.getElem?_eq_getElem (by omega), Option.getD_some] at this
      rw [List.getElem_drop, List.getElem_replicate]
      exact this
    have q1 := p1 f1
    have q2 := p2 f2
    simp only [Nat.sub_self, List.replicate_zero, List.append_nil] at q1 q2
    rw [q1, q2]
    conv => rhs; rw [sp, e4]
theorem ref11_Read.is (l : List Int) (hl : By l) (n m : Int) (K : Nat) (hK : 600 ≤ K) : purlinref11_Read.f K l n m = some (readGroupZ l n m) := by
  obtain ⟨K, rfl⟩ : ∃ t, K = t + 1 := ⟨K - 1, by omega⟩
  unfold purlinref11_Read.f readGroupZ
  have out : purlinref11_Read.j0 (K + 1) l n m true = some ([], [], 2) := by
    simp only [purlinref11_Read.j0]
    rw [if_pos trivial]
  by_cases h : spanZ n m
  · have h' := h
    obtain ⟨h1, h2, h3, h4⟩ := h
    rw [if_neg (by omega), if_neg (by omega), if_neg (by omega), decide_eq_false (by omega), if_pos h']
    simp only [purlinref11_Read.j0]
    rw [if_neg Bool.false_ne_true, ref2_Open.is 71 l hl K (by omega), Option.bind_some]
    by_cases hk : kindZ l = 71
    · have e : (if (71 : Int) ≠ 0 ∧ kindZ l = 71 then ((l.take 124).drop 1, (0 : Int)) else ([], 3)) = (bodyOf l, 0) := by
        rw [if_pos ⟨by omega, hk⟩]
        rfl
      rw [e]
      simp only []
      have hlen : l.length = 128 := kindZ_len (by omega)
      have hxl : (bodyOf l).length = 123 := by unfold bodyOf; simp; omega
      have hx := bodyOf_by hl
      obtain ⟨N, rfl⟩ := Int.eq_ofNat_of_zero_le (show 0 ≤ n by omega)
      obtain ⟨M, rfl⟩ := Int.eq_ofNat_of_zero_le (show 0 ≤ m by omega)
      have hh : By (headZ l) := hx.take_ 4
      have ht : By (tailZ l) := (hx.take_ 16).drop_ 4
      have hhl : (headZ l).length = 4 := by unfold headZ; simp; omega
      have htl : (tailZ l).length = 12 := by unfold tailZ; simp; omega
      rw [if_pos trivial, if_pos (by omega), if_pos (by omega), if_pos (by omega), Int.toNat_natCast, Int.toNat_natCast]
      have rl := relaid l hl hk N M (by omega)
      show purlinref11_Read.l0 K (N : Int) (M : Int) (bodyOf l) (headZ l) (tailZ l) ((0 : Nat) : Int) = _
      refine ref11_l0 (bodyOf l) (headZ l) (tailZ l) hh ht hhl htl hxl N M (by omega) _ (fun z => ?_) (fun z => ?_) 123 K 0 (by omega) (by omega) (fun q _ q2 => absurd q2 (by omega))
      · rw [if_pos ⟨hk, rl.2 z⟩, cut_take hh z.2.1 (by omega), cut_take ht z.2.2 (by omega)]
      · rw [if_neg (fun y => z (rl.1 y.2))]
    · have e : (if (71 : Int) ≠ 0 ∧ kindZ l = 71 then ((l.take 124).drop 1, (0 : Int)) else ([], 3)) = ([], 3) := if_neg (fun z => hk z.2)
      rw [e]
      simp only []
      rw [if_neg (by omega), if_neg (fun z => hk z.1)]
  · rw [if_neg h]
    unfold spanZ at h
    by_cases a1 : n < 4
    · rw [if_pos a1, out]
    rw [if_neg a1]
    by_cases a2 : n > 32
    · rw [if_pos a2, out]
    rw [if_neg a2]
    by_cases a3 : m < 16
    · rw [if_pos a3, out]
    rw [if_neg a3, decide_eq_true (by omega), out]
end Go.Proofs.Ytnhpmmmkcemnmaa.Pc
