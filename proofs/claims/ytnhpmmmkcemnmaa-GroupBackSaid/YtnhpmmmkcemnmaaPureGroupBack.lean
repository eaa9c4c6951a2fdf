/- Bits of a group are laid, and read again; a bit beyond its inodes, or its blocks, is none: for every three numbers and two lists of numbers. -/
import Derived.Test.YtnhpmmmkcemnmaaPcx25
import Derived.Test.YtnhpmmmkcemnmaaQe
namespace Go.Proofs.Ytnhpmmmkcemnmaa.Pure
open Go.RowKit Go.Proofs.Ytnhpmmmkcemnmaa.Pc Go.Proofs.YtnhpmmmkcemnmaaW.PrintWords Go.Proofs.YtnhpmmmkcemnmaaW.PrintLast Go.Proofs.YtnhpmmmkcemnmaaW.PrintMore

theorem back_last (a4 : Int) (N M : Nat) (nm : 4 ≤ N ∧ N ≤ 32 ∧ 16 ≤ M ∧ M ≤ 96) (x y : List Int) (hx : By x) (hy : By y) (xl : x.length = (N + 7) / 8) (yl : y.length = (M + 7) / 8) (K : Nat) (hK : 900 ≤ K) :
    purlinlaw11_GroupBack.j1 (K + 1) a4 N M x y false = some true := by
  have al := allZ_len y M
  have mnM : mn (M : Int) 95 ≤ 95 ∧ 0 ≤ mn (M : Int) 95 ∧ (M ≠ 96 → mn (M : Int) 95 = M) := by
    unfold mn
    split <;> omega
  have u2 : Aside0 (M ≠ 96 → mn (M : Int) 95 = M) := ⟨mnM.2.2⟩
  obtain ⟨u, hu, u0, u1⟩ := Low_is a4 (96 - mn (M : Int) 95) (by omega) (by omega)
  obtain ⟨U, rfl⟩ := Int.eq_ofNat_of_zero_le u0
  have u3 : M ≠ 96 → M + U < 96 := fun e => by have := u2.out e; omega
  have w3 := Aside0.mk (show wrap64 ((M : Int) + U) = ((M + U : Nat) : Int) from wrap64_is (by omega) (by omega))
  have w4 := Aside0.mk (show wrap64 (96 - mn (M : Int) 95) = 96 - mn (M : Int) 95 from wrap64_is (by omega) (by omega))
  have u4 : U ≤ 96 := by omega
  clear mnM u1
  obtain ⟨z, ez⟩ : ∃ z, z = setZ 96 (intsZ (allZ y M)) := ⟨_, rfl⟩
  have hz : By z := by rw [ez]; exact setZ_by _ _
  have zl : z.length = 12 := by rw [ez, setZ_len]
  have il : (intsZ (allZ y M)).length ≤ M := by unfold intsZ; rw [List.length_map]; exact al
  have e1 : bits_All.f K y (M : Int) = some (intsZ (allZ y M)) := bits_All.is y hy (by omega) M (by omega) K (by omega)
  have e2 := bits_Of.is 96 (by omega) (intsZ (allZ y M)) (by omega) K (by omega)
  rw [show ((96 : Nat) : Int) = 96 from rfl, ← ez] at e2
  have e3 : bits_With.f K z ((M + U : Nat) : Int) true = some (withZ z (M + U) true) := bits_With.is z hz (by omega) (M + U) (by omega) true K (by omega)
  have hw := withZ_by hz (M + U) true
  have wl := withZ_len z (M + U) true
  have hit : hasZ (withZ z (M + U) true) (M + U) = true ∨ M = 96 := by
    by_cases e : M = 96
    · exact .inr e
    · refine .inl ?_
      have := u3 e
      rw [hasZ_withZ z hz, if_pos ⟨rfl, by omega⟩]
  generalize withZ z (M + U) true = v at e3 hw wl hit
  have e4 : group_Lay.f K x v = some (sealZ 71 (group_Lay.body x v), 0) := group_Lay.yes x v hx hw (by unfold sizesZ; omega) K (by omega)
  have hc : By (sealZ 71 (group_Lay.body x v)) := sealZ_by (by omega) (by omega) (groupZ_by hx hw)
  have e5 : group_Read.f K (sealZ 71 (group_Lay.body x v)) N M = some (readGroupZ (sealZ 71 (group_Lay.body x v)) N M) := group_Read.is _ hc N M K (by omega)
  have e6 : M ≠ 96 → readGroupZ (sealZ 71 (group_Lay.body x v)) N M = ([], [], 3) := fun e =>
    (read_group x v hx hw (by omega) (by omega) N M nm).2 (by
      rintro ⟨_, f⟩
      rcases hit with h | h
      · have := f (M + U) h
        omega
      · exact e h)
  have e7 := purlinlaw11_awake.is K (by omega)
  generalize sealZ 71 (group_Lay.body x v) = c at e4 e5 e6
  generalize readGroupZ c N M = rr at e5 e6
  simp only [purlinlaw11_GroupBack.j1]
  rw [if_neg Bool.false_ne_true, e1, Option.bind_some, e2, Option.bind_some, w4.out, hu, Option.bind_some, w3.out, e3, Option.bind_some, e4, Option.bind_some, e5, Option.bind_some, e7]
  simp only []
  by_cases e : M = 96
  · rw [if_pos trivial, if_pos (by omega)]
    rfl
  · rw [if_pos trivial, if_neg (by omega), e6 e]
    rfl

theorem GroupBack : purlinlaw11_GroupBack.Pure := by
  intro a0 a1 l2 l3 a4 _ _ _ _ _ _ _ _ _
  refine ⟨998 + 1 + 1, ?_⟩
  have out : purlinlaw11_GroupBack.j0 (998 + 1 + 1) a0 a1 l2 l3 a4 true = some true := by
    simp only [purlinlaw11_GroupBack.j0]
    rw [if_pos trivial, purlinlaw11_awake.is (998 + 1) (by omega)]
    rfl
  unfold purlinlaw11_GroupBack.f
  by_cases c2 : (l2.length : Int) > 30
  · rw [if_pos c2]
    exact out
  rw [if_neg c2]
  by_cases c3 : (l3.length : Int) > 30
  · rw [decide_eq_true c3]
    exact out
  rw [decide_eq_false c3]
  clear out
  obtain ⟨t, ht, t0, t1⟩ := Low_is a0 8 (by omega) (by omega)
  obtain ⟨s, hs, s0, s1⟩ := Low_is a1 81 (by omega) (by omega)
  obtain ⟨N, hN⟩ := Int.eq_ofNat_of_zero_le (show 0 ≤ 4 + 4 * t by omega)
  obtain ⟨M, hM⟩ := Int.eq_ofNat_of_zero_le (show 0 ≤ 16 + s by omega)
  have w1 : Aside0 (wrap64 (4 + wrap64 (4 * t)) = (N : Int)) := by
    have w0 : wrap64 (4 * t) = 4 * t := wrap64_is (by omega) (by omega)
    rw [w0, hN]
    exact ⟨wrap64_is (by omega) (by omega)⟩
  have w2 : Aside0 (wrap64 (16 + s) = (M : Int)) := by
    rw [hM]
    exact ⟨wrap64_is (by omega) (by omega)⟩
  have nm : 4 ≤ N ∧ N ≤ 32 ∧ 16 ≤ M ∧ M ≤ 96 := by omega
  have e1 := bits_Of.is N (by omega) l2 (by omega) (998 + 1) (by omega)
  have e2 := bits_Of.is M (by omega) l3 (by omega) (998 + 1) (by omega)
  have hx := setZ_by N l2
  have hy := setZ_by M l3
  have xl := setZ_len N l2
  have yl := setZ_len M l3
  have f1 := fits_setZ N l2
  have f2 := fits_setZ M l3
  have g1 := cut_setZ N l2
  have g2 := cut_setZ M l3
  generalize setZ N l2 = x at e1 hx xl f1 g1
  generalize setZ M l3 = y at e2 hy yl f2 g2
  have e3 := group_Lay.yes x y hx hy (by unfold sizesZ; omega) (998 + 1) (by omega)
  have hb : By (sealZ 71 (group_Lay.body x y)) := sealZ_by (by omega) (by omega) (groupZ_by hx hy)
  have e4 := group_Read.is _ hb N M (998 + 1) (by omega)
  have hr := (read_group x y hx hy (by omega) (by omega) N M nm).1 ⟨f1, f2⟩
  rw [hr, g1, g2] at e4
  have e5 : purlinlaw0_SameBytes.f (998 + 1) x x = some true := by rw [same_is _ _ (by omega) _ (by omega), beq_self_eq_true]
  have e6 : purlinlaw0_SameBytes.f (998 + 1) y y = some true := by rw [same_is _ _ (by omega) _ (by omega), beq_self_eq_true]
  generalize sealZ 71 (group_Lay.body x y) = c at e3 e4
  have e7 := back_last a4 N M nm x y hx hy xl yl 998 (by omega)
  simp only [purlinlaw11_GroupBack.j0]
  rw [if_neg Bool.false_ne_true, ht, Option.bind_some, hs, Option.bind_some, w1.out, w2.out, e1, Option.bind_some, e2, Option.bind_some, e3, Option.bind_some, e4, Option.bind_some]
  simp only []
  rw [if_pos trivial, if_pos trivial, e5, Option.bind_some, if_pos rfl, e6, Option.bind_some]
  exact e7

end Go.Proofs.Ytnhpmmmkcemnmaa.Pure
