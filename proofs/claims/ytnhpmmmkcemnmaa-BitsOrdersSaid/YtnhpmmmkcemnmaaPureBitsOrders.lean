/- Numbers that are put in, and taken away, one by one, come to the same in any order; the first one that is not there is the first one behind those that are: for every three numbers. -/
import Derived.Test.YtnhpmmmkcemnmaaPcx14
import Derived.Test.YtnhpmmmkcemnmaaQc
namespace Go.Proofs.Ytnhpmmmkcemnmaa.Pure
open Go.RowKit Go.Proofs.Ytnhpmmmkcemnmaa.Pc Go.Proofs.YtnhpmmmkcemnmaaW.PrintWords Go.Proofs.YtnhpmmmkcemnmaaW.PrintLast Go.Proofs.YtnhpmmmkcemnmaaW.PrintMore

/-- Bit j of a number. -/
def bitO (x : Int) (j : Nat) : Int := Go.bits .and .i64 (shr .i64 x (j : Int)) 1
theorem and_one (y : Int) : Go.bits .and .i64 y 1 = 0 ∨ Go.bits .and .i64 y 1 = 1 := by
  have h : ∀ v : Nat, v ≤ 1 → IntKind.i64.wrap (v : Int) = 0 ∨ IntKind.i64.wrap (v : Int) = 1 := by
    intro v hv
    have : v = 0 ∨ v = 1 := by omega
    rcases this with rfl | rfl
    · exact .inl rfl
    · exact .inr rfl
  refine h ((BitVec.ofInt 64 y &&& BitVec.ofInt 64 1).toNat) ?_
  rw [BitVec.toNat_and]
  exact Nat.and_le_right
theorem bitO_two (x : Int) (j : Nat) : bitO x j = 0 ∨ bitO x j = 1 := and_one _
def pO (x : Int) (j : Nat) : Bool := bitO x j == 1

/-- What stands in both sets behind the first loop's rounds. -/
def In1 (put : Int) (i : Nat) (a : List Int) : Prop := By a ∧ a.length = 8 ∧ ∀ j, hasZ a j = (decide (j < 60) && decide (j < i) && pO put j)
def In2 (put : Int) (t i : Nat) (b : List Int) : Prop := By b ∧ b.length = 8 ∧ ∀ j, hasZ b j = (decide (j < 60) && decide ((j + 60 - t) % 60 < i) && pO put j)
def Out1 (put take : Int) (i : Nat) (a : List Int) : Prop := By a ∧ a.length = 8 ∧ ∀ j, hasZ a j = (decide (j < 60) && pO put j && !(decide (j < i) && pO take j))
def Out2 (put take : Int) (t i : Nat) (b : List Int) : Prop := By b ∧ b.length = 8 ∧ ∀ j, hasZ b j = (decide (j < 60) && pO put j && !(decide ((j + 60 - t) % 60 < i) && pO take j))

theorem in1_step {put : Int} {i : Nat} {a : List Int} (h : In1 put i a) (hi : i < 60) : In1 put (i + 1) (withZ a i (pO put i)) := by
  refine ⟨withZ_by h.1 _ _, by rw [withZ_len]; exact h.2.1, fun j => ?_⟩
  rw [hasZ_withZ a h.1, h.2.1, h.2.2 j]
  by_cases e : j = i
  · rw [if_pos ⟨e, by omega⟩, e, decide_eq_true hi, decide_eq_true (Nat.lt_succ_self i)]
    simp
  · rw [if_neg (fun z => e z.1)]
    congr 2
    exact decide_eq_decide.2 (by omega)
theorem in2_step {put : Int} {t i : Nat} {b : List Int} (h : In2 put t i b) (hi : i < 60) (ht : t < 60) : In2 put t (i + 1) (withZ b ((i + t) % 60) (pO put ((i + t) % 60))) := by
  refine ⟨withZ_by h.1 _ _, by rw [withZ_len]; exact h.2.1, fun j => ?_⟩
  rw [hasZ_withZ b h.1, h.2.1, h.2.2 j]
  by_cases e : j = (i + t) % 60
  · rw [if_pos ⟨e, by omega⟩, ← e, decide_eq_true (show j < 60 by omega), decide_eq_true (show (j + 60 - t) % 60 < i + 1 by omega)]
    simp
  · rw [if_neg (fun z => e z.1)]
    by_cases hj : j < 60
    · congr 2
      exact decide_eq_decide.2 (by omega)
    · rw [decide_eq_false hj]
      simp
theorem out1_keep {put take : Int} {i : Nat} {a : List Int} (h : Out1 put take i a) (hp : pO take i = false) : Out1 put take (i + 1) a := by
  refine ⟨h.1, h.2.1, fun j => ?_⟩
  rw [h.2.2 j]
  by_cases e : j = i
  · rw [e, hp]
    simp
  · congr 3
    exact decide_eq_decide.2 (by omega)
theorem out1_step {put take : Int} {i : Nat} {a : List Int} (h : Out1 put take i a) (_hi : i < 60) (hp : pO take i = true) : Out1 put take (i + 1) (withZ a i false) := by
  refine ⟨withZ_by h.1 _ _, by rw [withZ_len]; exact h.2.1, fun j => ?_⟩
  rw [hasZ_withZ a h.1, h.2.1, h.2.2 j]
  by_cases e : j = i
  · rw [if_pos ⟨e, by omega⟩, e, hp, decide_eq_true (Nat.lt_succ_self i)]
    simp
  · rw [if_neg (fun z => e z.1)]
    congr 3
    exact decide_eq_decide.2 (by omega)
theorem out2_keep {put take : Int} {t i : Nat} {b : List Int} (h : Out2 put take t i b) (hi : i < 60) (ht : t < 60) (hp : pO take ((i + t) % 60) = false) : Out2 put take t (i + 1) b := by
  refine ⟨h.1, h.2.1, fun j => ?_⟩
  rw [h.2.2 j]
  by_cases e : j = (i + t) % 60
  · rw [← e] at hp
    rw [hp]
    simp
  · by_cases hj : j < 60
    · congr 3
      exact decide_eq_decide.2 (by omega)
    · rw [decide_eq_false hj]
      simp
theorem out2_step {put take : Int} {t i : Nat} {b : List Int} (h : Out2 put take t i b) (hi : i < 60) (ht : t < 60) (hp : pO take ((i + t) % 60) = true) : Out2 put take t (i + 1) (withZ b ((i + t) % 60) false) := by
  refine ⟨withZ_by h.1 _ _, by rw [withZ_len]; exact h.2.1, fun j => ?_⟩
  rw [hasZ_withZ b h.1, h.2.1, h.2.2 j]
  by_cases e : j = (i + t) % 60
  · rw [if_pos ⟨e, by omega⟩]
    rw [← e] at hp
    rw [hp, decide_eq_true (show (j + 60 - t) % 60 < i + 1 by omega)]
    simp
  · rw [if_neg (fun z => e z.1)]
    by_cases hj : j < 60
    · congr 3
      exact decide_eq_decide.2 (by omega)
    · rw [decide_eq_false hj]
      simp

theorem orders_end (put take : Int) (a : List Int) (hb : By a) (hl : a.length = 8) (ha : ∀ j, hasZ a j = (decide (j < 60) && pO put j && !(pO take j))) (f : Nat) (hf : f ≤ 60) (hfirst : ∀ j, j < f → pO put j = true ∧ pO take j = false) (hstop : f < 60 → (pO put f && !(pO take f)) = false) (K : Nat) (hK : 1000 ≤ K) :
    purlinlaw3_BitsOrders.j3 K a a (f : Int) = some true := by
  obtain ⟨K, rfl⟩ : ∃ m, K = m + 1 := ⟨K - 1, by omega⟩
  simp only [purlinlaw3_BitsOrders.j3]
  rw [same_is a a (by omega) K (by omega), Option.bind_some, beq_self_eq_true, if_pos rfl, if_pos (by omega)]
  obtain ⟨r, hr, hc⟩ := bits_First.is a hb 0 61 (by omega) K (by omega)
  have e : r = (f : Int) := by
    have hn : hasZ a f = false := by
      rw [ha f]
      by_cases h : f < 60
      · rw [Bool.and_assoc, hstop h, Bool.and_false]
      · rw [decide_eq_false h]
        rfl
    have hy : ∀ j, j < f → hasZ a j = true := by
      intro j hj
      have := hfirst j hj
      rw [ha j, this.1, this.2, decide_eq_true (show j < 60 by omega)]
      rfl
    rcases hc with ⟨h1, h2⟩ | ⟨t, h1, h2, h3, h4, h5⟩
    · have := h2 f (by omega) (by omega)
      rw [hn] at this
      cases this
    · have t1 : ¬ t < f := fun h => by
        have := hy t h
        rw [h4] at this
        cases this
      have t2 : ¬ f < t := fun h => by
        have := h5 f (by omega) h
        rw [hn] at this
        cases this
      omega
  have hr' : bits_First.f K a 0 61 = some r := hr
  have h60 : bits_Count.f K a 60 = some ((allZ a 60).length : Int) := bits_Count.is a hb (by omega) 60 (by omega) K (by omega)
  have h64 : bits_All.f K a 64 = some (intsZ (allZ a 64)) := bits_All.is a hb (by omega) 64 (by omega) K (by omega)
  have e64 : allZ a 64 = allZ a 60 := by
    have hz : ∀ j, 60 ≤ j → hasZ a j = false := fun j hj => by
      rw [ha j, decide_eq_false (by omega)]
      rfl
    have s : ∀ n, 60 ≤ n → allZ a (n + 1) = allZ a n := fun n hn => by
      rw [allZ_succ, hz n hn]
      rfl
    rw [s 63 (by omega), s 62 (by omega), s 61 (by omega), s 60 (by omega)]
  rw [hr', Option.bind_some, if_pos e, h60, Option.bind_some, h64, Option.bind_some, e64, if_pos (by simp [intsZ]), purlinlaw3_awake.is K (by omega)]
  rfl

theorem orders_third (put take : Int) (a : List Int) (hb : By a) (hl : a.length = 8) (ha : ∀ j, hasZ a j = (decide (j < 60) && pO put j && !(pO take j))) (d : Nat) : ∀ (K f : Nat), f + d = 60 → d + 1001 ≤ K → (∀ j, j < f → pO put j = true ∧ pO take j = false) →
    purlinlaw3_BitsOrders.l2 K put take a a (f : Int) = some true := by
  induction d with
  | zero =>
    intro K f hd hK hf
    obtain ⟨K, rfl⟩ : ∃ m, K = m + 1 := ⟨K - 1, by omega⟩
    simp only [purlinlaw3_BitsOrders.l2]
    rw [if_neg (by omega)]
    exact orders_end put take a hb hl ha f (by omega) hf (fun h => by omega) K (by omega)
  | succ d ih =>
    intro K f hd hK hf
    obtain ⟨K, rfl⟩ : ∃ m, K = m + 1 := ⟨K - 1, by omega⟩
    simp only [purlinlaw3_BitsOrders.l2]
    rw [if_pos (by omega), if_pos (by omega)]
    show (if bitO put f = 1 then (if bitO take f = 0 then _ else _) else _) = some true
    by_cases h1 : bitO put f = 1
    · rw [if_pos h1]
      by_cases h2 : bitO take f = 0
      · rw [if_pos h2, wrap64_is (by omega) (by omega)]
        refine ih K (f + 1) (by omega) (by omega) (fun j hj => ?_)
        by_cases e : j = f
        · rw [e]
          exact ⟨by unfold pO; rw [h1]; rfl, by unfold pO; rw [h2]; rfl⟩
        · exact hf j (by omega)
      · rw [if_neg h2]
        have h3 : bitO take f = 1 := by
          rcases bitO_two take f with h | h
          · exact absurd h h2
          · exact h
        exact orders_end put take a hb hl ha f (by omega) hf (fun _ => by unfold pO; rw [h3]; simp) K (by omega)
    · rw [if_neg h1]
      exact orders_end put take a hb hl ha f (by omega) hf (fun _ => by unfold pO; rw [beq_eq_false_iff_ne.mpr h1]; rfl) K (by omega)

theorem turn_is (i t : Nat) (hi : i < 60) (ht : t < 60) : Int.tmod (wrap64 ((i : Int) + (t : Int))) 60 = (((i + t) % 60 : Nat) : Int) := by
  rw [wrap64_is (by omega) (by omega), Int.tmod_eq_emod_of_nonneg (by omega)]
  omega

theorem orders_second (put take : Int) (t : Nat) (ht : t < 60) (d : Nat) : ∀ (K i : Nat) (a b : List Int), i + d = 60 → d + 1100 ≤ K → Out1 put take i a → Out2 put take t i b →
    purlinlaw3_BitsOrders.l1 K put take (t : Int) a b (i : Int) = some true := by
  induction d with
  | zero =>
    intro K i a b hd hK ha hb
    obtain ⟨K, rfl⟩ : ∃ m, K = m + 1 := ⟨K - 1, by omega⟩
    have hi : i = 60 := by omega
    subst hi
    simp only [purlinlaw3_BitsOrders.l1]
    rw [if_neg (by omega)]
    have e1 : ∀ j, hasZ a j = (decide (j < 60) && pO put j && !(pO take j)) := by
      intro j
      rw [ha.2.2 j]
      by_cases hj : j < 60
      · rw [decide_eq_true hj]
        simp
      · rw [decide_eq_false hj]
        simp
    have e2 : ∀ j, hasZ b j = (decide (j < 60) && pO put j && !(pO take j)) := by
      intro j
      rw [hb.2.2 j, decide_eq_true (show (j + 60 - t) % 60 < 60 by omega)]
      simp
    have e : a = b := set_ext ha.1 hb.1 (by rw [ha.2.1, hb.2.1]) (fun j _ => by rw [e1, e2])
    subst e
    exact orders_third put take a ha.1 ha.2.1 e1 60 K 0 (by omega) (by omega) (fun j hj => by omega)
  | succ d ih =>
    intro K i a b hd hK ha hb
    obtain ⟨K, rfl⟩ : ∃ m, K = m + 1 := ⟨K - 1, by omega⟩
    have hi : i < 60 := by omega
    simp only [purlinlaw3_BitsOrders.l1]
    rw [if_pos (by omega), if_pos (by omega), turn_is i t hi ht, wrap64_is (x := (i : Int) + 1) (by omega) (by omega), bits_With.is a ha.1 (by rw [ha.2.1]; omega) i (by omega) false K (by omega), bits_With.is b hb.1 (by rw [hb.2.1]; omega) ((i + t) % 60) (by omega) false K (by omega)]
    simp only [Option.bind_some]
    have hq : (0 : Int) ≤ (((i + t) % 60 : Nat) : Int) := by omega
    rw [if_pos hq, if_pos hq]
    have c1 : bitO take i = 1 → pO take i = true := fun h => by unfold pO; rw [h]; rfl
    have c2 : ¬ bitO take i = 1 → pO take i = false := fun h => by unfold pO; exact beq_eq_false_iff_ne.mpr h
    have c3 : bitO take ((i + t) % 60) = 1 → pO take ((i + t) % 60) = true := fun h => by unfold pO; rw [h]; rfl
    have c4 : ¬ bitO take ((i + t) % 60) = 1 → pO take ((i + t) % 60) = false := fun h => by unfold pO; exact beq_eq_false_iff_ne.mpr h
    show (if bitO take i = 1 then (if bitO take ((i + t) % 60) = 1 then _ else _) else (if bitO take ((i + t) % 60) = 1 then _ else _)) = some true
    by_cases h1 : bitO take i = 1
    · rw [if_pos h1]
      by_cases h2 : bitO take ((i + t) % 60) = 1
      · rw [if_pos h2]
        exact ih K (i + 1) _ _ (by omega) (by omega) (out1_step ha hi (c1 h1)) (out2_step hb hi ht (c3 h2))
      · rw [if_neg h2]
        exact ih K (i + 1) _ _ (by omega) (by omega) (out1_step ha hi (c1 h1)) (out2_keep hb hi ht (c4 h2))
    · rw [if_neg h1]
      by_cases h2 : bitO take ((i + t) % 60) = 1
      · rw [if_pos h2]
        exact ih K (i + 1) _ _ (by omega) (by omega) (out1_keep ha (c2 h1)) (out2_step hb hi ht (c3 h2))
      · rw [if_neg h2]
        exact ih K (i + 1) _ _ (by omega) (by omega) (out1_keep ha (c2 h1)) (out2_keep hb hi ht (c4 h2))

theorem orders_first (put take : Int) (t : Nat) (ht : t < 60) (d : Nat) : ∀ (K i : Nat) (a b : List Int), i + d = 60 → d + 1200 ≤ K → In1 put i a → In2 put t i b →
    purlinlaw3_BitsOrders.l0 K put take (t : Int) a b (i : Int) = some true := by
  induction d with
  | zero =>
    intro K i a b hd hK ha hb
    obtain ⟨K, rfl⟩ : ∃ m, K = m + 1 := ⟨K - 1, by omega⟩
    have hi : i = 60 := by omega
    subst hi
    simp only [purlinlaw3_BitsOrders.l0]
    rw [if_neg (by omega)]
    refine orders_second put take t ht 60 K 0 a b (by omega) (by omega) ⟨ha.1, ha.2.1, fun j => ?_⟩ ⟨hb.1, hb.2.1, fun j => ?_⟩
    · rw [ha.2.2 j]
      by_cases hj : j < 60
      · rw [decide_eq_true hj]
        simp
      · rw [decide_eq_false hj]
        simp
    · rw [hb.2.2 j, decide_eq_true (show (j + 60 - t) % 60 < 60 by omega)]
      simp
  | succ d ih =>
    intro K i a b hd hK ha hb
    obtain ⟨K, rfl⟩ : ∃ m, K = m + 1 := ⟨K - 1, by omega⟩
    have hi : i < 60 := by omega
    simp only [purlinlaw3_BitsOrders.l0]
    rw [if_pos (by omega), if_pos (by omega), turn_is i t hi ht, wrap64_is (x := (i : Int) + 1) (by omega) (by omega), bits_With.is a ha.1 (by rw [ha.2.1]; omega) i (by omega) _ K (by omega), Option.bind_some, if_pos (by omega), bits_With.is b hb.1 (by rw [hb.2.1]; omega) ((i + t) % 60) (by omega) _ K (by omega), Option.bind_some]
    exact ih K (i + 1) _ _ (by omega) (by omega) (in1_step ha hi) (in2_step hb hi ht)

theorem BitsOrders : purlinlaw3_BitsOrders.Pure := by
  intro a0 a1 a2 h0 h1 h2
  refine ⟨3000, ?_⟩
  unfold purlinlaw3_BitsOrders.f
  obtain ⟨r, hr, r0, r1⟩ := Low_is a2 60 (by omega) (by omega)
  obtain ⟨t, rfl⟩ := Int.eq_ofNat_of_zero_le r0
  rw [hr, Option.bind_some, if_pos (by omega)]
  refine orders_first a0 a1 t (by omega) 60 3000 0 _ _ (by omega) (by omega) ⟨By.zeros _, by simp, fun j => ?_⟩ ⟨By.zeros _, by simp, fun j => ?_⟩
  · rw [hasZ_zeros, decide_eq_false (Nat.not_lt_zero j)]
    simp
  · rw [hasZ_zeros, decide_eq_false (Nat.not_lt_zero _)]
    simp

end Go.Proofs.Ytnhpmmmkcemnmaa.Pure
