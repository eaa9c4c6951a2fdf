/- Numbers that are put in are there, and no others; taken away they are not; all of them are as many as are counted: for every slice of numbers and every number. -/
import Derived.Test.YtnhpmmmkcemnmaaPcx13
import Derived.Test.YtnhpmmmkcemnmaaQc
namespace Go.Proofs.Ytnhpmmmkcemnmaa.Pure
open Go.RowKit Go.Proofs.Ytnhpmmmkcemnmaa.Pc Go.Proofs.YtnhpmmmkcemnmaaW.PrintWords Go.Proofs.YtnhpmmmkcemnmaaW.PrintLast Go.Proofs.YtnhpmmmkcemnmaaW.PrintMore

theorem count_less (b c : List Int) (out : Nat) (h : ∀ j, j ≠ out → hasZ c j = hasZ b j) (n : Nat) : (allZ b n).length ≤ (allZ c n).length + (if out < n then 1 else 0) := by
  induction n with
  | zero => simp [allZ]
  | succ n ih =>
    rw [allZ_succ, allZ_succ]
    by_cases e : n = out
    · subst e
      rw [if_neg (Nat.lt_irrefl _)] at ih
      rw [if_pos (Nat.lt_succ_self _)]
      have h1 : (if hasZ b n then allZ b n ++ [n] else allZ b n).length ≤ (allZ b n).length + 1 := by split <;> simp
      have h2 : (allZ c n).length ≤ (if hasZ c n then allZ c n ++ [n] else allZ c n).length := by split <;> simp
      omega
    · rw [h n e]
      have e2 : (if out < n + 1 then 1 else 0) = (if out < n then 1 else 0) := by
        by_cases z : out < n
        · rw [if_pos z, if_pos (by omega)]
        · rw [if_neg z, if_neg (by omega)]
      rw [e2]
      split
      · simp only [List.length_append, List.length_singleton]
        omega
      · exact ih

theorem sets_end (ns : List Int) (a1 : Int) (K : Nat) (hK : 2000 ≤ K) : purlinlaw3_BitsSets.l1 K a1 ns (setZ 200 ns) 200 = some true := by
  obtain ⟨K, rfl⟩ : ∃ m, K = m + 1 := ⟨K - 1, by omega⟩
  have hb := setZ_by 200 ns
  have hl := setZ_len 200 ns
  generalize setZ 200 ns = b at hb hl
  simp only [purlinlaw3_BitsSets.l1]
  rw [if_neg (by omega)]
  obtain ⟨r, hr, r0, r1⟩ := Low_is a1 200 (by omega) (by omega)
  obtain ⟨o, rfl⟩ := Int.eq_ofNat_of_zero_le r0
  have hc := withZ_by hb o false
  have hcl := withZ_len b o false
  have hh := hasZ_withZ b hb o
  have hco : hasZ (withZ b o false) o = false := by rw [hh, if_pos ⟨rfl, by omega⟩]
  rw [hr, Option.bind_some, bits_With.is b hb (by omega) o (by omega) false K (by omega), Option.bind_some, bits_Has.is _ hc o (by omega), Option.bind_some, hco, if_neg Bool.false_ne_true]
  have hcount : (allZ b 200).length ≤ (allZ (withZ b o false) 200).length + 1 := by
    have := count_less b (withZ b o false) o (fun j hj => by rw [hh j false, if_neg (fun z => hj z.1)]) 200
    split at this <;> omega
  have hs := allZ_len (withZ b o false) 200
  have e200 : (200 : Int) = ((200 : Nat) : Int) := rfl
  rw [e200, bits_Count.is _ hc (by omega) 200 (by omega) K (by omega), Option.bind_some, bits_Count.is b hb (by omega) 200 (by omega) K (by omega), Option.bind_some, wrap64_is (by omega) (by omega), if_pos (by omega), bits_All.is b hb (by omega) 200 (by omega) K (by omega), Option.bind_some, Option.bind_some, if_pos (by simp [intsZ]), bits_Has.is b hb o (by omega), Option.bind_some, bits_With.is _ hc (by omega) o (by omega) (hasZ b o) K (by omega), Option.bind_some]
  have e : withZ (withZ b o false) o (hasZ b o) = b := by
    refine set_ext (withZ_by hc _ _) hb (by rw [withZ_len, hcl]) (fun j _ => ?_)
    rw [hasZ_withZ _ hc]
    by_cases hj : j = o
    · rw [if_pos ⟨hj, by omega⟩, hj]
    · rw [if_neg (fun z => hj z.1), hh j false, if_neg (fun z => hj z.1)]
  rw [e, same_is b b (by omega) K (by omega), Option.bind_some, beq_self_eq_true, if_pos rfl, purlinlaw3_awake.is K (by omega)]
  rfl

theorem sets_inner (ns : List Int) (hn : ns.length ≤ 20) (a1 : Int) (i : Nat) (hi : i < 200) (d : Nat) : ∀ (K p : Nat), p + d = ns.length → d + 1 ≤ K →
    (purlinlaw3_BitsSets.l1 (K - d - 1) a1 ns (setZ 200 ns) ((i + 1 : Nat) : Int) = some true) →
    purlinlaw3_BitsSets.l2 K a1 ns (setZ 200 ns) (i : Int) (decide ((i : Int) ∈ ns.take p)) (p : Int) = some true := by
  induction d with
  | zero =>
    intro K p hd hK hgo
    obtain ⟨K, rfl⟩ : ∃ m, K = m + 1 := ⟨K - 1, by omega⟩
    simp only [purlinlaw3_BitsSets.l2]
    rw [if_neg (by omega), bits_Has.is _ (setZ_by 200 ns) i (by omega), Option.bind_some, hasZ_setZ, List.take_of_length_le (by omega), wrap64_is (by omega) (by omega)]
    have e : ((decide (i < 200) && decide ((i : Int) ∈ ns)) != decide ((i : Int) ∈ ns)) = false := by
      rw [decide_eq_true hi, Bool.true_and]
      exact bne_self_eq_false _
    rw [e, if_neg (by decide)]
    exact hgo
  | succ d ih =>
    intro K p hd hK hgo
    obtain ⟨K, rfl⟩ : ∃ m, K = m + 1 := ⟨K - 1, by omega⟩
    simp only [purlinlaw3_BitsSets.l2]
    have hp : p < ns.length := by omega
    have hnext := ih K (p + 1) (by omega) (by omega) (by
      have e : K + 1 - (d + 1) - 1 = K - d - 1 := by omega
      rwa [e] at hgo)
    have ht : ns.take (p + 1) = ns.take p ++ [rd ns (p : Int)] := by
      rw [List.take_succ_eq_append_getElem hp, rd_getD, List.getD_eq_getElem?_getD, List.getElem?_eq_getElem hp]
      rfl
    rw [if_pos (by omega), wrap64_is (by omega) (by omega)]
    by_cases hm : (i : Int) ∈ ns.take p
    · have hm2 : (i : Int) ∈ ns.take (p + 1) := by rw [ht]; exact List.mem_append_left _ hm
      rw [if_pos (decide_eq_true hm)]
      rw [decide_eq_true hm2] at hnext
      exact hnext
    · rw [if_neg (by simpa using hm), if_pos (by omega)]
      have e : decide ((i : Int) ∈ ns.take (p + 1)) = (rd ns (p : Int) == (i : Int)) := by
        rw [ht]
        by_cases z : rd ns (p : Int) = (i : Int)
        · rw [z]
          simp
        · have z2 : ¬ ((i : Int) = rd ns (p : Int)) := fun h => z h.symm
          simp [hm, z, z2]
      rw [e] at hnext
      exact hnext

theorem sets_loop (ns : List Int) (hn : ns.length ≤ 20) (a1 : Int) (d : Nat) : ∀ (K i : Nat), i + d = 200 → 30 * d + 2000 ≤ K → purlinlaw3_BitsSets.l1 K a1 ns (setZ 200 ns) (i : Int) = some true := by
  induction d with
  | zero =>
    intro K i hd hK
    have : i = 200 := by omega
    subst this
    exact sets_end ns a1 K (by omega)
  | succ d ih =>
    intro K i hd hK
    obtain ⟨K, rfl⟩ : ∃ m, K = m + 1 := ⟨K - 1, by omega⟩
    simp only [purlinlaw3_BitsSets.l1]
    rw [if_pos (by omega)]
    have := sets_inner ns hn a1 i (by omega) ns.length K 0 (by omega) (by omega) (ih _ (i + 1) (by omega) (by omega))
    have e : decide ((i : Int) ∈ ns.take 0) = false := by simp
    rw [e] at this
    exact this

theorem sets_first (l : List Int) (hl : l.length ≤ 20) (a1 : Int) (d : Nat) : ∀ (K i : Nat) (ns : List Int), i + d = l.length → d + 8100 ≤ K → ns.length = i → purlinlaw3_BitsSets.l0 K l a1 ns (i : Int) = some true := by
  induction d with
  | zero =>
    intro K i ns hd hK hns
    obtain ⟨K, rfl⟩ : ∃ m, K = m + 1 := ⟨K - 1, by omega⟩
    simp only [purlinlaw3_BitsSets.l0]
    have e200 : (200 : Int) = ((200 : Nat) : Int) := rfl
    rw [if_neg (by omega), e200, bits_Of.is 200 (by omega) ns (by omega) K (by omega), Option.bind_some, if_pos (by rw [setZ_len]; decide)]
    exact sets_loop ns (by omega) a1 200 K 0 (by omega) (by omega)
  | succ d ih =>
    intro K i ns hd hK hns
    obtain ⟨K, rfl⟩ : ∃ m, K = m + 1 := ⟨K - 1, by omega⟩
    simp only [purlinlaw3_BitsSets.l0]
    obtain ⟨r, hr, _, _⟩ := Low_is (rd l (i : Int)) 200 (by omega) (by omega)
    rw [if_pos (by omega), if_pos (by omega), hr, Option.bind_some, if_pos (by omega), wrap64_is (by omega) (by omega)]
    exact ih K (i + 1) (ns ++ [r]) (by omega) (by omega) (by simp [hns])

theorem BitsSets : purlinlaw3_BitsSets.Pure := by
  intro l0 a1 hm hs hl h1
  refine ⟨9000, ?_⟩
  unfold purlinlaw3_BitsSets.f
  by_cases c1 : (l0.length : Int) > 20
  · rw [if_pos c1, purlinlaw3_awake.is 9000 (by omega)]
    rfl
  · rw [if_neg c1]
    exact sets_first l0 (by omega) a1 l0.length 9000 0 [] (by omega) (by omega) rfl

end Go.Proofs.Ytnhpmmmkcemnmaa.Pure
