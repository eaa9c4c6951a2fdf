/- A run lies where it is told, and none lies ahead of it; the first number that is not there is a run of one: for every slice of bytes and both numbers. -/
import Derived.Test.YtnhpmmmkcemnmaaPcx12
import Derived.Test.YtnhpmmmkcemnmaaQc
namespace Go.Proofs.Ytnhpmmmkcemnmaa.Pure
open Go.RowKit Go.Proofs.Ytnhpmmmkcemnmaa.Pc Go.Proofs.YtnhpmmmkcemnmaaW.PrintWords Go.Proofs.YtnhpmmmkcemnmaaW.PrintLast Go.Proofs.YtnhpmmmkcemnmaaW.PrintMore

/-- The law's last line: a run of one lies where the first one lies that is not there. -/
theorem one_first (l : List Int) (hl : By l) (hm : l.length ≤ 30) (i n : Nat) (hi : i ≤ 1000) (hn : n ≤ 1000) (K : Nat) (hK : 2000 ≤ K) :
    ((bits_Run.f l (i : Int) (n : Int) 1).bind fun a => ((bits_First.f K l (i : Int) (n : Int)).bind fun b => (if a = b then ((purlinlaw3_awake.f K).bind fun c => (some c)) else (some false)))) = some true := by
  obtain ⟨a, ha, hc⟩ := bits_Run.is l hl (by omega) i n 1 (by omega) (by omega) (by omega) (by omega)
  obtain ⟨b, hb, hd⟩ := bits_First.is l hl i n (by omega) K (by omega)
  have ha' : bits_Run.f l (i : Int) (n : Int) 1 = some a := ha
  have e : a = b := by
    have hf : ∀ s, freeZ l 1 s ↔ hasZ l s = false := by
      intro s
      constructor
      · intro h
        exact h s (Nat.le_refl _) (by omega)
      · intro h q h1 h2
        have : q = s := by omega
        rw [this]
        exact h
    rcases hc with ⟨h1, h2⟩ | ⟨t, h1, h2, h3, h4, h5⟩
    · rcases hd with ⟨g1, g2⟩ | ⟨u, g1, g2, g3, g4, g5⟩
      · omega
      · exact absurd ((hf u).2 g4) (h2 u g2 (by omega))
    · rcases hd with ⟨g1, g2⟩ | ⟨u, g1, g2, g3, g4, g5⟩
      · have := g2 t h2 (by omega)
        rw [(hf t).1 h4] at this
        cases this
      · have t1 : ¬ t < u := fun h => by
          have := g5 t h2 h
          rw [(hf t).1 h4] at this
          cases this
        have t2 : ¬ u < t := fun h => h5 u g2 h ((hf u).2 g4)
        omega
  rw [ha', Option.bind_some, hb, Option.bind_some, if_pos e, purlinlaw3_awake.is K (by omega)]
  rfl

theorem runs_loop (l : List Int) (hl : By l) (hm : l.length ≤ 30) (from_ long n : Nat) (hf : from_ ≤ 240) (hn : n ≤ 240) (hlo : 1 ≤ long) (hlo2 : long ≤ 20) (at_ : Int)
    (hat : (at_ = -1 ∧ ∀ s, from_ ≤ s → s + long ≤ n → ¬ freeZ l long s) ∨ ∃ t : Nat, at_ = (t : Int) ∧ from_ ≤ t ∧ t + long ≤ n ∧ freeZ l long t ∧ ∀ s, from_ ≤ s → s < t → ¬ freeZ l long s) (d : Nat) :
    ∀ (K i run : Nat), n ≤ i + d → from_ ≤ i → (i ≤ n ∨ i = from_) → 2 * d + 2001 ≤ K → run < long → run ≤ i - from_ → (∀ q, i - run ≤ q → q < i → hasZ l q = false) → (run < i - from_ → hasZ l (i - run - 1) = true) →
      (∀ s, from_ ≤ s → s + long ≤ i → ¬ freeZ l long s) →
      purlinlaw3_BitsRuns.l0 K l (from_ : Int) (long : Int) (n : Int) at_ (run : Int) (i : Int) = some true := by
  induction d with
  | zero =>
    intro K i run hd h1 h2 hK h3 h4 h5 h6 h7
    obtain ⟨K, rfl⟩ : ∃ m, K = m + 1 := ⟨K - 1, by omega⟩
    simp only [purlinlaw3_BitsRuns.l0]
    rw [if_neg (by omega)]
    have ha : at_ = -1 := by
      rcases hat with ⟨g1, _⟩ | ⟨t, g1, g2, g3, g4, g5⟩
      · exact g1
      · exact absurd g4 (h7 t g2 (by omega))
    rw [if_pos ha]
    exact one_first l hl hm from_ n (by omega) (by omega) K (by omega)
  | succ d ih =>
    intro K i run hd h1 h2 hK h3 h4 h5 h6 h7
    by_cases hin : i < n
    · obtain ⟨K, rfl⟩ : ∃ m, K = m + 2 := ⟨K - 2, by omega⟩
      simp only [purlinlaw3_BitsRuns.l0]
      rw [if_pos (by omega), bits_Has.is l hl i (by omega), Option.bind_some]
      by_cases hh : hasZ l i = true
      · rw [if_pos hh]
        simp only [purlinlaw3_BitsRuns.j1]
        rw [if_neg (by omega), wrap64_is (by omega) (by omega)]
        refine ih K (i + 1) 0 (by omega) (by omega) (by omega) (by omega) (by omega) (by omega) (fun q q1 q2 => by omega) (fun _ => by simpa using hh) (fun s s1 s2 hfree => ?_)
        by_cases hs : s + long ≤ i
        · exact h7 s s1 hs hfree
        · have := hfree i (by omega) (by omega)
          rw [hh] at this
          cases this
      · rw [if_neg hh, wrap64_is (x := (run : Int) + 1) (by omega) (by omega)]
        have hh' : hasZ l i = false := by simpa using hh
        simp only [purlinlaw3_BitsRuns.j1]
        have h5' : ∀ q, i - run ≤ q → q < i + 1 → hasZ l q = false := by
          intro q q1 q2
          by_cases e : q = i
          · rw [e]; exact hh'
          · exact h5 q q1 (by omega)
        by_cases he : (run : Int) + 1 = (long : Int)
        · rw [if_pos he, wrap64_is (x := (i : Int) - (long : Int)) (by omega) (by omega), wrap64_is (by omega) (by omega)]
          have ha : at_ = (i : Int) - (long : Int) + 1 := by
            have hw : freeZ l long (i + 1 - long) := fun q q1 q2 => h5' q (by omega) (by omega)
            rcases hat with ⟨g1, g2⟩ | ⟨t, g1, g2, g3, g4, g5⟩
            · exact absurd hw (g2 _ (by omega) (by omega))
            · have t1 : ¬ t < i + 1 - long := fun h => h7 t g2 (by omega) g4
              have t2 : ¬ i + 1 - long < t := fun h => g5 _ (by omega) h hw
              omega
          rw [if_pos ha]
          exact one_first l hl hm from_ n (by omega) (by omega) K (by omega)
        · rw [if_neg he, wrap64_is (by omega) (by omega)]
          refine ih K (i + 1) (run + 1) (by omega) (by omega) (by omega) (by omega) (by omega) (by omega) (fun q q1 q2 => h5' q (by omega) q2) (fun h => ?_) (fun s s1 s2 hfree => ?_)
          · have := h6 (by omega)
            have e : i + 1 - (run + 1) - 1 = i - run - 1 := by omega
            rw [e]
            exact this
          · by_cases hs : s + long ≤ i
            · exact h7 s s1 hs hfree
            · have hb := h6 (by omega)
              have := hfree (i - run - 1) (by omega) (by omega)
              rw [hb] at this
              cases this
    · obtain ⟨K, rfl⟩ : ∃ m, K = m + 1 := ⟨K - 1, by omega⟩
      simp only [purlinlaw3_BitsRuns.l0]
      rw [if_neg (by omega)]
      have ha : at_ = -1 := by
        rcases hat with ⟨g1, _⟩ | ⟨t, g1, g2, g3, g4, g5⟩
        · exact g1
        · exact absurd g4 (h7 t g2 (by omega))
      rw [if_pos ha]
      exact one_first l hl hm from_ n (by omega) (by omega) K (by omega)

theorem BitsRuns : purlinlaw3_BitsRuns.Pure := by
  intro l0 a1 a2 hm hs hl h1 h2
  have hb := By.of_wf hl
  refine ⟨3000, ?_⟩
  unfold purlinlaw3_BitsRuns.f
  by_cases c1 : (l0.length : Int) > 30
  · rw [if_pos c1, purlinlaw3_awake.is 3000 (by omega)]
    rfl
  · rw [if_neg c1, wrap64_is (x := 8 * (l0.length : Int)) (by omega) (by omega), wrap64_is (by omega) (by omega)]
    obtain ⟨r, hr, r0, r1⟩ := Low_is a1 (8 * (l0.length : Int) + 1) (by omega) (by omega)
    obtain ⟨q, hq, q0, q1⟩ := Low_is a2 20 (by omega) (by omega)
    obtain ⟨i, rfl⟩ := Int.eq_ofNat_of_zero_le r0
    obtain ⟨g, rfl⟩ := Int.eq_ofNat_of_zero_le q0
    rw [hr, Option.bind_some, hq, Option.bind_some, wrap64_is (x := 1 + (g : Int)) (by omega) (by omega)]
    have e1 : 8 * (l0.length : Int) = ((8 * l0.length : Nat) : Int) := by omega
    have e2 : 1 + (g : Int) = ((1 + g : Nat) : Int) := by omega
    rw [e1, e2]
    obtain ⟨a, ha, hc⟩ := bits_Run.is l0 hb (by omega) i (8 * l0.length) (1 + g) (by omega) (by omega) (by omega) (by omega)
    rw [ha, Option.bind_some]
    exact runs_loop l0 hb (by omega) i (1 + g) (8 * l0.length) (by omega) (by omega) (by omega) (by omega) a hc (8 * l0.length - i) 3000 i 0 (by omega) (Nat.le_refl _) (Or.inr rfl) (by omega) (by omega) (by omega) (fun q h1 h2 => by omega) (fun h => by omega) (fun s s1 s2 => by omega)

end Go.Proofs.Ytnhpmmmkcemnmaa.Pure
