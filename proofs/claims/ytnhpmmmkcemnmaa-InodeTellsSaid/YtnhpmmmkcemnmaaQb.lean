/- Sealed sectors over lists of numbers: what is sealed, what kind it is, what is opened; one byte another is none. -/
import Derived.Test.YtnhpmmmkcemnmaaQa
import Derived.Test.YtnhpmmmkcemnmaaPcx3
import Derived.Test.YtnhpmmmkcemnmaaPcx5
namespace Go.Proofs.Ytnhpmmmkcemnmaa.Pc
open Go.RowKit Go.Proofs.YtnhpmmmkcemnmaaW.PrintWords Go.Proofs.YtnhpmmmkcemnmaaW.PrintLast Go.Proofs.YtnhpmmmkcemnmaaW.PrintMore
set_option linter.unusedVariables false
set_option linter.unusedSimpArgs false

def be4 (s : Int) : List Int := [s / 16777216 % 256, s / 65536 % 256, s / 256 % 256, s % 256]
theorem be4_by (s : Int) : By (be4 s) := by
  intro x hx
  simp only [be4, List.mem_cons, List.not_mem_nil, or_false] at hx
  rcases hx with rfl | rfl | rfl | rfl <;> omega
theorem be4_inj {s t : Int} (h0 : 0 ≤ s ∧ s < 4294967296) (h1 : 0 ≤ t ∧ t < 4294967296) (h : be4 s = be4 t) : s = t := by
  unfold be4 at h
  simp only [List.cons.injEq, and_true] at h
  omega
/-- The front of a sector: the kind, the body, zeros. -/
abbrev padZ := seal_Seal.pad
theorem padZ_len (k : Int) (l : List Int) (h : l.length ≤ 123) : (padZ k l).length = 124 := by
  unfold padZ seal_Seal.pad
  simp
  omega
theorem padZ_by {k : Int} {l : List Int} (h0 : 0 ≤ k) (h1 : k < 256) (hl : By l) : By (padZ k l) := By.cons h0 h1 (hl.app (By.zeros _))
def sealZ (k : Int) (l : List Int) : List Int := padZ k l ++ be4 (sumZ (padZ k l))
theorem sealZ_len (k : Int) (l : List Int) (h : l.length ≤ 123) : (sealZ k l).length = 128 := by
  unfold sealZ
  rw [List.length_append, padZ_len k l h]
  rfl
theorem sealZ_by {k : Int} {l : List Int} (h0 : 0 ≤ k) (h1 : k < 256) (hl : By l) : By (sealZ k l) := (padZ_by h0 h1 hl).app (be4_by _)
theorem sealZ_front (k : Int) (l : List Int) (h : l.length ≤ 123) : (sealZ k l).take 124 = padZ k l := by
  unfold sealZ
  rw [List.take_append_of_le_length (by rw [padZ_len k l h]; omega), List.take_of_length_le (by rw [padZ_len k l h]; omega)]
theorem sealZ_back (k : Int) (l : List Int) (h : l.length ≤ 123) : (sealZ k l).drop 124 = be4 (sumZ (padZ k l)) := by
  unfold sealZ
  rw [List.drop_append_of_le_length (by rw [padZ_len k l h]; omega), List.drop_eq_nil_of_le (by rw [padZ_len k l h]; omega), List.nil_append]
theorem sealZ_head (k : Int) (l : List Int) : (sealZ k l).getD 0 0 = k := rfl
/-- The body with zeros behind, and what it is padded to. -/
def bodyZ (l : List Int) : List Int := l ++ List.replicate (123 - l.length) 0
theorem bodyZ_len (l : List Int) (h : l.length ≤ 123) : (bodyZ l).length = 123 := by unfold bodyZ; simp; omega
theorem bodyZ_by {l : List Int} (hl : By l) : By (bodyZ l) := hl.app (By.zeros _)
theorem padZ_body (k : Int) (l : List Int) : padZ k l = k :: bodyZ l := rfl
theorem padZ_bodyZ (k : Int) (l : List Int) (h : l.length ≤ 123) : padZ k (bodyZ l) = padZ k l := by
  rw [padZ_body, padZ_body]
  congr 1
  show bodyZ l ++ List.replicate (123 - (bodyZ l).length) 0 = bodyZ l
  rw [bodyZ_len l h]
  simp
theorem sealZ_bodyZ (k : Int) (l : List Int) (h : l.length ≤ 123) : sealZ k (bodyZ l) = sealZ k l := by
  unfold sealZ
  rw [padZ_bodyZ k l h]
theorem sealZ_open (k : Int) (l : List Int) (h : l.length ≤ 123) : ((sealZ k l).take 124).drop 1 = bodyZ l := by
  rw [sealZ_front k l h, padZ_body]
  rfl
/-- Bytes that are a sealed sector. -/
def good (b : List Int) : Bool := b.length == 128 && b.getD 0 0 != 0 && b == b.take 124 ++ be4 (sumZ (b.take 124))
theorem pad_of_front (b : List Int) (h : b.length = 128) : padZ (b.getD 0 0) ((b.take 124).drop 1) = b.take 124 := by
  have hl : ((b.take 124).drop 1).length = 123 := by simp; omega
  rw [padZ_body]
  unfold bodyZ
  rw [hl]
  cases b with
  | nil => simp at h
  | cons x b => simp [List.getD]
theorem seal_of_front (b : List Int) (h : b.length = 128) : sealZ (b.getD 0 0) ((b.take 124).drop 1) = b.take 124 ++ be4 (sumZ (b.take 124)) := by
  unfold sealZ
  rw [pad_of_front b h]
theorem good_sealZ (k : Int) (l : List Int) (hk : k ≠ 0) (h : l.length ≤ 123) : good (sealZ k l) = true := by
  unfold good
  rw [sealZ_front k l h, sealZ_len k l h, sealZ_head]
  simp [hk, sealZ]
def kindZ (b : List Int) : Int := if good b = true then b.getD 0 0 else 0
theorem kindZ_sealZ (k : Int) (l : List Int) (hk : k ≠ 0) (h : l.length ≤ 123) : kindZ (sealZ k l) = k := by
  unfold kindZ
  rw [if_pos (good_sealZ k l hk h)]
  rfl
theorem good_len {b : List Int} (h : good b = true) : b.length = 128 := by
  unfold good at h
  simp only [Bool.and_eq_true, beq_iff_eq] at h
  exact h.1.1
theorem good_is {b : List Int} (h : good b = true) : b = b.take 124 ++ be4 (sumZ (b.take 124)) := by
  unfold good at h
  simp only [Bool.and_eq_true, beq_iff_eq] at h
  exact h.2
theorem kindZ_len {b : List Int} (h : kindZ b ≠ 0) : b.length = 128 := by
  unfold kindZ at h
  by_cases hg : good b = true
  · exact good_len hg
  · rw [if_neg hg] at h
    exact absurd rfl h
theorem kindZ_seal {b : List Int} (h : kindZ b ≠ 0) : sealZ (kindZ b) ((b.take 124).drop 1) = b := by
  unfold kindZ at h ⊢
  by_cases hg : good b = true
  · rw [if_pos hg, seal_of_front b (good_len hg)]
    exact (good_is hg).symm
  · rw [if_neg hg] at h
    exact absurd rfl h
/-- One byte of a sector another: it is none. -/
theorem good_set (b : List Int) (hb : By b) (h : good b = true) (i : Nat) (hi : i < 128) (x : Int) (h0 : 0 ≤ x) (h1 : x < 256) (hx : x ≠ b.getD i 0) : good (b.set i x) = false := by
  rcases Bool.eq_false_or_eq_true (good (b.set i x)) with hg | hg
  · exfalso
    have hl := good_len h
    have e1 := good_is h
    have e2 := good_is hg
    by_cases hi4 : i < 124
    · have t : (b.set i x).take 124 = (b.take 124).set i x := by rw [List.take_set]
      rw [t] at e2
      have d1 : b.drop 124 = be4 (sumZ (b.take 124)) := by
        have := congrArg (List.drop 124) e1
        rwa [List.drop_append_of_le_length (by simp; omega), show List.drop 124 (List.take 124 b) = [] from List.drop_eq_nil_of_le (by simp; omega), List.nil_append] at this
      have d2 : (b.set i x).drop 124 = be4 (sumZ ((b.take 124).set i x)) := by
        have := congrArg (List.drop 124) e2
        rwa [List.drop_append_of_le_length (by simp; omega), show List.drop 124 ((List.take 124 b).set i x) = [] from List.drop_eq_nil_of_le (by simp; omega), List.nil_append] at this
      have d3 : (b.set i x).drop 124 = b.drop 124 := by
        rw [List.drop_set]
        rw [if_pos hi4]
      rw [d3, d1] at d2
      have hs := be4_inj (sumZ_range _) (sumZ_range _) d2
      have hy := sumZ_set (b.take 124) (hb.take_ 124) i (by simp; omega) x h0 h1 hs.symm
      apply hx
      rw [hy]
      simp [List.getD_eq_getElem?_getD, List.getElem?_take, hi4]
    · have t : (b.set i x).take 124 = b.take 124 := by
        rw [List.take_set, List.set_eq_of_length_le (by simp; omega)]
      rw [t, ← e1] at e2
      apply hx
      have := congrArg (fun l : List Int => l.getD i 0) e2
      simp only [List.getD_eq_getElem?_getD] at this
      rw [List.getElem?_set_self (by omega)] at this
      simpa [List.getD_eq_getElem?_getD] using this
  · exact hg
theorem kindZ_set (b : List Int) (hb : By b) (h : kindZ b ≠ 0) (i : Nat) (hi : i < 128) (x : Int) (h0 : 0 ≤ x) (h1 : x < 256) (hx : x ≠ b.getD i 0) : kindZ (b.set i x) = 0 := by
  unfold kindZ at h ⊢
  by_cases hg : good b = true
  · rw [good_set b hb hg i hi x h0 h1 hx]
    simp
  · rw [if_neg hg] at h
    exact absurd rfl h
theorem sealZ_inj (j k : Int) (a b : List Int) (ha : a.length ≤ 123) (hb : b.length ≤ 123) : sealZ j a = sealZ k b ↔ j = k ∧ bodyZ a = bodyZ b := by
  constructor
  · intro h
    have h2 := congrArg (List.take 124) h
    rw [sealZ_front j a ha, sealZ_front k b hb, padZ_body, padZ_body] at h2
    simpa using h2
  · rintro ⟨rfl, h⟩
    unfold sealZ
    rw [padZ_body, padZ_body, h]

/-! ### what the program comes to -/
theorem seal_Seal.is (k : Int) (l : List Int) (h0 : 0 ≤ k) (h1 : k < 256) (hl : By l) (K : Nat) (hK : 200 ≤ K) :
    seal_Seal.f K k l = some (if k = 0 ∨ 123 < l.length then ([], 2) else (sealZ k l, 0)) := by
  unfold seal_Seal.f
  by_cases c1 : k = 0
  · rw [if_pos c1, if_pos (Or.inl c1)]
  · rw [if_neg c1]
    by_cases c2 : (l.length : Int) > 123
    · rw [if_pos c2, if_pos (Or.inr (by omega))]
    · rw [if_neg c2, if_neg (by omega), seal_Sum.is _ (padZ_by h0 h1 hl) (by have := padZ_len k l (by omega); omega) K (by have := padZ_len k l (by omega); omega)]
      rfl
theorem seal_Seal.yes (k : Int) (l : List Int) (hk : k ≠ 0) (h0 : 0 ≤ k) (h1 : k < 256) (hl : By l) (hn : l.length ≤ 123) (K : Nat) (hK : 200 ≤ K) : seal_Seal.f K k l = some (sealZ k l, 0) := by
  rw [seal_Seal.is k l h0 h1 hl K hK, if_neg (by omega)]
theorem equal_l0_is (a b : List Int) (hab : a.length = b.length) (hm : a.length ≤ 1000000) (d : Nat) : ∀ (k i : Nat), i + d = a.length → d < k →
    slices_Equal_byte_byte.l0 k a b (a.length : Int) (i : Int) = some (a.drop i == b.drop i) := by
  induction d with
  | zero =>
    intro k i hd hk
    obtain ⟨k, rfl⟩ : ∃ m, k = m + 1 := ⟨k - 1, by omega⟩
    simp only [slices_Equal_byte_byte.l0]
    rw [if_neg (by omega), List.drop_eq_nil_of_le (by omega), List.drop_eq_nil_of_le (by omega)]
    rfl
  | succ d ih =>
    intro k i hd hk
    obtain ⟨k, rfl⟩ : ∃ m, k = m + 1 := ⟨k - 1, by omega⟩
    simp only [slices_Equal_byte_byte.l0]
    rw [if_pos (by omega), if_pos (by omega), if_pos (by omega), if_pos (by omega), wrap64_is (by omega) (by omega), drop_rd a i (by omega), drop_rd b i (by omega)]
    by_cases h : rd a i = rd b i
    · rw [if_pos h, h, List.cons_beq_cons, beq_self_eq_true, Bool.true_and]
      exact ih k (i + 1) (by omega) (by omega)
    · rw [if_neg h, List.cons_beq_cons, beq_eq_false_iff_ne.mpr h, Bool.false_and]
theorem slices_Equal_is (a b : List Int) (hm : a.length ≤ 1000000) (K : Nat) (hK : a.length < K) : slices_Equal_byte_byte.f K a b = some (a == b) := by
  unfold slices_Equal_byte_byte.f
  by_cases h : a.length = b.length
  · rw [if_pos (by omega)]
    exact equal_l0_is a b h hm a.length K 0 (by omega) hK
  · rw [if_neg (by omega)]
    have : a ≠ b := fun e => h (by rw [e])
    rw [beq_eq_false_iff_ne.mpr this]
theorem same_l0_is (a b : List Int) (hab : a.length = b.length) (hm : a.length ≤ 1000000) (d : Nat) : ∀ (k i : Nat), i + d = a.length → d < k →
    purlinlaw0_SameBytes.l0 k a b (i : Int) = some (a.drop i == b.drop i) := by
  induction d with
  | zero =>
    intro k i hd hk
    obtain ⟨k, rfl⟩ : ∃ m, k = m + 1 := ⟨k - 1, by omega⟩
    simp only [purlinlaw0_SameBytes.l0]
    rw [if_neg (by omega), List.drop_eq_nil_of_le (by omega), List.drop_eq_nil_of_le (by omega)]
    rfl
  | succ d ih =>
    intro k i hd hk
    obtain ⟨k, rfl⟩ : ∃ m, k = m + 1 := ⟨k - 1, by omega⟩
    simp only [purlinlaw0_SameBytes.l0]
    rw [if_pos (by omega), if_pos (by omega), if_pos (by omega), wrap64_is (by omega) (by omega), drop_rd a i (by omega), drop_rd b i (by omega)]
    by_cases h : rd a i = rd b i
    · rw [if_pos h, h, List.cons_beq_cons, beq_self_eq_true, Bool.true_and]
      exact ih k (i + 1) (by omega) (by omega)
    · rw [if_neg h, List.cons_beq_cons, beq_eq_false_iff_ne.mpr h, Bool.false_and]
theorem same_is (a b : List Int) (hm : a.length ≤ 1000000) (K : Nat) (hK : a.length < K) : purlinlaw0_SameBytes.f K a b = some (a == b) := by
  unfold purlinlaw0_SameBytes.f
  by_cases h : a.length = b.length
  · rw [if_pos (by omega)]
    exact same_l0_is a b h hm a.length K 0 (by omega) hK
  · rw [if_neg (by omega)]
    have : a ≠ b := fun e => h (by rw [e])
    rw [beq_eq_false_iff_ne.mpr this]
theorem rd_zero (l : List Int) : rd l 0 = l.getD 0 0 := rd_getD l 0
theorem seal_Kind.is (b : List Int) (hb : By b) (K : Nat) (hK : 201 ≤ K) : seal_Kind.f K b = some (kindZ b) := by
  obtain ⟨K, rfl⟩ : ∃ m, K = m + 1 := ⟨K - 1, by omega⟩
  unfold seal_Kind.f
  by_cases h : b.length = 128
  · rw [if_pos (by omega), if_pos (by omega)]
    simp only [seal_Kind.j0]
    rw [rd_zero]
    have hb0 := hb.getD 0
    by_cases h0 : b.getD 0 0 = 0
    · rw [if_pos (beq_iff_eq.mpr h0)]
      unfold kindZ good
      rw [h0]
      simp
    · rw [if_neg (fun e => h0 (beq_iff_eq.mp e)), if_pos (by omega), if_pos (by omega), if_pos (by omega), seal_Seal.yes _ _ h0 hb0.1 hb0.2 ((hb.take_ 124).drop_ 1) (by simp; omega) K (by omega), seal_of_front b h]
      simp only [Option.bind_some]
      rw [slices_Equal_is _ _ (by simp [be4]; omega) K (by simp [be4]; omega)]
      simp only [Option.bind_some]
      unfold kindZ good
      rw [h, bne_iff_ne.mpr h0]
      by_cases e : b.take 124 ++ be4 (sumZ (b.take 124)) = b
      · rw [if_pos (by simpa using e), if_pos (by simp [e])]
      · rw [if_neg (by simpa using e), if_neg (by simp; exact fun e' => e e'.symm)]
  · rw [if_neg (by omega)]
    simp only [seal_Kind.j0]
    unfold kindZ good
    simp [h]
theorem seal_Open.is (k : Int) (b : List Int) (hb : By b) (K : Nat) (hK : 201 ≤ K) :
    seal_Open.f K k b = some (if k ≠ 0 ∧ kindZ b = k then ((b.take 124).drop 1, 0) else ([], 3)) := by
  unfold seal_Open.f
  by_cases h0 : k = 0
  · rw [if_pos h0, if_neg (by simp [h0])]
  · rw [if_neg h0, seal_Kind.is b hb K hK]
    simp only [Option.bind_some]
    by_cases h1 : kindZ b = k
    · have hl : b.length = 128 := kindZ_len (by rw [h1]; exact h0)
      rw [if_pos h1, if_pos (by omega), if_pos (by omega), if_pos ⟨h0, h1⟩]
      unfold slices_Clone_byte_byte.f
      rw [if_pos (by simp; omega)]
      rfl
    · rw [if_neg h1, if_neg (by simp [h1])]
theorem purlinlaw2_awake.is (K : Nat) (hK : 201 ≤ K) : purlinlaw2_awake.f K = some true := by
  have h5 : By [5] := By.cons (by omega) (by omega) By.nil
  have hs := sealZ_by (k := 68) (by omega) (by omega) h5
  unfold purlinlaw2_awake.f
  rw [seal_Seal.yes 68 [5] (by omega) (by omega) (by omega) h5 (by simp) K (by omega)]
  simp only [Option.bind_some]
  rw [seal_Open.is 68 _ hs K hK, seal_Open.is 69 _ hs K hK, kindZ_sealZ 68 [5] (by omega) (by simp), sealZ_open 68 [5] (by simp), seal_Kind.is _ hs K hK, kindZ_sealZ 68 [5] (by omega) (by simp), sealZ_len 68 [5] (by simp)]
  simp [bodyZ, rd]
theorem Low_is (x n : Int) (h0 : 0 < n) (h1 : n < 9223372036854775808) : ∃ r, purlinlaw0_Low.f x n = some r ∧ 0 ≤ r ∧ r < n := by
  unfold purlinlaw0_Low.f
  have e : IntKind.u64.wrap n = n := by simp [IntKind.wrap, IntKind.bits, IntKind.signed]; omega
  have e2 : 0 ≤ IntKind.u64.wrap x := by simp [IntKind.wrap, IntKind.bits, IntKind.signed]; omega
  rw [e, if_neg (by omega)]
  have e3 : Int.tmod (IntKind.u64.wrap x) n = IntKind.u64.wrap x % n := Int.tmod_eq_emod_of_nonneg e2
  have h2 := Int.emod_nonneg (IntKind.u64.wrap x) (show n ≠ 0 by omega)
  have h3 := Int.emod_lt_of_pos (IntKind.u64.wrap x) h0
  rw [e3, wrap64_is (by omega) (by omega)]
  exact ⟨_, rfl, h2, h3⟩
end Go.Proofs.Ytnhpmmmkcemnmaa.Pc
