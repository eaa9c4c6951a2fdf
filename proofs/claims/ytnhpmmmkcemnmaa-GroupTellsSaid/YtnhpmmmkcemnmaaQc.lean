/- Sets of small numbers kept as bytes, over lists of numbers: which numbers are there; a set with one number more or less; all of them; sets alike by their numbers. -/
import Derived.Test.YtnhpmmmkcemnmaaQb
import Derived.Test.YtnhpmmmkcemnmaaPcx8
import Derived.Test.YtnhpmmmkcemnmaaPcx9
import Derived.Test.YtnhpmmmkcemnmaaPcx10
import Derived.Test.YtnhpmmmkcemnmaaPcx11
namespace Go.Proofs.Ytnhpmmmkcemnmaa.Pc
open Go.RowKit Go.Proofs.YtnhpmmmkcemnmaaW.PrintWords Go.Proofs.YtnhpmmmkcemnmaaW.PrintLast Go.Proofs.YtnhpmmmkcemnmaaW.PrintMore
set_option linter.unusedVariables false
set_option linter.unusedSimpArgs false

def hasZ (l : List Int) (i : Nat) : Bool := (l.getD (i / 8) 0).toNat.testBit (i % 8)
theorem hasZ_out (l : List Int) (i : Nat) (h : 8 * l.length ≤ i) : hasZ l i = false := by
  unfold hasZ
  rw [List.getD_eq_getElem?_getD, List.getElem?_eq_none (by omega)]
  simp
theorem bit_is (x : Int) (r : Nat) (h0 : 0 ≤ x) (h1 : x < 256) (hr : r < 8) : ((Go.bits .and .u8 (shr .u8 x (r : Int)) 1) == 1) = x.toNat.testBit r := by
  have e1 : shr .u8 x (r : Int) = ((x.toNat / 2 ^ r : Nat) : Int) := by
    unfold shr
    have : min ((r : Int)).toNat (IntKind.u8.bits) = r := by simp [IntKind.bits]; omega
    rw [this]
    have hx : x = (x.toNat : Int) := by omega
    rw [hx]
    simp
  have hlt : x.toNat / 2 ^ r < 256 := Nat.lt_of_le_of_lt (Nat.div_le_self _ _) (by omega)
  rw [e1, Nat.testBit_eq_decide_div_mod_eq]
  generalize x.toNat / 2 ^ r = y at hlt
  rw [u8_and _ _ (by omega) (by omega) (by omega) (by omega)]
  have : ((y : Nat) : Int).toNat &&& (1 : Int).toNat = y % 2 := by
    rw [Int.toNat_natCast]
    exact Nat.and_one_is_mod _
  rw [this]
  rcases Nat.mod_two_eq_zero_or_one y with h | h <;> rw [h] <;> rfl
theorem bits_Has.is (l : List Int) (hl : By l) (i : Nat) (hi : i < 9007199254740992) : bits_Has.f l (i : Int) = some (hasZ l i) := by
  unfold bits_Has.f
  have e1 : Int.tdiv (i : Int) 8 = ((i / 8 : Nat) : Int) := by rw [Int.tdiv_eq_ediv_of_nonneg (by omega)]; rfl
  have e2 : Int.tmod (i : Int) 8 = ((i % 8 : Nat) : Int) := by rw [Int.tmod_eq_emod_of_nonneg (by omega)]; rfl
  rw [if_pos (by omega), e1, wrap64_is (by omega) (by omega)]
  by_cases h : i / 8 < l.length
  · have hb := hl.getD (i / 8)
    rw [if_pos (by omega), if_pos (by omega), e2, if_pos (by omega), rd_getD, bit_is _ _ hb.1 hb.2 (by omega)]
    rfl
  · rw [if_neg (by omega), hasZ_out l i (by omega)]
theorem bits_Has.neg (l : List Int) (i : Int) (hi : i < 0) : bits_Has.f l i = some false := by
  unfold bits_Has.f
  rw [if_neg (by omega)]

/-- A set with a number, or without it. -/
def withZ (l : List Int) (i : Nat) (on : Bool) : List Int :=
  if i / 8 < l.length then l.set (i / 8) (if on then (((l.getD (i / 8) 0).toNat ||| 2 ^ (i % 8) : Nat) : Int) else (((l.getD (i / 8) 0).toNat &&& (255 - 2 ^ (i % 8)) : Nat) : Int)) else l
theorem two_pow_lt (r : Nat) (hr : r < 8) : 2 ^ r < 256 := Nat.pow_lt_pow_right (by omega) (show r < 8 from hr)
theorem withZ_len (l : List Int) (i : Nat) (on : Bool) : (withZ l i on).length = l.length := by
  unfold withZ
  split <;> simp
theorem withZ_by {l : List Int} (hl : By l) (i : Nat) (on : Bool) : By (withZ l i on) := by
  unfold withZ
  by_cases h : i / 8 < l.length
  · rw [if_pos h]
    have hb := hl.getD (i / 8)
    have hp := two_pow_lt (i % 8) (by omega)
    cases on with
    | true =>
      have : (l.getD (i / 8) 0).toNat ||| 2 ^ (i % 8) < 2 ^ 8 := Nat.or_lt_two_pow (by omega) (by omega)
      rw [if_pos rfl]
      exact hl.set_ _ _ (by omega) (by omega)
    | false =>
      have : (l.getD (i / 8) 0).toNat &&& (255 - 2 ^ (i % 8)) ≤ (l.getD (i / 8) 0).toNat := Nat.and_le_left
      rw [if_neg (by decide)]
      exact hl.set_ _ _ (by omega) (by omega)
  · rw [if_neg h]
    exact hl
theorem set_same (l : List Int) (k : Nat) (h : k < l.length) (x : Int) : (l.set k x).getD k 0 = x := by
  rw [List.getD_eq_getElem?_getD, List.getElem?_set_self h]
  rfl
theorem set_other (l : List Int) (k m : Nat) (h : k ≠ m) (x : Int) : (l.set k x).getD m 0 = l.getD m 0 := by
  rw [List.getD_eq_getElem?_getD, List.getElem?_set_ne h, List.getD_eq_getElem?_getD]
theorem bit_or (y r q : Nat) : (y ||| 2 ^ r).testBit q = (y.testBit q || decide (r = q)) := by rw [Nat.testBit_or, Nat.testBit_two_pow]
theorem bit_off (y r q : Nat) (hr : r < 8) (hq : q < 8) : (y &&& (255 - 2 ^ r)).testBit q = (y.testBit q && !decide (r = q)) := by
  have hp := two_pow_lt r hr
  have : 255 - 2 ^ r = 2 ^ 8 - (2 ^ r + 1) := by omega
  rw [this, Nat.testBit_and, Nat.testBit_two_pow_sub_succ hp, Nat.testBit_two_pow]
  simp [hq]
theorem hasZ_withZ (l : List Int) (hl : By l) (i j : Nat) (on : Bool) : hasZ (withZ l i on) j = if j = i ∧ i < 8 * l.length then on else hasZ l j := by
  by_cases h : i / 8 < l.length
  · have h8 : i < 8 * l.length := by omega
    by_cases hj : j / 8 = i / 8
    · have hji : (i % 8 = j % 8) ↔ j = i := by omega
      cases on with
      | true =>
        have e : withZ l i true = l.set (i / 8) (((l.getD (i / 8) 0).toNat ||| 2 ^ (i % 8) : Nat) : Int) := by
          unfold withZ
          rw [if_pos h]
          rfl
        unfold hasZ
        rw [e, hj, set_same l _ h, Int.toNat_natCast, bit_or]
        by_cases hm : j = i
        · rw [if_pos ⟨hm, h8⟩, hm]
          simp
        · rw [if_neg (fun z => hm z.1), decide_eq_false (fun z => hm (hji.1 z)), Bool.or_false]
      | false =>
        have e : withZ l i false = l.set (i / 8) (((l.getD (i / 8) 0).toNat &&& (255 - 2 ^ (i % 8)) : Nat) : Int) := by
          unfold withZ
          rw [if_pos h]
          rfl
        unfold hasZ
        rw [e, hj, set_same l _ h, Int.toNat_natCast, bit_off _ _ _ (by omega) (by omega)]
        by_cases hm : j = i
        · rw [if_pos ⟨hm, h8⟩, hm]
          simp
        · rw [if_neg (fun z => hm z.1), decide_eq_false (fun z => hm (hji.1 z)), Bool.not_false, Bool.and_true]
    · rw [if_neg (fun e => hj (by rw [e.1]))]
      unfold withZ
      rw [if_pos h]
      unfold hasZ
      rw [set_other l _ _ (fun e => hj e.symm)]
  · rw [if_neg (by omega)]
    unfold withZ
    rw [if_neg h]
theorem shl_one (r : Nat) (hr : r < 8) : shl .u8 1 (r : Int) = ((2 ^ r : Nat) : Int) := by
  have : min ((r : Int)).toNat (IntKind.u8.bits) = r := by simp [IntKind.bits]; omega
  unfold shl
  rw [this, IntKind.wrap_u8]
  have hp := two_pow_lt r hr
  have e : (1 : Int) * 2 ^ r = ((2 ^ r : Nat) : Int) := by simp
  rw [e]
  generalize 2 ^ r = p at hp
  omega
theorem bits_With.is (l : List Int) (hl : By l) (hm : l.length ≤ 1000000) (i : Nat) (hi : i < 9007199254740992) (on : Bool) (K : Nat) (hK : 1 ≤ K) : bits_With.f K l (i : Int) on = some (withZ l i on) := by
  obtain ⟨K, rfl⟩ : ∃ m, K = m + 1 := ⟨K - 1, by omega⟩
  have e1 : Int.tdiv (i : Int) 8 = ((i / 8 : Nat) : Int) := by rw [Int.tdiv_eq_ediv_of_nonneg (by omega)]; rfl
  have e2 : Int.tmod (i : Int) 8 = ((i % 8 : Nat) : Int) := by rw [Int.tmod_eq_emod_of_nonneg (by omega)]; rfl
  unfold bits_With.f slices_Clone_byte_byte.f
  rw [if_pos (by omega), Option.bind_some, if_neg (by omega), e1, wrap64_is (by omega) (by omega)]
  have hb := hl.getD (i / 8)
  have hp := two_pow_lt (i % 8) (by omega)
  unfold withZ
  by_cases h : i / 8 < l.length
  · have hd : decide (((i / 8 : Nat) : Int) ≥ (l.length : Int)) = false := decide_eq_false (by omega)
    rw [hd, if_pos h]
    simp only [bits_With.j0]
    rw [if_neg (by decide), e1, e2, wrap64_is (by omega) (by omega), shl_one _ (by omega)]
    generalize 2 ^ (i % 8) = p at hp
    cases on with
    | true =>
      rw [if_pos rfl, if_pos (by omega), if_pos (by omega), if_pos (by omega), rd_getD, u8_or _ _ hb.1 hb.2 (by omega) (by omega), Int.toNat_natCast, Int.toNat_natCast]
      rfl
    | false =>
      rw [if_neg (by decide), if_pos (by omega), if_pos (by omega), if_pos (by omega), rd_getD, u8_andNot _ _ hb.1 hb.2 (by omega) (by omega), Int.toNat_natCast, Int.toNat_natCast]
      rfl
  · have hd : decide (((i / 8 : Nat) : Int) ≥ (l.length : Int)) = true := decide_eq_true (by omega)
    rw [hd, if_neg h]
    simp only [bits_With.j0]
    rw [if_pos trivial]
/-- Sets are alike if their numbers are. -/
theorem set_ext {l m : List Int} (hl : By l) (hm : By m) (hn : l.length = m.length) (h : ∀ j, j < 8 * l.length → hasZ l j = hasZ m j) : l = m := by
  apply List.ext_getElem hn
  intro i h1 h2
  have hx := hl l[i] (List.getElem_mem h1)
  have hy := hm m[i] (List.getElem_mem h2)
  have key : l[i].toNat = m[i].toNat := by
    apply Nat.eq_of_testBit_eq
    intro r
    by_cases hr : r < 8
    · have := h (8 * i + r) (by omega)
      unfold hasZ at this
      have d : (8 * i + r) / 8 = i := by omega
      have e : (8 * i + r) % 8 = r := by omega
      rw [d, e, List.getD_eq_getElem?_getD, List.getElem?_eq_getElem h1, List.getD_eq_getElem?_getD, List.getElem?_eq_getElem h2] at this
      exact this
    · have hp : 256 ≤ 2 ^ r := by
        have : 2 ^ 8 ≤ 2 ^ r := Nat.pow_le_pow_right (by omega) (by omega)
        omega
      rw [Nat.testBit_lt_two_pow (by omega), Nat.testBit_lt_two_pow (by omega)]
  omega

/-! ### all of them, and how many -/
def allZ (l : List Int) (n : Nat) : List Nat := (List.range n).filter (hasZ l)
theorem allZ_succ (l : List Int) (n : Nat) : allZ l (n + 1) = if hasZ l n then allZ l n ++ [n] else allZ l n := by
  unfold allZ
  rw [List.range_succ, List.filter_append]
  by_cases h : hasZ l n = true
  · rw [if_pos h]
    simp [h]
  · rw [if_neg h]
    simp [h]
theorem allZ_len (l : List Int) (n : Nat) : (allZ l n).length ≤ n := by
  have := List.length_filter_le (hasZ l) (List.range n)
  simpa [allZ] using this
theorem allZ_out (l : List Int) (n : Nat) (h : 8 * l.length ≤ n) : allZ l n = allZ l (8 * l.length) := by
  obtain ⟨d, rfl⟩ : ∃ d, n = 8 * l.length + d := ⟨n - 8 * l.length, by omega⟩
  induction d with
  | zero => rfl
  | succ d ih =>
    rw [← Nat.add_assoc, allZ_succ, hasZ_out l _ (by omega)]
    exact ih (by omega)
def intsZ (l : List Nat) : List Int := l.map fun x : Nat => (x : Int)
theorem all_l0 (l : List Int) (hl : By l) (hm : l.length ≤ 100000) (n : Int) (hn : n ≤ 1000000) (d : Nat) : ∀ (K i : Nat), (min n (8 * (l.length : Int))).toNat = i + d → 2 * d + 2 ≤ K →
    bits_All.l0 K l n (intsZ (allZ l i)) (i : Int) = some (intsZ (allZ l (min n (8 * (l.length : Int))).toNat)) := by
  induction d with
  | zero =>
    intro K i hd hK
    obtain ⟨K, rfl⟩ : ∃ m, K = m + 2 := ⟨K - 2, by omega⟩
    rw [hd]
    simp only [bits_All.l0]
    by_cases h : (i : Int) < n
    · have hdec : decide ((i : Int) < wrap64 (8 * (l.length : Int))) = false := decide_eq_false (by rw [wrap64_is (by omega) (by omega)]; omega)
      rw [if_pos h, hdec]
      simp only [bits_All.j1]
      rw [if_neg (by decide), Nat.add_zero]
    · rw [if_neg h]
      simp only [bits_All.j1]
      rw [if_neg (by decide), Nat.add_zero]
  | succ d ih =>
    intro K i hd hK
    obtain ⟨K, rfl⟩ : ∃ m, K = m + 2 := ⟨K - 2, by omega⟩
    simp only [bits_All.l0]
    have hdec : decide ((i : Int) < wrap64 (8 * (l.length : Int))) = true := decide_eq_true (by rw [wrap64_is (by omega) (by omega)]; omega)
    have hal := allZ_len l i
    rw [if_pos (by omega), hdec]
    simp only [bits_All.j1]
    rw [if_pos trivial, bits_Has.is l hl i (by omega)]
    simp only [Option.bind_some]
    have hnext := ih K (i + 1) (by omega) (by omega)
    rw [allZ_succ] at hnext
    rw [wrap64_is (by omega) (by omega)]
    by_cases h : hasZ l i = true
    · rw [if_pos h, if_pos (by simp [intsZ]; omega)]
      rw [if_pos h] at hnext
      have : intsZ (allZ l i) ++ [(i : Int)] = intsZ (allZ l i ++ [i]) := by simp [intsZ]
      rw [this]
      exact hnext
    · rw [if_neg h]
      rw [if_neg h] at hnext
      exact hnext
theorem bits_All.is (l : List Int) (hl : By l) (hm : l.length ≤ 1000) (n : Nat) (hn : n ≤ 1000000) (K : Nat) (hK : 16 * l.length + 4 ≤ K) : bits_All.f K l (n : Int) = some (intsZ (allZ l n)) := by
  unfold bits_All.f
  have := all_l0 l hl (by omega) (n : Int) (by omega) (min (n : Int) (8 * (l.length : Int))).toNat K 0 (by omega) (by omega)
  have e : allZ l (min (n : Int) (8 * (l.length : Int))).toNat = allZ l n := by
    by_cases h : n ≤ 8 * l.length
    · congr 1
      omega
    · rw [allZ_out l n (by omega)]
      congr 1
      omega
  rw [e] at this
  exact this
theorem bits_Count.is (l : List Int) (hl : By l) (hm : l.length ≤ 1000) (n : Nat) (hn : n ≤ 1000000) (K : Nat) (hK : 16 * l.length + 4 ≤ K) : bits_Count.f K l (n : Int) = some ((allZ l n).length : Int) := by
  unfold bits_Count.f
  rw [bits_All.is l hl hm n hn K hK]
  simp [intsZ]

/-! ### the set of some numbers -/
def ofZ (n : Nat) (is : List Int) (b : List Int) : List Int := is.foldl (fun b i => if 0 ≤ i ∧ i < (n : Int) then withZ b i.toNat true else b) b
theorem ofZ_len (n : Nat) (is : List Int) : ∀ b, (ofZ n is b).length = b.length := by
  induction is with
  | nil => intro b; rfl
  | cons i is ih =>
    intro b
    show (ofZ n is (if 0 ≤ i ∧ i < (n : Int) then withZ b i.toNat true else b)).length = _
    rw [ih]
    split
    · exact withZ_len _ _ _
    · rfl
theorem ofZ_by (n : Nat) (is : List Int) : ∀ b, By b → By (ofZ n is b) := by
  induction is with
  | nil => intro b h; exact h
  | cons i is ih =>
    intro b h
    refine ih (if 0 ≤ i ∧ i < (n : Int) then withZ b i.toNat true else b) ?_
    split
    · exact withZ_by h _ _
    · exact h
theorem hasZ_ofZ (n : Nat) (is : List Int) : ∀ b, By b → n ≤ 8 * b.length → ∀ j, hasZ (ofZ n is b) j = (hasZ b j || (decide (j < n) && decide ((j : Int) ∈ is))) := by
  induction is with
  | nil => intro b _ _ j; simp [ofZ]
  | cons i is ih =>
    intro b hb hn j
    show hasZ (ofZ n is (if 0 ≤ i ∧ i < (n : Int) then withZ b i.toNat true else b)) j = _
    by_cases h : 0 ≤ i ∧ i < (n : Int)
    · rw [if_pos h, ih _ (withZ_by hb _ _) (by rw [withZ_len]; exact hn), hasZ_withZ b hb]
      by_cases hj : j = i.toNat
      · have : (j : Int) = i := by omega
        rw [if_pos ⟨hj, by omega⟩, this]
        have hjn : j < n := by omega
        simp [hjn]
      · have : ¬ ((j : Int) = i) := by omega
        rw [if_neg (fun e => hj e.1)]
        simp [this]
    · rw [if_neg h, ih _ hb hn]
      by_cases hj : (j : Int) = i
      · have hjn : ¬ j < n := by omega
        simp [hjn]
      · simp [hj]
theorem of_l0 (n : Nat) (hn : n ≤ 1000) (is : List Int) (hi : is.length ≤ 100000) (d : Nat) : ∀ (K p : Nat) (b : List Int), By b → b.length ≤ 1000 → p + d = is.length → d + 2 ≤ K →
    bits_Of.l0 K (n : Int) b is (is.length : Int) (p : Int) = some (ofZ n (is.drop p) b) := by
  induction d with
  | zero =>
    intro K p b hb hbl hd hK
    obtain ⟨K, rfl⟩ : ∃ m, K = m + 1 := ⟨K - 1, by omega⟩
    simp only [bits_Of.l0]
    rw [if_neg (by omega), List.drop_eq_nil_of_le (by omega)]
    rfl
  | succ d ih =>
    intro K p b hb hbl hd hK
    obtain ⟨K, rfl⟩ : ∃ m, K = m + 1 := ⟨K - 1, by omega⟩
    simp only [bits_Of.l0]
    have e : ofZ n (is.drop p) b = ofZ n (is.drop (p + 1)) (if 0 ≤ rd is (p : Int) ∧ rd is (p : Int) < (n : Int) then withZ b (rd is (p : Int)).toNat true else b) := by
      rw [drop_rd is p (by omega)]
      rfl
    rw [if_pos (by omega), if_pos (by omega), if_pos (by omega), e, wrap64_is (by omega) (by omega)]
    generalize rd is (p : Int) = x
    by_cases h0 : x ≥ 0
    · rw [if_pos h0]
      by_cases h1 : x < (n : Int)
      · obtain ⟨y, rfl⟩ := Int.eq_ofNat_of_zero_le h0
        rw [if_pos h1, bits_With.is b hb (by omega) y (by omega) true K (by omega)]
        simp only [Option.bind_some]
        rw [if_pos ⟨by omega, h1⟩, Int.toNat_natCast]
        exact ih K (p + 1) _ (withZ_by hb _ _) (by rw [withZ_len]; exact hbl) (by omega) (by omega)
      · rw [if_neg h1, if_neg (fun e => h1 e.2)]
        exact ih K (p + 1) b hb hbl (by omega) (by omega)
    · rw [if_neg h0, if_neg (fun e => h0 e.1)]
      exact ih K (p + 1) b hb hbl (by omega) (by omega)
def setZ (n : Nat) (is : List Int) : List Int := ofZ n is (List.replicate ((n + 7) / 8) 0)
theorem setZ_len (n : Nat) (is : List Int) : (setZ n is).length = (n + 7) / 8 := by unfold setZ; rw [ofZ_len]; simp
theorem setZ_by (n : Nat) (is : List Int) : By (setZ n is) := ofZ_by n is _ (By.zeros _)
theorem hasZ_zeros (n j : Nat) : hasZ (List.replicate n 0) j = false := by
  unfold hasZ
  rw [List.getD_eq_getElem?_getD, List.getElem?_replicate]
  split <;> simp
theorem hasZ_setZ (n : Nat) (is : List Int) (j : Nat) : hasZ (setZ n is) j = (decide (j < n) && decide ((j : Int) ∈ is)) := by
  unfold setZ
  rw [hasZ_ofZ n is _ (By.zeros _) (by simp; omega), hasZ_zeros, Bool.false_or]
theorem bits_Of.is (n : Nat) (hn : n ≤ 1000) (is : List Int) (hi : is.length ≤ 100000) (K : Nat) (hK : is.length + 4 ≤ K) : bits_Of.f K (n : Int) is = some (setZ n is) := by
  obtain ⟨K, rfl⟩ : ∃ m, K = m + 1 := ⟨K - 1, by omega⟩
  unfold bits_Of.f
  have hdec : decide ((n : Int) > 1000) = false := decide_eq_false (by omega)
  have e1 : Int.tdiv ((n : Int) + 7) 8 = (((n + 7) / 8 : Nat) : Int) := by rw [Int.tdiv_eq_ediv_of_nonneg (by omega)]; omega
  rw [if_neg (by omega), hdec]
  simp only [bits_Of.j0]
  rw [if_neg (by decide), wrap64_is (x := (n : Int) + 7) (by omega) (by omega), e1, wrap64_is (by omega) (by omega), if_pos (by omega), if_pos (by omega), Int.toNat_natCast]
  have := of_l0 n hn is hi is.length K 0 (List.replicate ((n + 7) / 8) 0) (By.zeros _) (by simp; omega) (by omega) (by omega)
  rw [List.drop_zero] at this
  exact this

/-! ### the first one that is not there -/
theorem first_l0 (l : List Int) (hl : By l) (n : Int) (hn : n ≤ 1000000) (d : Nat) : ∀ (K i : Nat), n ≤ i + d → d + 1 ≤ K →
    ∃ r, bits_First.l0 K l n (i : Int) = some r ∧ ((r = -1 ∧ ∀ s : Nat, i ≤ s → (s : Int) < n → hasZ l s = true) ∨ ∃ t : Nat, r = (t : Int) ∧ i ≤ t ∧ (t : Int) < n ∧ hasZ l t = false ∧ ∀ s : Nat, i ≤ s → s < t → hasZ l s = true) := by
  induction d with
  | zero =>
    intro K i hd hK
    obtain ⟨K, rfl⟩ : ∃ m, K = m + 1 := ⟨K - 1, by omega⟩
    simp only [bits_First.l0]
    rw [if_neg (by omega)]
    exact ⟨-1, rfl, .inl ⟨rfl, fun s h1 h2 => by omega⟩⟩
  | succ d ih =>
    intro K i hd hK
    obtain ⟨K, rfl⟩ : ∃ m, K = m + 1 := ⟨K - 1, by omega⟩
    simp only [bits_First.l0]
    by_cases h : (i : Int) < n
    · rw [if_pos h, bits_Has.is l hl i (by omega)]
      simp only [Option.bind_some]
      by_cases hh : hasZ l i = true
      · rw [if_pos hh, wrap64_is (by omega) (by omega)]
        obtain ⟨r, hr, hc⟩ := ih K (i + 1) (by omega) (by omega)
        refine ⟨r, hr, ?_⟩
        rcases hc with ⟨h1, h2⟩ | ⟨t, h1, h2, h3, h4, h5⟩
        · refine .inl ⟨h1, fun s s1 s2 => ?_⟩
          by_cases e : s = i
          · rw [e]; exact hh
          · exact h2 s (by omega) s2
        · refine .inr ⟨t, h1, by omega, h3, h4, fun s s1 s2 => ?_⟩
          by_cases e : s = i
          · rw [e]; exact hh
          · exact h5 s (by omega) s2
      · rw [if_neg hh]
        exact ⟨_, rfl, .inr ⟨i, rfl, Nat.le_refl _, h, by simpa using hh, fun s s1 s2 => by omega⟩⟩
    · rw [if_neg h]
      exact ⟨-1, rfl, .inl ⟨rfl, fun s h1 h2 => by omega⟩⟩
theorem bits_First.is (l : List Int) (hl : By l) (i n : Nat) (hn : n ≤ 1000000) (K : Nat) (hK : n + 2 ≤ K) :
    ∃ r, bits_First.f K l (i : Int) (n : Int) = some r ∧ ((r = -1 ∧ ∀ s : Nat, i ≤ s → s < n → hasZ l s = true) ∨ ∃ t : Nat, r = (t : Int) ∧ i ≤ t ∧ t < n ∧ hasZ l t = false ∧ ∀ s : Nat, i ≤ s → s < t → hasZ l s = true) := by
  unfold bits_First.f
  have : mx (i : Int) 0 = (i : Int) := by unfold mx; split <;> omega
  rw [this]
  obtain ⟨r, hr, hc⟩ := first_l0 l hl (n : Int) (by omega) n K i (by omega) (by omega)
  refine ⟨r, hr, ?_⟩
  rcases hc with ⟨h1, h2⟩ | ⟨t, h1, h2, h3, h4, h5⟩
  · exact .inl ⟨h1, fun s s1 s2 => h2 s s1 (by omega)⟩
  · exact .inr ⟨t, h1, h2, by omega, h4, h5⟩

/-! ### runs -/
def freeZ (l : List Int) (long s : Nat) : Prop := ∀ q, s ≤ q → q < s + long → hasZ l q = false
theorem run_free (l : List Int) (hl : By l) (m : Nat) : ∀ q : Nat, q + m < 9007199254740992 → ∃ b, bits_Run.free l m (q : Int) = some b ∧ (b = true ↔ ∀ p, q ≤ p → p < q + m → hasZ l p = false) := by
  induction m with
  | zero => intro q _; exact ⟨true, rfl, by simp; intro p h1 h2; omega⟩
  | succ m ih =>
    intro q hq
    simp only [bits_Run.free]
    by_cases h : (q : Int) < 8 * (l.length : Int)
    · rw [if_pos h, bits_Has.is l hl q (by omega)]
      simp only [Option.bind_some]
      by_cases hh : hasZ l q = true
      · rw [if_pos hh]
        refine ⟨false, rfl, ?_⟩
        constructor
        · intro e; cases e
        · intro e
          have := e q (Nat.le_refl _) (by omega)
          rw [hh] at this
          cases this
      · rw [if_neg hh]
        obtain ⟨b, hb, hc⟩ := ih (q + 1) (by omega)
        refine ⟨b, hb, hc.trans ?_⟩
        constructor
        · intro e p h1 h2
          by_cases hp : p = q
          · rw [hp]; simpa using hh
          · exact e p (by omega) (by omega)
        · intro e p h1 h2
          exact e p (by omega) (by omega)
    · rw [if_neg h]
      refine ⟨true, rfl, ?_⟩
      simp
      intro p h1 h2
      exact hasZ_out l p (by omega)
theorem run_go (l : List Int) (hl : By l) (long : Nat) (m : Nat) : ∀ i : Nat, i + m + long < 9007199254740992 →
    ∃ r, bits_Run.go l (long : Int) m (i : Int) = some r ∧ ((r = -1 ∧ ∀ s, i ≤ s → s < i + m → ¬ freeZ l long s) ∨ ∃ t : Nat, r = (t : Int) ∧ i ≤ t ∧ t < i + m ∧ freeZ l long t ∧ ∀ s, i ≤ s → s < t → ¬ freeZ l long s) := by
  induction m with
  | zero => intro i _; exact ⟨-1, rfl, .inl ⟨rfl, fun s h1 h2 => by omega⟩⟩
  | succ m ih =>
    intro i hi
    simp only [bits_Run.go]
    obtain ⟨b, hb, hc⟩ := run_free l hl long i (by omega)
    rw [Int.toNat_natCast, hb]
    simp only [Option.bind_some]
    by_cases h : b = true
    · rw [if_pos h]
      exact ⟨_, rfl, .inr ⟨i, rfl, Nat.le_refl _, by omega, hc.1 h, fun s h1 h2 => by omega⟩⟩
    · rw [if_neg h]
      have hnf : ¬ freeZ l long i := fun e => h (hc.2 e)
      obtain ⟨r, hr, hd⟩ := ih (i + 1) (by omega)
      refine ⟨r, hr, ?_⟩
      rcases hd with ⟨h1, h2⟩ | ⟨t, h1, h2, h3, h4, h5⟩
      · refine .inl ⟨h1, fun s s1 s2 => ?_⟩
        by_cases e : s = i
        · rw [e]; exact hnf
        · exact h2 s (by omega) (by omega)
      · refine .inr ⟨t, h1, by omega, by omega, h4, fun s s1 s2 => ?_⟩
        by_cases e : s = i
        · rw [e]; exact hnf
        · exact h5 s (by omega) s2
theorem bits_Run.is (l : List Int) (hl : By l) (hm : l.length ≤ 100000) (i n long : Nat) (hi : i ≤ 1000000) (hn : n ≤ 1000000) (hlo : 1 ≤ long) (hlo2 : long ≤ 1000000) :
    ∃ r, bits_Run.f l (i : Int) (n : Int) (long : Int) = some r ∧ ((r = -1 ∧ ∀ s, i ≤ s → s + long ≤ n → ¬ freeZ l long s) ∨ ∃ t : Nat, r = (t : Int) ∧ i ≤ t ∧ t + long ≤ n ∧ freeZ l long t ∧ ∀ s, i ≤ s → s < t → ¬ freeZ l long s) := by
  unfold bits_Run.f
  rw [if_neg (by omega), if_neg (by omega)]
  by_cases h : (n : Int) < (long : Int)
  · rw [if_pos h]
    exact ⟨-1, rfl, .inl ⟨rfl, fun s h1 h2 => by omega⟩⟩
  · rw [if_neg h, if_pos (by omega), if_pos (by omega)]
    obtain ⟨r, hr, hc⟩ := run_go l hl long ((n : Int) - (long : Int) + 1 - (i : Int)).toNat i (by omega)
    refine ⟨r, hr, ?_⟩
    rcases hc with ⟨h1, h2⟩ | ⟨t, h1, h2, h3, h4, h5⟩
    · exact .inl ⟨h1, fun s s1 s2 => h2 s s1 (by omega)⟩
    · exact .inr ⟨t, h1, h2, by omega, h4, h5⟩

theorem purlinlaw3_awake.is (K : Nat) (hK : 300 ≤ K) : purlinlaw3_awake.f K = some true := by
  have b3 : By [3] := By.cons (by omega) (by omega) By.nil
  have b01 : By [0, 1] := By.cons (by omega) (by omega) (By.cons (by omega) (by omega) By.nil)
  have b7 : By [7] := By.cons (by omega) (by omega) By.nil
  have b4 : By [4] := By.cons (by omega) (by omega) By.nil
  unfold purlinlaw3_awake.f
  obtain ⟨r, hr, hc⟩ := bits_First.is [3] b3 0 8 (by omega) K (by omega)
  have e1 : r = 2 := by
    rcases hc with ⟨h1, h2⟩ | ⟨t, h1, h2, h3, h4, h5⟩
    · exact absurd (h2 2 (by omega) (by omega)) (by decide)
    · have t1 : ¬ t < 2 := by
        intro ht
        have : t = 0 ∨ t = 1 := by omega
        rcases this with rfl | rfl <;> exact absurd h4 (by decide)
      have t2 : ¬ 2 < t := fun ht => absurd (h5 2 (by omega) ht) (by decide)
      omega
  have hr' : bits_First.f K [3] 0 8 = some r := hr
  rw [hr', e1]
  simp only [Option.bind_some]
  have h2 : bits_Has.f [0, 1] 8 = some (hasZ [0, 1] 8) := bits_Has.is [0, 1] b01 8 (by omega)
  have h3 : bits_Count.f K [7] 2 = some ((allZ [7] 2).length : Int) := bits_Count.is [7] b7 (by simp) 2 (by omega) K (by simp; omega)
  obtain ⟨q, hq, hd⟩ := bits_Run.is [4] b4 (by simp) 0 9 3 (by omega) (by omega) (by omega) (by omega)
  have e2 : q = 3 := by
    rcases hd with ⟨g1, g2⟩ | ⟨t, g1, g2, g3, g4, g5⟩
    · exfalso
      refine g2 3 (by omega) (by omega) (fun p p1 p2 => ?_)
      have : p = 3 ∨ p = 4 ∨ p = 5 := by omega
      rcases this with rfl | rfl | rfl <;> decide
    · have t1 : ¬ t < 3 := by
        intro ht
        have := g4 2 (by omega) (by omega)
        revert this
        decide
      have t2 : ¬ 3 < t := by
        intro ht
        refine g5 3 (by omega) ht (fun p p1 p2 => ?_)
        have : p = 3 ∨ p = 4 ∨ p = 5 := by omega
        rcases this with rfl | rfl | rfl <;> decide
      omega
  have hq' : bits_Run.f [4] 0 9 3 = some q := hq
  have h5 : bits_Of.f K 9 [8, 0] = some (setZ 9 [8, 0]) := bits_Of.is 9 (by omega) [8, 0] (by simp) K (by simp; omega)
  have e3 : setZ 9 [8, 0] = [1, 1] := by decide
  have e4 : hasZ [0, 1] 8 = true := by decide
  have e5 : ((allZ [7] 2).length : Int) = 2 := by decide
  rw [if_pos trivial, h2, e4, Option.bind_some, if_pos rfl, h3, e5, Option.bind_some, if_pos rfl, hq', e2, Option.bind_some, if_pos rfl, h5, e3, Option.bind_some, same_is _ _ (by simp) K (by simp; omega)]
  rfl
end Go.Proofs.Ytnhpmmmkcemnmaa.Pc
