/- What sums and sealed sectors are, over lists of numbers: a sum's steps can be undone; what is sealed, opened, and told by its kind. -/
import Derived.Test.YtnhpmmmkcemnmaaPcx2
import Derived.Laws.BitsAllLaws
import Derived.OpenShut
namespace Go.Proofs.Ytnhpmmmkcemnmaa.Pc
open Go.RowKit Go.Proofs.YtnhpmmmkcemnmaaW.PrintWords Go.Proofs.YtnhpmmmkcemnmaaW.PrintLast Go.Proofs.YtnhpmmmkcemnmaaW.PrintMore
set_option linter.unusedVariables false
set_option linter.unusedSimpArgs false

/-! ### bytes -/
def By (l : List Int) : Prop := ∀ x ∈ l, 0 ≤ x ∧ x < 256
theorem By.nil : By [] := fun _ h => by cases h
theorem By.cons {x : Int} {l : List Int} (h0 : 0 ≤ x) (h1 : x < 256) (h : By l) : By (x :: l) := by
  intro y hy
  rcases List.mem_cons.1 hy with rfl | hy
  · exact ⟨h0, h1⟩
  · exact h y hy
theorem By.app {l m : List Int} (h : By l) (k : By m) : By (l ++ m) := by
  intro y hy
  rcases List.mem_append.1 hy with hy | hy
  · exact h y hy
  · exact k y hy
theorem By.zeros (n : Nat) : By (List.replicate n 0) := by
  intro y hy
  have := List.eq_of_mem_replicate hy
  subst this
  omega
theorem By.take_ {l : List Int} (h : By l) (n : Nat) : By (l.take n) := fun x hx => h x (List.mem_of_mem_take hx)
theorem By.drop_ {l : List Int} (h : By l) (n : Nat) : By (l.drop n) := fun x hx => h x (List.mem_of_mem_drop hx)
theorem By.set_ {l : List Int} (h : By l) (i : Nat) (x : Int) (h0 : 0 ≤ x) (h1 : x < 256) : By (l.set i x) := by
  intro y hy
  rcases List.mem_or_eq_of_mem_set hy with hy | rfl
  · exact h y hy
  · exact ⟨h0, h1⟩
theorem By.getD {l : List Int} (h : By l) (i : Nat) : 0 ≤ l.getD i 0 ∧ l.getD i 0 < 256 := by
  rw [List.getD_eq_getElem?_getD]
  by_cases hi : i < l.length
  · rw [List.getElem?_eq_getElem hi]
    exact h _ (List.getElem_mem hi)
  · rw [List.getElem?_eq_none (by omega)]
    simp
theorem By.of_wf {l : List Int} (h : ∀ x ∈ l, (Lit.int .u8 x).wf = true) : By l := by
  intro x hx
  have := bounds_u8 (h x hx)
  omega
theorem wrap64_is {x : Int} (h0 : -9223372036854775808 ≤ x) (h1 : x ≤ 9223372036854775807) : wrap64 x = x := by unfold wrap64; omega

/-! ### the sum's steps -/
def stepN (r x : Nat) : Nat := (r ^^^ x) * 16777619 % 4294967296
def finN (r : Nat) : Nat :=
  let b := (r ^^^ (r / 32768)) * 2246822507 % 4294967296
  b ^^^ (b / 8192)
theorem mul_inj {a b c v : Nat} (ha : a < 4294967296) (hb : b < 4294967296) (hv : c * v % 4294967296 = 1) (h : a * c % 4294967296 = b * c % 4294967296) : a = b := by
  have key : ∀ z : Nat, z < 4294967296 → (z * c % 4294967296) * v % 4294967296 = z := by
    intro z hz
    rw [Nat.mod_mul_mod, Nat.mul_assoc, Nat.mul_mod, hv, Nat.mul_one, Nat.mod_mod, Nat.mod_eq_of_lt hz]
  rw [← key a ha, ← key b hb, h]
theorem xor_lt32 {a b : Nat} (ha : a < 4294967296) (hb : b < 4294967296) : a ^^^ b < 4294967296 := Nat.xor_lt_two_pow (n := 32) ha hb
theorem stepN_lt (r x : Nat) : stepN r x < 4294967296 := Nat.mod_lt _ (by omega)
theorem stepN_inj {r r' x x' : Nat} (h1 : r < 4294967296) (h2 : r' < 4294967296) (h3 : x < 4294967296) (h4 : x' < 4294967296) (h : stepN r x = stepN r' x') : r ^^^ x = r' ^^^ x' :=
  mul_inj (c := 16777619) (v := 899433627) (xor_lt32 h1 h3) (xor_lt32 h2 h4) (by decide) h
theorem stepN_reg {r r' x : Nat} (h1 : r < 4294967296) (h2 : r' < 4294967296) (h3 : x < 4294967296) (h : stepN r x = stepN r' x) : r = r' := by
  have := stepN_inj h1 h2 h3 h3 h
  have h5 : r ^^^ x ^^^ x = r' ^^^ x ^^^ x := by rw [this]
  rwa [Nat.xor_assoc, Nat.xor_assoc, Nat.xor_self, Nat.xor_zero, Nat.xor_zero] at h5
theorem stepN_byte {r x x' : Nat} (h1 : r < 4294967296) (h3 : x < 4294967296) (h4 : x' < 4294967296) (h : stepN r x = stepN r x') : x = x' := by
  have := stepN_inj h1 h1 h3 h4 h
  have h5 : r ^^^ (r ^^^ x) = r ^^^ (r ^^^ x') := by rw [this]
  rwa [← Nat.xor_assoc, ← Nat.xor_assoc, Nat.xor_self, Nat.zero_xor, Nat.zero_xor] at h5
theorem xor_zero_eq {a b : Nat} (h : a ^^^ b = 0) : a = b := by
  have h5 : a ^^^ (a ^^^ b) = a := by rw [h, Nat.xor_zero]
  rw [← Nat.xor_assoc, Nat.xor_self, Nat.zero_xor] at h5
  exact h5.symm
theorem shift_inj (k : Nat) (hk : 0 < k) {r s : Nat} (h : r ^^^ (r >>> k) = s ^^^ (s >>> k)) : r = s := by
  have hd : (r ^^^ s) = (r ^^^ s) >>> k := by
    rw [Nat.shiftRight_xor_distrib]
    have h5 : (r ^^^ (r >>> k)) ^^^ (s ^^^ (s >>> k)) = 0 := by rw [h, Nat.xor_self]
    have h6 : (r ^^^ s) ^^^ ((r >>> k) ^^^ (s >>> k)) = 0 := by
      rw [← h5]
      ac_rfl
    exact xor_zero_eq h6
  have h0 : r ^^^ s = 0 := by
    rw [Nat.shiftRight_eq_div_pow] at hd
    rcases Nat.eq_zero_or_pos (r ^^^ s) with h0 | h0
    · exact h0
    · have := Nat.div_lt_self h0 (Nat.one_lt_two_pow (by omega : k ≠ 0))
      omega
  exact xor_zero_eq h0
theorem finN_lt {r : Nat} (hr : r < 4294967296) : finN r < 4294967296 := by
  unfold finN
  exact xor_lt32 (Nat.mod_lt _ (by omega)) (by have : (r ^^^ r / 32768) * 2246822507 % 4294967296 < 4294967296 := Nat.mod_lt _ (by omega); omega)
theorem finN_inj {r s : Nat} (hr : r < 4294967296) (hs : s < 4294967296) (h : finN r = finN s) : r = s := by
  unfold finN at h
  have e1 : ∀ b : Nat, b / 8192 = b >>> 13 := fun b => by rw [Nat.shiftRight_eq_div_pow]
  have e2 : ∀ b : Nat, b / 32768 = b >>> 15 := fun b => by rw [Nat.shiftRight_eq_div_pow]
  simp only [e1] at h
  have h1 := shift_inj 13 (by omega) h
  have h2 := mul_inj (c := 2246822507) (v := 2781581891) (xor_lt32 hr (by omega)) (xor_lt32 hs (by omega)) (by decide) h1
  rw [e2, e2] at h2
  exact shift_inj 15 (by omega) h2

def regN (r : Nat) (l : List Int) : Nat := l.foldl (fun r x => stepN r x.toNat) r
def sumZ (l : List Int) : Int := (finN (regN 2166136261 l) : Nat)
theorem regN_lt (l : List Int) : ∀ r, r < 4294967296 → regN r l < 4294967296 := by
  induction l with
  | nil => intro r hr; exact hr
  | cons x l ih => intro r hr; exact ih _ (stepN_lt _ _)
theorem sumZ_range (l : List Int) : 0 ≤ sumZ l ∧ sumZ l < 4294967296 := by
  unfold sumZ
  have := finN_lt (regN_lt l 2166136261 (by omega))
  omega
theorem regN_inj (l : List Int) (hl : By l) : ∀ r s, r < 4294967296 → s < 4294967296 → regN r l = regN s l → r = s := by
  induction l with
  | nil => intro r s _ _ h; exact h
  | cons x l ih =>
    intro r s hr hs h
    have hx := hl x List.mem_cons_self
    exact stepN_reg hr hs (by omega) (ih (fun y hy => hl y (List.mem_cons_of_mem _ hy)) _ _ (stepN_lt _ _) (stepN_lt _ _) h)
/-- One byte another: another sum. -/
theorem sumZ_set (l : List Int) (hl : By l) (i : Nat) (hi : i < l.length) (x : Int) (h0 : 0 ≤ x) (h1 : x < 256) (h : sumZ (l.set i x) = sumZ l) : x = l.getD i 0 := by
  have hs : ∀ (l : List Int), By l → ∀ (i : Nat), i < l.length → ∀ r, r < 4294967296 → regN r (l.set i x) = regN r l → x = l.getD i 0 := by
    intro l
    induction l with
    | nil => intro _ i hi; simp at hi
    | cons y l ih =>
      intro hl i hi r hr h
      have hy := hl y List.mem_cons_self
      have hl' : By l := fun z hz => hl z (List.mem_cons_of_mem _ hz)
      cases i with
      | zero =>
        have h2 := stepN_byte hr (x := x.toNat) (x' := y.toNat) (by omega) (by omega) (regN_inj l hl' _ _ (stepN_lt _ _) (stepN_lt _ _) h)
        simp
        omega
      | succ i =>
        have := ih hl' i (by simpa using hi) (stepN r y.toNat) (stepN_lt _ _) h
        simpa using this
  refine hs l hl i hi 2166136261 (by omega) ?_
  refine finN_inj (regN_lt _ _ (by omega)) (regN_lt _ _ (by omega)) ?_
  unfold sumZ at h
  omega

/-! ### what the program's sum comes to -/
theorem step_is (r : Nat) (hr : r < 4294967296) (x : Int) (h0 : 0 ≤ x) (h1 : x < 256) : ((Go.bits .xor .u32 (r : Int) (x % 4294967296)) * 16777619) % 4294967296 = ((stepN r x.toNat : Nat) : Int) := by
  have hx : x % 4294967296 = x := by omega
  rw [hx, u32_xor _ _ (by omega) (by omega) h0 (by omega)]
  unfold stepN
  simp
theorem fin_is (r : Nat) (hr : r < 4294967296) : Go.bits .xor .u32 (((Go.bits .xor .u32 (r : Int) ((r : Int) / 32768)) * 2246822507) % 4294967296) ((((Go.bits .xor .u32 (r : Int) ((r : Int) / 32768)) * 2246822507) % 4294967296) / 8192) = ((finN r : Nat) : Int) := by
  have e1 : Go.bits .xor .u32 (r : Int) ((r : Int) / 32768) = ((r ^^^ (r / 32768) : Nat) : Int) := by
    have : (r : Int) / 32768 = ((r / 32768 : Nat) : Int) := by omega
    rw [this, u32_xor_nat _ _ hr (by omega)]
  rw [e1]
  have e2 : (((r ^^^ (r / 32768) : Nat) : Int) * 2246822507) % 4294967296 = (((r ^^^ (r / 32768)) * 2246822507 % 4294967296 : Nat) : Int) := by simp
  rw [e2]
  have e3 : ((((r ^^^ (r / 32768)) * 2246822507 % 4294967296 : Nat) : Int)) / 8192 = ((((r ^^^ (r / 32768)) * 2246822507 % 4294967296) / 8192 : Nat) : Int) := by omega
  rw [e3, u32_xor_nat _ _ (Nat.mod_lt _ (by omega)) (by have : (r ^^^ r / 32768) * 2246822507 % 4294967296 < 4294967296 := Nat.mod_lt _ (by omega); omega)]
  rfl
theorem rd_getD (l : List Int) (i : Nat) : rd l (i : Int) = l.getD i 0 := by simp [rd]
theorem drop_rd (l : List Int) (i : Nat) (hi : i < l.length) : l.drop i = rd l (i : Int) :: l.drop (i + 1) := by
  rw [rd_getD, List.getD_eq_getElem?_getD, List.getElem?_eq_getElem hi]
  exact List.drop_eq_getElem_cons hi
theorem seal_Sum.l0_is (l : List Int) (hl : By l) (hm : l.length ≤ 1000000) (d : Nat) : ∀ (k i : Nat) (r : Nat), r < 4294967296 → i + d = l.length → d < k →
    seal_Sum.l0 k (r : Int) l (l.length : Int) (i : Int) = some ((finN (regN r (l.drop i)) : Nat) : Int) := by
  induction d with
  | zero =>
    intro k i r hr hd hk
    obtain ⟨k, rfl⟩ : ∃ m, k = m + 1 := ⟨k - 1, by omega⟩
    simp only [seal_Sum.l0]
    rw [if_neg (by omega), List.drop_eq_nil_of_le (by omega), fin_is r hr]
    rfl
  | succ d ih =>
    intro k i r hr hd hk
    obtain ⟨k, rfl⟩ : ∃ m, k = m + 1 := ⟨k - 1, by omega⟩
    simp only [seal_Sum.l0]
    have hb := hl.getD i
    rw [if_pos (by omega), if_pos (by omega), if_pos (by omega), wrap64_is (by omega) (by omega), rd_getD, step_is r hr _ hb.1 hb.2, drop_rd l i (by omega), rd_getD]
    exact ih k (i + 1) _ (stepN_lt _ _) (by omega) (by omega)
theorem seal_Sum.is (l : List Int) (hl : By l) (hm : l.length ≤ 1000000) (k : Nat) (hk : l.length < k) : seal_Sum.f k l = some (sumZ l) := by
  unfold seal_Sum.f
  have := seal_Sum.l0_is l hl hm l.length k 0 2166136261 (by omega) (by omega) hk
  exact this
end Go.Proofs.Ytnhpmmmkcemnmaa.Pc
