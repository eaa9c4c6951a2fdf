/- Sectors of inodes, in plain Lean: which may be, laid, read. -/
import Derived.Test.YtnhpmmmkcemnmaaQp
namespace Go.Proofs.Ytnhpmmmkcemnmaa.Pc
open Go.RowKit Go.Proofs.YtnhpmmmkcemnmaaW.PrintWords Go.Proofs.YtnhpmmmkcemnmaaW.PrintLast Go.Proofs.YtnhpmmmkcemnmaaW.PrintMore
set_option linter.unusedVariables false
set_option linter.unusedSimpArgs false

def zero11 : List Int := [0, 0, 0, 0, 0, 0, 0, 0, 0, 0, 0]
def zero44 : List Int := zero11 ++ zero11 ++ zero11 ++ zero11
def mayZ (i : List Int) : Bool := i == zero11 || ((i.drop 3).all wordB && decide (1 ≤ i.getD 0 0 ∧ i.getD 0 0 ≤ 3) && wordB (i.getD 1 0) && decide (0 ≤ i.getD 2 0 ∧ i.getD 2 0 ≤ 20736))
def twoZ (n : Int) : List Int := [n / 256 % 256, n % 256]
def headZ (i : List Int) : List Int := i.getD 0 0 % 256 :: (twoZ (i.getD 1 0) ++ [i.getD 2 0 / 16777216 % 256, i.getD 2 0 / 65536 % 256, i.getD 2 0 / 256 % 256, i.getD 2 0 % 256])
def laidZ (i : List Int) : List Int := headZ i ++ (i.drop 3).flatMap twoZ
def chunk (is : List Int) (k : Nat) : List Int := (is.drop (11 * k)).take 11
def okTo (is : List Int) (k : Nat) : Bool := (List.range k).all fun j => mayZ (chunk is j)
def bodyTo (is : List Int) (k : Nat) : List Int := (List.range k).flatMap fun j => laidZ (chunk is j)
def layIZ (is : List Int) : List Int × Int := if okTo is 4 = true then (sealZ 73 (bodyTo is 4), 0) else ([], 2)
def at2 (b : List Int) (k : Nat) : Int := b.getD k 0 * 256 + b.getD (k + 1) 0
def inodeOf (b : List Int) : List Int := [b.getD 0 0, at2 b 1, at2 b 3 * 65536 + at2 b 5, at2 b 7, at2 b 9, at2 b 11, at2 b 13, at2 b 15, at2 b 17, at2 b 19, at2 b 21]
def readTo (x : List Int) (k : Nat) : List Int := (List.range k).flatMap fun j => inodeOf (x.drop (23 * j))
def readIZ (l : List Int) : List Int × Int := if kindZ l = 73 ∧ okTo (readTo (bodyOf l) 4) 4 = true ∧ sealZ 73 (bodyTo (readTo (bodyOf l) 4) 4) = l then (readTo (bodyOf l) 4, 0) else (zero44, 3)

theorem list11 {i : List Int} (h : i.length = 11) : ∃ a0 a1 a2 a3 a4 a5 a6 a7 a8 a9 a10, i = [a0, a1, a2, a3, a4, a5, a6, a7, a8, a9, a10] := by
  rcases i with _ | ⟨a0, _ | ⟨a1, _ | ⟨a2, _ | ⟨a3, _ | ⟨a4, _ | ⟨a5, _ | ⟨a6, _ | ⟨a7, _ | ⟨a8, _ | ⟨a9, _ | ⟨a10, _ | ⟨a11, r⟩⟩⟩⟩⟩⟩⟩⟩⟩⟩⟩⟩ <;> simp at h
  exact ⟨a0, a1, a2, a3, a4, a5, a6, a7, a8, a9, a10, rfl⟩
theorem chunk_len {is : List Int} (h : is.length = 44) (k : Nat) (hk : k < 4) : (chunk is k).length = 11 := by
  unfold chunk
  rw [List.length_take, List.length_drop]
  omega
theorem okTo_succ (is : List Int) (k : Nat) : okTo is (k + 1) = (okTo is k && mayZ (chunk is k)) := by
  unfold okTo
  rw [List.range_succ, List.all_append]
  simp
theorem bodyTo_succ (is : List Int) (k : Nat) : bodyTo is (k + 1) = bodyTo is k ++ laidZ (chunk is k) := by
  unfold bodyTo
  rw [List.range_succ, List.flatMap_append]
  simp
theorem readTo_succ (x : List Int) (k : Nat) : readTo x (k + 1) = readTo x k ++ inodeOf (x.drop (23 * k)) := by
  unfold readTo
  rw [List.range_succ, List.flatMap_append]
  simp
theorem okTo_no {is : List Int} {k : Nat} (hk : k < 4) (h : mayZ (chunk is k) = false) : okTo is 4 = false := by
  unfold okTo
  rw [List.all_eq_false]
  exact ⟨k, List.mem_range.2 hk, by rw [h]; exact Bool.false_ne_true⟩
theorem okTo_at {is : List Int} (h : okTo is 4 = true) (k : Nat) (hk : k < 4) : mayZ (chunk is k) = true := List.all_eq_true.1 h k (List.mem_range.2 hk)
theorem laidZ_len {i : List Int} (h : i.length = 11) : (laidZ i).length = 23 := by
  obtain ⟨a0, a1, a2, a3, a4, a5, a6, a7, a8, a9, a10, rfl⟩ := list11 h
  rfl
theorem bodyTo_len {is : List Int} (h : is.length = 44) : ∀ k, k ≤ 4 → (bodyTo is k).length = 23 * k := by
  intro k
  induction k with
  | zero => intro _; rfl
  | succ k ih =>
    intro hk
    rw [bodyTo_succ, List.length_append, ih (by omega), laidZ_len (chunk_len h k (by omega))]
    omega
theorem twoZ_by (n : Int) : By (twoZ n) := fun x hx => by simp [twoZ] at hx; omega
theorem flat_by (l : List Int) : By (l.flatMap twoZ) := fun x hx => by
  obtain ⟨n, _, hx⟩ := List.mem_flatMap.1 hx
  exact twoZ_by n x hx
theorem laidZ_by (i : List Int) : By (laidZ i) := by
  refine By.app ?_ (flat_by _)
  unfold headZ
  refine By.cons (by omega) (by omega) (By.app (twoZ_by _) (fun x hx => ?_))
  simp at hx
  omega
theorem bodyTo_by (is : List Int) (k : Nat) : By (bodyTo is k) := fun x hx => by
  obtain ⟨j, _, hx⟩ := List.mem_flatMap.1 hx
  exact laidZ_by _ x hx
theorem readTo_len (x : List Int) (k : Nat) : (readTo x k).length = 11 * k := by
  induction k with
  | zero => rfl
  | succ k ih => rw [readTo_succ, List.length_append, ih]; simp [inodeOf]; omega
theorem two_back {n : Int} (h : 0 ≤ n ∧ n ≤ 65535) : n / 256 % 256 * 256 + n % 256 = n := by omega
theorem mayZ_cases {i : List Int} (h : mayZ i = true) : i = zero11 ∨ ((∀ p ∈ i.drop 3, 0 ≤ p ∧ p ≤ 65535) ∧ 1 ≤ i.getD 0 0 ∧ i.getD 0 0 ≤ 3 ∧ 0 ≤ i.getD 1 0 ∧ i.getD 1 0 ≤ 65535 ∧ 0 ≤ i.getD 2 0 ∧ i.getD 2 0 ≤ 20736) := by
  unfold mayZ at h
  rw [Bool.or_eq_true, beq_iff_eq] at h
  rcases h with h | h
  · exact .inl h
  · rw [Bool.and_eq_true, Bool.and_eq_true, Bool.and_eq_true, List.all_eq_true, decide_eq_true_iff, decide_eq_true_iff, wordB_is] at h
    exact .inr ⟨fun p hp => wordB_is.1 (h.1.1.1 p hp), h.1.1.2.1, h.1.1.2.2, h.1.2.1, h.1.2.2, h.2.1, h.2.2⟩
/-- What was laid is what is read. -/
theorem inode_back {i : List Int} (hl : i.length = 11) (h : mayZ i = true) (r : List Int) : inodeOf (laidZ i ++ r) = i := by
  obtain ⟨a0, a1, a2, a3, a4, a5, a6, a7, a8, a9, a10, rfl⟩ := list11 hl
  have e : inodeOf (laidZ [a0, a1, a2, a3, a4, a5, a6, a7, a8, a9, a10] ++ r) = [a0 % 256, a1 / 256 % 256 * 256 + a1 % 256, (a2 / 16777216 % 256 * 256 + a2 / 65536 % 256) * 65536 + (a2 / 256 % 256 * 256 + a2 % 256), a3 / 256 % 256 * 256 + a3 % 256, a4 / 256 % 256 * 256 + a4 % 256, a5 / 256 % 256 * 256 + a5 % 256, a6 / 256 % 256 * 256 + a6 % 256, a7 / 256 % 256 * 256 + a7 % 256, a8 / 256 % 256 * 256 + a8 % 256, a9 / 256 % 256 * 256 + a9 % 256, a10 / 256 % 256 * 256 + a10 % 256] := rfl
  rw [e]
  rcases mayZ_cases h with h | ⟨hw, h0, h1, h2, h3, h4, h5⟩
  · rw [h]
    unfold zero11 at h
    simp only [List.cons.injEq] at h
    obtain ⟨rfl, rfl, rfl, rfl, rfl, rfl, rfl, rfl, rfl, rfl, rfl, _⟩ := h
    rfl
  · have b3 := hw a3 (by simp)
    have b4 := hw a4 (by simp)
    have b5 := hw a5 (by simp)
    have b6 := hw a6 (by simp)
    have b7 := hw a7 (by simp)
    have b8 := hw a8 (by simp)
    have b9 := hw a9 (by simp)
    have b10 := hw a10 (by simp)
    have g0 : ([a0, a1, a2, a3, a4, a5, a6, a7, a8, a9, a10] : List Int).getD 0 0 = a0 := rfl
    have g1 : ([a0, a1, a2, a3, a4, a5, a6, a7, a8, a9, a10] : List Int).getD 1 0 = a1 := rfl
    have g2 : ([a0, a1, a2, a3, a4, a5, a6, a7, a8, a9, a10] : List Int).getD 2 0 = a2 := rfl
    rw [g0] at h0 h1
    rw [g1] at h2 h3
    rw [g2] at h4 h5
    rw [two_back b3, two_back b4, two_back b5, two_back b6, two_back b7, two_back b8, two_back b9, two_back b10, two_back ⟨h2, h3⟩, show a0 % 256 = a0 by omega, show (a2 / 16777216 % 256 * 256 + a2 / 65536 % 256) * 65536 + (a2 / 256 % 256 * 256 + a2 % 256) = a2 by omega]
theorem drop_body {is : List Int} (h : is.length = 44) (r : List Int) (k : Nat) (hk : k < 4) : ∃ r', (bodyTo is 4 ++ r).drop (23 * k) = laidZ (chunk is k) ++ r' := by
  have key : ∀ m, k < m → m ≤ 4 → ∃ r', bodyTo is m = bodyTo is k ++ (laidZ (chunk is k) ++ r') := by
    intro m
    induction m with
    | zero => intro h0; omega
    | succ m ih =>
      intro h1 h2
      by_cases e : k = m
      · subst e
        exact ⟨[], by rw [bodyTo_succ, List.append_nil]⟩
      · obtain ⟨r', hr⟩ := ih (by omega) (by omega)
        exact ⟨r' ++ laidZ (chunk is m), by rw [bodyTo_succ, hr]; simp [List.append_assoc]⟩
  obtain ⟨r', hr⟩ := key 4 hk (Nat.le_refl _)
  refine ⟨r' ++ r, ?_⟩
  rw [hr, List.append_assoc, ← bodyTo_len h k (by omega), List.drop_left]
  simp [List.append_assoc]
theorem chunks {is : List Int} (h : is.length = 44) : ∀ k, k ≤ 4 → (List.range k).flatMap (fun j => chunk is j) = is.take (11 * k) := by
  intro k
  induction k with
  | zero => intro _; simp
  | succ k ih =>
    intro hk
    rw [List.range_succ, List.flatMap_append, ih (by omega)]
    simp only [List.flatMap_cons, List.flatMap_nil, List.append_nil]
    unfold chunk
    rw [show 11 * (k + 1) = 11 * k + 11 by omega, List.take_add]
theorem readTo_body {is : List Int} (hl : is.length = 44) (h : okTo is 4 = true) (r : List Int) : readTo (bodyTo is 4 ++ r) 4 = is := by
  have e : ∀ k, k ≤ 4 → readTo (bodyTo is 4 ++ r) k = (List.range k).flatMap (fun j => chunk is j) := by
    intro k
    induction k with
    | zero => intro _; rfl
    | succ k ih =>
      intro hk
      obtain ⟨r', hr⟩ := drop_body hl r k (by omega)
      rw [readTo_succ, ih (by omega), List.range_succ, List.flatMap_append, hr, inode_back (chunk_len hl k (by omega)) (okTo_at h k (by omega))]
      simp
  rw [e 4 (Nat.le_refl _), chunks hl 4 (Nat.le_refl _), List.take_of_length_le (by omega)]
theorem readI_laid {is : List Int} (hl : is.length = 44) (h : okTo is 4 = true) : readIZ (sealZ 73 (bodyTo is 4)) = (is, 0) := by
  have hb := bodyTo_len hl 4 (Nat.le_refl _)
  have e : readTo (bodyOf (sealZ 73 (bodyTo is 4))) 4 = is := by
    rw [bodyOf_sealZ 73 _ (by omega)]
    exact readTo_body hl h _
  unfold readIZ
  rw [e, if_pos ⟨kindZ_sealZ 73 _ (by omega) (by omega), h, rfl⟩]
theorem readI_none {l : List Int} (h : kindZ l ≠ 73) : readIZ l = (zero44, 3) := by
  unfold readIZ
  rw [if_neg (fun z => h z.1)]
theorem readI_len (l : List Int) : (readIZ l).1.length = 44 := by
  unfold readIZ
  split
  · rw [readTo_len]
  · rfl
theorem layI_inj {is js : List Int} (hi : is.length = 44) (hj : js.length = 44) (h1 : okTo is 4 = true) (h2 : okTo js 4 = true) : (sealZ 73 (bodyTo is 4) == sealZ 73 (bodyTo js 4)) = (is == js) := by
  rw [Bool.eq_iff_iff, beq_iff_eq, beq_iff_eq]
  constructor
  · intro h
    have e1 := readI_laid hi h1
    rw [h, readI_laid hj h2] at e1
    exact (Prod.mk.inj e1).1.symm
  · intro h
    rw [h]
theorem sealI_by (is : List Int) : By (sealZ 73 (bodyTo is 4)) := sealZ_by (by omega) (by omega) (bodyTo_by is 4)
theorem sealI_len {is : List Int} (hl : is.length = 44) : (sealZ 73 (bodyTo is 4)).length = 128 := sealZ_len 73 _ (by rw [bodyTo_len hl 4 (Nat.le_refl _)]; omega)
end Go.Proofs.Ytnhpmmmkcemnmaa.Pc
