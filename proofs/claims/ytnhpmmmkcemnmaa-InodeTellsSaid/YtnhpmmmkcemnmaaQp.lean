/- Blocks of pointers, in plain Lean: laid, read, apart. -/
import Derived.Test.YtnhpmmmkcemnmaaQb
import Derived.Test.YtnhpmmmkcemnmaaQf
namespace Go.Proofs.Ytnhpmmmkcemnmaa.Pc
open Go.RowKit Go.Proofs.YtnhpmmmkcemnmaaW.PrintWords Go.Proofs.YtnhpmmmkcemnmaaW.PrintLast Go.Proofs.YtnhpmmmkcemnmaaW.PrintMore
set_option linter.unusedVariables false
set_option linter.unusedSimpArgs false

def wordB (p : Int) : Bool := decide (0 ≤ p ∧ p ≤ 65535)
theorem wordB_is {p : Int} : wordB p = true ↔ 0 ≤ p ∧ p ≤ 65535 := by simp [wordB]
def ptrOk (ps : List Int) : Bool := ps.all wordB
def ptrBody (ps : List Int) : List Int := ps.flatMap fun p => [p / 256, p % 256]
def ptrLayZ (ps : List Int) : List Int × Int := if ptrOk ps = true then (sealZ 80 (ptrBody ps), 0) else ([], 2)
def ptrOf (x : List Int) : List Int := (List.range 12).map fun k => x.getD (2 * k) 0 * 256 + x.getD (2 * k + 1) 0
def zero12 : List Int := [0, 0, 0, 0, 0, 0, 0, 0, 0, 0, 0, 0]
def ptrReadZ (l : List Int) : List Int × Int := if kindZ l = 80 ∧ sealZ 80 (ptrBody (ptrOf (bodyOf l))) = l then (ptrOf (bodyOf l), 0) else (zero12, 3)

theorem ptrOk_at {ps : List Int} (h : ptrOk ps = true) (k : Nat) (hk : k < ps.length) : 0 ≤ ps.getD k 0 ∧ ps.getD k 0 ≤ 65535 := by
  have := List.all_eq_true.1 h (ps.getD k 0) (by rw [List.getD_eq_getElem?_getD, List.getElem?_eq_getElem hk]; exact List.getElem_mem hk)
  exact wordB_is.1 this
theorem ptrBody_by {ps : List Int} (h : ptrOk ps = true) : By (ptrBody ps) := by
  intro x hx
  obtain ⟨p, hp, hx⟩ := List.mem_flatMap.1 hx
  have := wordB_is.1 (List.all_eq_true.1 h p hp)
  simp at hx
  omega
theorem ptrBody_len (ps : List Int) : (ptrBody ps).length = 2 * ps.length := by
  unfold ptrBody
  induction ps with
  | nil => rfl
  | cons p ps ih => simp [List.flatMap_cons] at ih ⊢; omega
theorem ptrBody_snoc (ps : List Int) (p : Int) : ptrBody (ps ++ [p]) = ptrBody ps ++ [p / 256, p % 256] := by simp [ptrBody]
theorem take_snoc {ps : List Int} {k : Nat} (hk : k < ps.length) : ps.take (k + 1) = ps.take k ++ [ps.getD k 0] := by
  rw [List.take_succ_eq_append_getElem hk, List.getD_eq_getElem?_getD, List.getElem?_eq_getElem hk]
  rfl
theorem ptrBody_take {ps : List Int} {k : Nat} (hk : k < ps.length) : ptrBody (ps.take (k + 1)) = ptrBody (ps.take k) ++ [ps.getD k 0 / 256, ps.getD k 0 % 256] := by
  rw [take_snoc hk, ptrBody_snoc]
theorem ptrOk_take_no {ps : List Int} {k : Nat} (hk : k < ps.length) (h : wordB (ps.getD k 0) = false) : ptrOk ps = false := by
  rw [ptrOk, List.all_eq_false]
  refine ⟨ps.getD k 0, ?_, by rw [h]; exact Bool.false_ne_true⟩
  rw [List.getD_eq_getElem?_getD, List.getElem?_eq_getElem hk]
  exact List.getElem_mem hk
theorem ptrOk_take_all {ps : List Int} (h : ptrOk (ps.take ps.length) = true) : ptrOk ps = true := by rwa [List.take_length] at h
theorem ptrOk_take_yes {ps : List Int} {k : Nat} (hk : k < ps.length) (h0 : ptrOk (ps.take k) = true) (h : wordB (ps.getD k 0) = true) : ptrOk (ps.take (k + 1)) = true := by
  rw [take_snoc hk, ptrOk, List.all_append]
  rw [ptrOk] at h0
  rw [h0]
  simp [List.all_cons]
  simpa using h
theorem ptrBody_at (ps : List Int) : ∀ (k : Nat), k < ps.length → (ptrBody ps).getD (2 * k) 0 = ps.getD k 0 / 256 ∧ (ptrBody ps).getD (2 * k + 1) 0 = ps.getD k 0 % 256 := by
  induction ps with
  | nil => intro k hk; simp at hk
  | cons p ps ih =>
    intro k hk
    cases k with
    | zero => exact ⟨rfl, rfl⟩
    | succ k =>
      have := ih k (by simpa using hk)
      have e : ptrBody (p :: ps) = p / 256 :: p % 256 :: ptrBody ps := rfl
      rw [e, show 2 * (k + 1) = 2 * k + 1 + 1 by omega]
      exact this
theorem ptrOf_len (x : List Int) : (ptrOf x).length = 12 := by simp [ptrOf]
theorem ptrOf_at (x : List Int) (k : Nat) (hk : k < 12) : (ptrOf x).getD k 0 = x.getD (2 * k) 0 * 256 + x.getD (2 * k + 1) 0 := by
  rw [ptrOf, List.getD_eq_getElem?_getD, List.getElem?_map, List.getElem?_range hk]
  rfl
theorem ptrOf_ok {x : List Int} (h : By x) : ptrOk (ptrOf x) = true := by
  rw [ptrOk, List.all_eq_true]
  intro p hp
  obtain ⟨k, _, rfl⟩ := List.mem_map.1 hp
  have h1 := h.getD (2 * k)
  have h2 := h.getD (2 * k + 1)
  exact wordB_is.2 ⟨by omega, by omega⟩
theorem bodyZ_getD (l : List Int) (k : Nat) (hk : k < l.length) : (bodyZ l).getD k 0 = l.getD k 0 := by
  rw [bodyZ, List.getD_eq_getElem?_getD, List.getElem?_append_left hk, ← List.getD_eq_getElem?_getD]
theorem list_of_at {a b : List Int} (hl : a.length = b.length) (h : ∀ k, k < a.length → a.getD k 0 = b.getD k 0) : a = b := by
  apply List.ext_getElem hl
  intro i h1 h2
  have := h i h1
  rwa [List.getD_eq_getElem?_getD, List.getD_eq_getElem?_getD, List.getElem?_eq_getElem h1, List.getElem?_eq_getElem h2] at this
theorem ptrOf_body {ps : List Int} (hl : ps.length = 12) : ptrOf (bodyZ (ptrBody ps)) = ps := by
  refine list_of_at (by rw [ptrOf_len, hl]) (fun k hk => ?_)
  rw [ptrOf_len] at hk
  have hb := ptrBody_len ps
  obtain ⟨h1, h2⟩ := ptrBody_at ps k (by omega)
  rw [ptrOf_at _ k hk, bodyZ_getD _ _ (by omega), bodyZ_getD _ _ (by omega), h1, h2]
  omega
theorem bodyOf_sealZ (k : Int) (l : List Int) (h : l.length ≤ 123) : bodyOf (sealZ k l) = bodyZ l := sealZ_open k l h
theorem ptrRead_laid {ps : List Int} (hl : ps.length = 12) (h : ptrOk ps = true) : ptrReadZ (sealZ 80 (ptrBody ps)) = (ps, 0) := by
  have hb := ptrBody_len ps
  unfold ptrReadZ
  rw [bodyOf_sealZ 80 _ (by omega), ptrOf_body hl, if_pos ⟨kindZ_sealZ 80 _ (by omega) (by omega), rfl⟩]
theorem ptrRead_none {l : List Int} (h : kindZ l ≠ 80) : ptrReadZ l = (zero12, 3) := by
  unfold ptrReadZ
  rw [if_neg (fun z => h z.1)]
theorem ptrRead_len (l : List Int) : (ptrReadZ l).1.length = 12 := by
  unfold ptrReadZ
  split
  · exact ptrOf_len _
  · rfl
theorem ptrLay_len (ps : List Int) (hl : ps.length = 12) : (ptrLayZ ps).1.length ≤ 128 := by
  have hb := ptrBody_len ps
  unfold ptrLayZ
  split
  · rw [sealZ_len 80 _ (by omega)]; omega
  · simp
theorem ptrLay_inj {ps qs : List Int} (hp : ps.length = 12) (hq : qs.length = 12) (h1 : ptrOk ps = true) (h2 : ptrOk qs = true) : (sealZ 80 (ptrBody ps) == sealZ 80 (ptrBody qs)) = (ps == qs) := by
  rw [Bool.eq_iff_iff, beq_iff_eq, beq_iff_eq]
  constructor
  · intro h
    have e1 := ptrRead_laid hp h1
    have e2 := ptrRead_laid hq h2
    rw [h, e2] at e1
    exact (Prod.mk.inj e1).1.symm
  · intro h
    rw [h]
theorem xor8 (x y : Int) (hx : 0 ≤ x ∧ x < 256) (hy : 0 ≤ y ∧ y < 256) : 0 ≤ Go.bits .xor .u8 x y ∧ Go.bits .xor .u8 x y < 256 ∧ (Go.bits .xor .u8 x y = x ↔ y = 0) := by
  rw [u8_xor x y hx.1 hx.2 hy.1 hy.2]
  have h2 : x.toNat ^^^ y.toNat < 2 ^ 8 := Nat.xor_lt_two_pow (by omega) (by omega)
  refine ⟨by omega, by omega, ⟨fun e => ?_, fun e => by rw [e]; simp; omega⟩⟩
  have e2 : x.toNat ^^^ y.toNat = x.toNat := by omega
  have e3 : x.toNat ^^^ (x.toNat ^^^ y.toNat) = 0 := by rw [e2, Nat.xor_self]
  rw [← Nat.xor_assoc, Nat.xor_self, Nat.zero_xor] at e3
  omega
theorem ptrRead_turned {ps : List Int} (hl : ps.length = 12) (h : ptrOk ps = true) (i : Nat) (hi : i < 128) (y : Int) (hy : 0 ≤ y ∧ y < 256) :
    ptrReadZ ((sealZ 80 (ptrBody ps)).set i (Go.bits .xor .u8 ((sealZ 80 (ptrBody ps)).getD i 0) y)) = if y = 0 then (ps, 0) else (zero12, 3) := by
  have hb := ptrBody_len ps
  have hs := sealZ_by (k := 80) (by omega) (by omega) (ptrBody_by h)
  have hsl := sealZ_len 80 (ptrBody ps) (by omega)
  have hx := xor8 ((sealZ 80 (ptrBody ps)).getD i 0) y (hs.getD i) hy
  by_cases y0 : y = 0
  · rw [if_pos y0, hx.2.2.2 y0, list_of_at (a := (sealZ 80 (ptrBody ps)).set i ((sealZ 80 (ptrBody ps)).getD i 0)) (b := sealZ 80 (ptrBody ps)) (by simp) (fun k hk => by
      rw [List.length_set] at hk
      simp only [List.getD_eq_getElem?_getD, List.getElem?_set]
      split
      · rename_i e
        subst e
        rw [if_pos hk, List.getElem?_eq_getElem hk]
        rfl
      · rfl), ptrRead_laid hl h]
  · rw [if_neg y0, ptrRead_none]
    have hk := kindZ_sealZ 80 (ptrBody ps) (by omega) (by omega)
    rw [kindZ_set _ hs (by rw [hk]; omega) i hi _ hx.1 hx.2.1 (fun e => y0 (hx.2.2.1 e))]
    omega
/-- What was read so far. -/
def ptrPart (x : List Int) (k : Nat) : List Int := (ptrOf x).take k ++ List.replicate (12 - k) 0
theorem ptrPart_zero (x : List Int) : ptrPart x 0 = zero12 := rfl
theorem ptrPart_all (x : List Int) : ptrPart x 12 = ptrOf x := by
  unfold ptrPart
  rw [List.take_of_length_le (by rw [ptrOf_len]; omega)]
  simp
theorem ptrPart_len (x : List Int) (k : Nat) (hk : k ≤ 12) : (ptrPart x k).length = 12 := by
  unfold ptrPart
  rw [List.length_append, List.length_take, ptrOf_len, List.length_replicate]
  omega
theorem ptrPart_set (x : List Int) (k : Nat) (hk : k < 12) : (ptrPart x k).set k (x.getD (2 * k) 0 * 256 + x.getD (2 * k + 1) 0) = ptrPart x (k + 1) := by
  unfold ptrPart
  have h1 : ((ptrOf x).take k).length = k := by rw [List.length_take, ptrOf_len]; omega
  rw [List.set_append_right _ _ (by omega), h1, Nat.sub_self, take_snoc (by rw [ptrOf_len]; omega), ptrOf_at x k hk, show 12 - k = (12 - (k + 1)) + 1 by omega, List.replicate_succ, List.set_cons_zero]
  simp
end Go.Proofs.Ytnhpmmmkcemnmaa.Pc
