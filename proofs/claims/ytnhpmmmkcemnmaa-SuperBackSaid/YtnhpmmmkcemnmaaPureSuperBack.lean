/- A superblock that was laid is read again; with a byte another one it is not: for every six arguments. -/
import Derived.Test.YtnhpmmmkcemnmaaPcx20
import Derived.Test.YtnhpmmmkcemnmaaQd
namespace Go.Proofs.Ytnhpmmmkcemnmaa.Pure
open Go.RowKit Go.Proofs.Ytnhpmmmkcemnmaa.Pc Go.Proofs.YtnhpmmmkcemnmaaW.PrintWords Go.Proofs.YtnhpmmmkcemnmaaW.PrintLast Go.Proofs.YtnhpmmmkcemnmaaW.PrintMore

theorem xor_byte (x y : Int) (hx : 0 ≤ x ∧ x < 256) (hy : 0 ≤ y ∧ y < 256) : 0 ≤ Go.bits .xor .u8 x y ∧ Go.bits .xor .u8 x y < 256 ∧ (Go.bits .xor .u8 x y = x ↔ y = 0) := by
  rw [u8_xor x y hx.1 hx.2 hy.1 hy.2]
  have h2 : x.toNat ^^^ y.toNat < 2 ^ 8 := Nat.xor_lt_two_pow (by omega) (by omega)
  refine ⟨by omega, by omega, fun e => ?_, fun e => ?_⟩
  · have e2 : x.toNat ^^^ y.toNat = x.toNat := by omega
    have e3 : x.toNat ^^^ (x.toNat ^^^ y.toNat) = 0 := by rw [e2, Nat.xor_self]
    rw [← Nat.xor_assoc, Nat.xor_self, Nat.zero_xor] at e3
    omega
  · rw [e]
    simp
    omega
theorem set_self (l : List Int) (i : Nat) : l.set i (l.getD i 0) = l := by
  apply List.ext_getElem?
  intro j
  by_cases h : i = j
  · subst h
    by_cases hl : i < l.length
    · rw [List.getElem?_set_self hl, List.getD_eq_getElem?_getD, List.getElem?_eq_getElem hl]
      rfl
    · rw [List.getElem?_eq_none (by simpa using hl), List.getElem?_eq_none (by omega)]
  · rw [List.getElem?_set_ne h]

theorem SuperBack : purlinlaw6_SuperBack.Pure := by
  intro a0 a1 a2 a3 a4 a5 h0 h1 h2 h4 h5
  have h5' := bounds_u8 h5
  refine ⟨1000, ?_⟩
  unfold purlinlaw6_SuperBack.f
  obtain ⟨r, hr, r0, r1⟩ := Low_is a0 8 (by omega) (by omega)
  obtain ⟨s, hs, s0, s1⟩ := Low_is a1 8 (by omega) (by omega)
  obtain ⟨t, ht, t0, t1⟩ := Low_is a2 81 (by omega) (by omega)
  obtain ⟨q, hq, q0, q1⟩ := Low_is a4 128 (by omega) (by omega)
  rw [hr, Option.bind_some, hs, Option.bind_some, ht, Option.bind_some, wrap64_is (x := 4 * s) (by omega) (by omega), wrap64_is (x := 1 + r) (by omega) (by omega), wrap64_is (x := 4 + 4 * s) (by omega) (by omega), wrap64_is (x := 16 + t) (by omega) (by omega)]
  have hg : geomZ (1 + r) (4 + 4 * s) (16 + t) = true := geomZ_is.2 (by omega)
  have hb := sealZ_by (k := 83) (by omega) (by omega) (superZ_by (o := a3) hg)
  have hl := sealZ_len 83 (superZ (1 + r) (4 + 4 * s) (16 + t) a3) (superZ_len _ _ _ _)
  have hk : kindZ (sealZ 83 (superZ (1 + r) (4 + 4 * s) (16 + t) a3)) = 83 := kindZ_sealZ 83 _ (by omega) (superZ_len _ _ _ _)
  have hrd := read_laid (1 + r) (4 + 4 * s) (16 + t) a3 hg
  rw [super_Lay.is _ _ _ _ 1000 (by omega), if_pos hg, Option.bind_some]
  generalize sealZ 83 (superZ (1 + r) (4 + 4 * s) (16 + t) a3) = l at hb hl hk hrd
  simp only []
  rw [if_pos trivial]
  have e0 : ((l.length : Int) != 128) = false := by rw [hl]; rfl
  rw [e0]
  show purlinlaw6_SuperBack.j0 (999 + 1) a3 a4 a5 l false (1 + r) (4 + 4 * s) (16 + t) = some true
  simp only [purlinlaw6_SuperBack.j0]
  have hbr := hb.getD q.toNat
  have hx := xor_byte (l.getD q.toNat 0) a5 hbr (by omega)
  have hrdq : rd l q = l.getD q.toNat 0 := rfl
  rw [if_neg Bool.false_ne_true, super_Read.is l hb 999 (by omega), hrd, Option.bind_some, hq, Option.bind_some, if_pos q0, if_pos (by omega), hrdq, super_Read.is _ (hb.set_ _ _ hx.1 hx.2.1) 999 (by omega), Option.bind_some]
  simp only []
  have e1 : ((readSuperZ (l.set q.toNat (Go.bits .xor .u8 (l.getD q.toNat 0) a5))).2.2.2.2 == 0) = (a5 == 0) := by
    by_cases z : a5 = 0
    · rw [hx.2.2.2 z, set_self, hrd, z]
    · rw [read_none (by rw [kindZ_set l hb (by omega) q.toNat (by omega) _ hx.1 hx.2.1 (fun e => z (hx.2.2.1 e))]; omega)]
      rw [beq_eq_false_iff_ne.mpr z]
      rfl
  rw [if_pos trivial, if_pos (by simp), if_pos (by simp), if_pos (by rw [beq_iff_eq]; exact e1), purlinlaw6_awake.is 999 (by omega)]
  rfl

end Go.Proofs.Ytnhpmmmkcemnmaa.Pure
