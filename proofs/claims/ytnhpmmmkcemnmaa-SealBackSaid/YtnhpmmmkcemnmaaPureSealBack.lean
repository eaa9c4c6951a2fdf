/- What was sealed is opened again, with zeros behind; with one bit another one it is no sealed sector: for every kind, body and bit. -/
import Derived.Test.YtnhpmmmkcemnmaaPcx7
import Derived.Test.YtnhpmmmkcemnmaaQb
namespace Go.Proofs.Ytnhpmmmkcemnmaa.Pure
open Go.RowKit Go.Proofs.Ytnhpmmmkcemnmaa.Pc Go.Proofs.YtnhpmmmkcemnmaaW.PrintWords Go.Proofs.YtnhpmmmkcemnmaaW.PrintLast Go.Proofs.YtnhpmmmkcemnmaaW.PrintMore

theorem bit_turn (x r : Int) (hx : 0 ≤ x ∧ x < 256) (hr : 0 ≤ r ∧ r < 8) : 0 ≤ Go.bits .xor .u8 x (shl .u8 1 r) ∧ Go.bits .xor .u8 x (shl .u8 1 r) < 256 ∧ Go.bits .xor .u8 x (shl .u8 1 r) ≠ x := by
  have key : ∀ y : Int, 0 < y → y < 256 → 0 ≤ Go.bits .xor .u8 x y ∧ Go.bits .xor .u8 x y < 256 ∧ Go.bits .xor .u8 x y ≠ x := by
    intro y h0 h1
    rw [u8_xor x y hx.1 hx.2 (by omega) h1]
    have h2 : x.toNat ^^^ y.toNat < 2 ^ 8 := Nat.xor_lt_two_pow (by omega) (by omega)
    refine ⟨by omega, by omega, fun e => ?_⟩
    have e2 : x.toNat ^^^ y.toNat = x.toNat := by omega
    have e3 : x.toNat ^^^ (x.toNat ^^^ y.toNat) = 0 := by rw [e2, Nat.xor_self]
    rw [← Nat.xor_assoc, Nat.xor_self, Nat.zero_xor] at e3
    omega
  have hc : r = 0 ∨ r = 1 ∨ r = 2 ∨ r = 3 ∨ r = 4 ∨ r = 5 ∨ r = 6 ∨ r = 7 := by omega
  rcases hc with rfl | rfl | rfl | rfl | rfl | rfl | rfl | rfl
  · exact key 1 (by omega) (by omega)
  · exact key 2 (by omega) (by omega)
  · exact key 4 (by omega) (by omega)
  · exact key 8 (by omega) (by omega)
  · exact key 16 (by omega) (by omega)
  · exact key 32 (by omega) (by omega)
  · exact key 64 (by omega) (by omega)
  · exact key 128 (by omega) (by omega)

theorem back_loop (x2 : Int) (b x : List Int) (hb : By b) (hg : kindZ b ≠ 0) (hx : x.length ≤ 123) (d : Nat) : ∀ (K i : Nat), i + d = x.length → d + 202 ≤ K → (∀ j, i ≤ j → x.getD j 0 = 0) →
    purlinlaw2_SealBack.l0 K x2 b x (i : Int) = some true := by
  have hbl := kindZ_len hg
  induction d with
  | zero =>
    intro K i hd hK hz
    obtain ⟨K, rfl⟩ : ∃ m, K = m + 1 := ⟨K - 1, by omega⟩
    simp only [purlinlaw2_SealBack.l0]
    rw [if_neg (by omega)]
    obtain ⟨r, hr, r0, r1⟩ := Low_is x2 1024 (by omega) (by omega)
    rw [hr]
    simp only [Option.bind_some]
    have e1 : Int.tdiv r 8 = r / 8 := Int.tdiv_eq_ediv_of_nonneg r0
    have e2 : Int.tmod r 8 = r % 8 := Int.tmod_eq_emod_of_nonneg r0
    rw [e1, e2, wrap64_is (by omega) (by omega), if_pos (by omega), if_pos (by omega), if_pos (by omega)]
    have e3 : r / 8 = ((r / 8).toNat : Int) := by omega
    have hbr := hb.getD (r / 8).toNat
    have ht := bit_turn (b.getD (r / 8).toNat 0) (r % 8) hbr (by omega)
    have hrd : rd b (r / 8) = b.getD (r / 8).toNat 0 := rfl
    rw [hrd, seal_Kind.is _ (hb.set_ _ _ ht.1 ht.2.1) K (by omega), kindZ_set b hb hg (r / 8).toNat (by omega) _ ht.1 ht.2.1 ht.2.2]
    simp only [Option.bind_some]
    rw [if_pos trivial, purlinlaw2_awake.is K (by omega)]
    rfl
  | succ d ih =>
    intro K i hd hK hz
    obtain ⟨K, rfl⟩ : ∃ m, K = m + 1 := ⟨K - 1, by omega⟩
    simp only [purlinlaw2_SealBack.l0]
    rw [if_pos (by omega), if_pos (by omega), rd_getD, if_pos (hz i (Nat.le_refl _)), wrap64_is (by omega) (by omega)]
    exact ih K (i + 1) (by omega) (by omega) (fun j hj => hz j (by omega))

theorem SealBack : purlinlaw2_SealBack.Pure := by
  intro a0 l1 a2 h0 hm hs hl h2
  have hb := By.of_wf hl
  have hk := bounds_u8 h0
  refine ⟨1000, ?_⟩
  unfold purlinlaw2_SealBack.f
  by_cases c1 : (l1.length : Int) > 123
  · rw [if_pos c1, purlinlaw2_awake.is 1000 (by omega)]
    rfl
  · rw [if_neg c1, seal_Seal.is a0 l1 hk.1 (by omega) hb 1000 (by omega)]
    simp only [Option.bind_some]
    by_cases c2 : a0 = 0
    · rw [if_pos c2, if_pos (Or.inl c2)]
      simp only []
      rw [if_pos trivial, if_pos (by simp), purlinlaw2_awake.is 1000 (by omega)]
      rfl
    · have hn : l1.length ≤ 123 := by omega
      have hsb := sealZ_by hk.1 (by omega) hb
      rw [if_neg c2, if_neg (by omega)]
      simp only []
      rw [seal_Open.is a0 _ hsb 1000 (by omega), kindZ_sealZ a0 l1 c2 hn, if_pos ⟨c2, rfl⟩, sealZ_open a0 l1 hn, sealZ_len a0 l1 hn]
      simp only [Option.bind_some]
      rw [if_pos trivial, if_pos trivial, if_pos (by omega), bodyZ_len l1 hn, if_pos (by omega), if_pos (by omega), if_pos (by omega), same_is _ _ (by simp; omega) 1000 (by simp; omega)]
      simp only [Option.bind_some]
      have e : (bodyZ l1).take (((l1.length : Int)).toNat) = l1 := by
        unfold bodyZ
        rw [Int.toNat_natCast, List.take_append_of_le_length (by omega), List.take_of_length_le (by omega)]
      rw [e, beq_self_eq_true]
      show purlinlaw2_SealBack.j0 (999 + 1) l1 a2 (sealZ a0 l1) (bodyZ l1) (!true) = some true
      simp only [purlinlaw2_SealBack.j0]
      rw [if_neg (by decide)]
      refine back_loop a2 (sealZ a0 l1) (bodyZ l1) hsb (by rw [kindZ_sealZ a0 l1 c2 hn]; exact c2) (by rw [bodyZ_len l1 hn]; omega) (123 - l1.length) 999 l1.length (by rw [bodyZ_len l1 hn]; omega) (by omega) (fun j hj => ?_)
      unfold bodyZ
      rw [List.getD_eq_getElem?_getD, List.getElem?_append_right hj]
      by_cases hj2 : j - l1.length < 123 - l1.length
      · simp [hj2]
      · simp [hj2]

end Go.Proofs.Ytnhpmmmkcemnmaa.Pure
