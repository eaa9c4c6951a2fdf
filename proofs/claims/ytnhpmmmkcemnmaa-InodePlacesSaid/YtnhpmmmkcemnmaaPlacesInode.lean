/- The walk of InodePlaces, by hand: it answers true whatever it is given. -/
import Derived.Test.YtnhpmmmkcemnmaaHt
import Derived.Test.YtnhpmmmkcemnmaaQj
import Derived.Test.YtnhpmmmkcemnmaaPcx5
namespace Go.Proofs.Ytnhpmmmkcemnmaa.Pc
open Go.RowKit Go.Proofs.YtnhpmmmkcemnmaaW.PrintWords Go.Proofs.YtnhpmmmkcemnmaaW.PrintLast Go.Proofs.YtnhpmmmkcemnmaaW.PrintMore
set_option linter.unusedVariables false
set_option linter.unusedSimpArgs false

set_option maxHeartbeats 12800000 in
set_option maxRecDepth 100000 in
theorem purlinlaw7_InodePlaces.calls (a0 b0 s0 : Int) (w : World) :
    Calls Try.prog 20 #[.int .i64 a0, .int .i64 b0, .int .i64 s0] w fun e w' => e = .returned (.bool true) ∧ Below w.heap.size w w' := by
  obtain ⟨a, fa, ha0, ha1⟩ := Low_is a0 162 (by omega) (by omega)
  obtain ⟨b, fb, hb0, hb1⟩ := Low_is b0 162 (by omega) (by omega)
  obtain ⟨s, fs, hs0, hs1⟩ := Low_is s0 20737 (by omega) (by omega)
  obtain ⟨x, y, z, hp⟩ : ∃ x y z, placeZ a = (x, y, z) := ⟨_, _, _, rfl⟩
  obtain ⟨u, v, t, hq⟩ : ∃ x y z, placeZ b = (x, y, z) := ⟨_, _, _, rfl⟩
  obtain ⟨n, hn⟩ : ∃ n, n = needZ s := ⟨_, rfl⟩
  have FA := Aside0.mk fa
  have FB := Aside0.mk fb
  have FS := Aside0.mk fs
  have PA := Aside0.mk (show inode_Place.f 10 a = some (x, y, z) from by rw [place_is, hp])
  have PB := Aside0.mk (show inode_Place.f 10 b = some (u, v, t) from by rw [place_is, hq])
  have PC := Aside0.mk (show inode_Place.f 10 162 = some (-1, -1, -1) from by rw [place_is]; rfl)
  have NS := Aside0.mk (show inode_Need.f s = some n from by rw [need_is, hn])
  have ZO := Aside0.mk (zone_bools a x y z ⟨ha0, ha1⟩ hp)
  have SA := Aside0.mk (place_same a b x y z u v t ⟨ha0, ha1⟩ ⟨hb0, hb1⟩ hp hq)
  obtain ⟨hy0, hz0, _⟩ := place_zone a x y z ha0 ha1 hp
  have HY := Aside0.mk hy0
  have HZ := Aside0.mk hz0
  have NF := Aside0.mk (by have h := need_facts s hs0 (by omega); rw [← hn] at h; exact h)
  clear fa fb fs ha0 ha1 hb0 hb1 hs0 hs1 hp hq hn hy0 hz0
  go_enter Try.func20, Try.ntmps20
  go_wp2_with fail
  refine (purlinlaw0_Low.calls a0 162 a w FA.out).mono ?_
  rintro e1 w1 ⟨rfl, B1⟩
  replace B1 := Aside0.mk B1
  go_wp2_with fail
  refine (purlinlaw0_Low.calls b0 162 b w1 FB.out).mono ?_
  rintro e2 w2 ⟨rfl, B2⟩
  replace B2 := Aside0.mk (below_step B1.out B2)
  go_wp2_with fail
  refine (purlinlaw0_Low.calls s0 20737 s w2 FS.out).mono ?_
  rintro e3 w3 ⟨rfl, B3⟩
  replace B3 := Aside0.mk (below_step B2.out B3)
  go_wp2_with fail
  refine (inode_Place.calls 10 a x y z w3 PA.out).mono ?_
  rintro e4 w4 ⟨rfl, hD⟩
  have B4 := Aside0.mk (below_step B3.out hD.below)
  clear hD
  go_wp2_with fail
  refine (inode_Place.calls 10 b u v t w4 PB.out).mono ?_
  rintro e5 w5 ⟨rfl, hD⟩
  have B5 := Aside0.mk (below_step B4.out hD.below)
  clear hD
  go_wp2_with fail
  refine (inode_Need.calls s n w5 NS.out).mono ?_
  rintro e6 w6 ⟨rfl, hD⟩
  have B6 := Aside0.mk (below_step B5.out hD.below)
  clear hD
  go_wp2_with fail
  refine (inode_Place.calls 10 162 (-1) (-1) (-1) w6 PC.out).mono ?_
  rintro e7 w7 ⟨rfl, hD⟩
  have B7 := Aside0.mk (below_step B6.out hD.below)
  clear hD
  have y1 : decide (0 ≤ y) = true := decide_eq_true HY.out
  have z1 : decide (0 ≤ z) = true := decide_eq_true HZ.out
  obtain ⟨n0, n1, n2, n3⟩ := NF.out
  have m1 : wrap64 (n * 128) = n * 128 := by unfold wrap64; omega
  have m2 : wrap64 (n - 1) = n - 1 := by unfold wrap64; omega
  have m3 : wrap64 ((n - 1) * 128) = (n - 1) * 128 := by unfold wrap64; omega
  have m4 : decide (s ≤ n * 128) = true := decide_eq_true n2
  have N3 : ((n == 0) = true) ∨ ((n == 0) = false ∧ decide ((n - 1) * 128 < s) = true) := by
    rcases n3 with h | ⟨h, k⟩
    · exact .inl (beq_iff_eq.mpr h)
    · exact .inr ⟨beq_eq_false_iff_ne.mpr h, decide_eq_true k⟩
  clear n0 n1 n2 n3 NF
  rcases ZO.out with ⟨q1, q2, q3⟩ | ⟨q1, q2, q3, q4⟩ | ⟨q1, q2, q3, q4, q5⟩ <;> clear ZO <;> rcases SA.out with ⟨p1, p2⟩ | ⟨p1, p2, p3⟩ | ⟨p1, p2, p3, p4⟩ | ⟨p1, p2, p3, p4⟩ <;> clear SA <;> rcases N3 with r1 | ⟨r1, r2⟩
  all_goals
    go_wp2_with fail
    refine (purlinlaw7_awake.calls w7).mono ?_
    rintro e17 w17 ⟨rfl, hD⟩
    have B17 := Aside0.mk (below_step B7.out hD)
    clear hD
    go_wp2
    go_ret
    exact ⟨rfl, B17.out⟩
theorem purlinlaw7_InodePlaces.walk (a0 b0 s0 : Int) (w : World) (w0 : (Lit.int .i64 a0).wf = true) (w1 : (Lit.int .i64 b0).wf = true) (w2 : (Lit.int .i64 s0).wf = true) :
    Calls Try.prog 20 #[.int .i64 a0, .int .i64 b0, .int .i64 s0] w fun e w' => e = .returned (.bool true) ∧ Below w.heap.size w w' := purlinlaw7_InodePlaces.calls a0 b0 s0 w
end Go.Proofs.Ytnhpmmmkcemnmaa.Pc
