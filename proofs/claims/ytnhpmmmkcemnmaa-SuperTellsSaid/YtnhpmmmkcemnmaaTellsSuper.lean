/- The walk of SuperTells, by hand: it answers true whatever it is given. -/
import Derived.Test.YtnhpmmmkcemnmaaHs
import Derived.Test.YtnhpmmmkcemnmaaQs
namespace Go.Proofs.Ytnhpmmmkcemnmaa.Pc
open Go.RowKit Go.Proofs.YtnhpmmmkcemnmaaW.PrintWords Go.Proofs.YtnhpmmmkcemnmaaW.PrintLast Go.Proofs.YtnhpmmmkcemnmaaW.PrintMore
set_option linter.unusedVariables false
set_option linter.unusedSimpArgs false

theorem HB8.lent' {w : World} {g : Nat} {l : List Int} (h : HB8 w g (l ++ [119, 119, 119])) (hm : l.length ≤ 1000) : Kd.C (Kd.int .u8) w (some ⟨g, 0, none⟩) l.length l := by
  have h2 := h.reads 0 l.length (by simp) (by omega)
  rw [List.drop_zero, List.take_left] at h2
  exact h2
theorem R_C' {w : World} {base : Nat} {ok : Nat → Prop} {A : Option Addr} {n c : Nat} {xs : List Int} (h : Kd.R (Kd.int .u8) 5 w base ok (.slice A n c) xs) : Kd.C (Kd.int .u8) w A xs.length xs ∧ xs.length ≤ c := by
  obtain ⟨hn, hc, hC⟩ := Kd.R_reads' h
  subst hn
  exact ⟨hC, hc⟩

set_option maxHeartbeats 3200000 in
set_option maxRecDepth 100000 in
theorem purlinlaw6_SuperTells.calls (x y z : Int) (o : Bool) (A2 : Option Addr) (c2 : Nat) (l2 : List Int) (w : World)
    (hr2 : Kd.C (Kd.int .u8) w A2 l2.length l2) (hc2 : l2.length ≤ c2) (by2 : By l2) :
    Calls Try.prog 12 #[.agg #[.int .i64 x, .int .i64 y, .int .i64 z], .bool o, .slice A2 l2.length c2] w fun e w' => e = .returned (.bool true) ∧ Below w.heap.size w w' := by
  have hu57 := Try.underlying57
  have short : purlinlaw6_awake.f 400 = some true := purlinlaw6_awake.is 400 (by omega)
  have HB0 := Aside0.mk (Below.refl w.heap.size w)
  by_cases m2 : l2.length ≤ 200
  · have d3 : decide (200 < (l2.length : Int)) = false := decide_eq_false (by omega)
    have d4 : decide (200 < l2.length) = false := decide_eq_false (by omega)
    obtain ⟨X, e, hX⟩ : ∃ X e, (if geomZ x y z = true then (sealZ 83 (superZ x y z o), (0 : Int)) else ([], 2)) = (X, e) := ⟨_, _, rfl⟩
    have F1 := Aside0.mk ((super_Lay.is x y z o 400 (by omega)).trans (congrArg some hX))
    have F2 := Aside0.mk ((ref6_Lay.is x y z o 400 (by omega)).trans (congrArg some hX))
    obtain ⟨r1, r2, r3, r4, r5, hU⟩ : ∃ r1 r2 r3 r4 r5, readSuperZ l2 = (r1, r2, r3, r4, r5) := ⟨_, _, _, _, _, rfl⟩
    have F3 := Aside0.mk ((super_Read.is l2 by2 400 (by omega)).trans (congrArg some hU))
    have F4 := Aside0.mk ((ref6_Read.is l2 by2 400 (by omega)).trans (congrArg some hU))
    have hXl : X.length ≤ 128 := by
      have := congrArg (fun p => p.1.length) hX
      simp only at this
      rw [← this]
      split
      · rw [sealZ_len 83 _ (superZ_len _ _ _ _)]
        omega
      · simp
    have F5 := Aside0.mk (show purlinlaw0_SameBytes.f 400 X X = some true by rw [same_is X X (by omega) 400 (by omega), beq_self_eq_true])
    have F11 := Aside0.mk (over_is X (by omega) 400 (by omega))
    have F14 := Aside0.mk (show purlinlaw0_SameBytes.f 400 l2 l2 = some true by rw [same_is l2 l2 (by omega) 400 (by omega), beq_self_eq_true])
    have F15 := Aside0.mk short
    have HR2 := Aside0.mk hr2
    have HC2 := Aside0.mk hc2
    have M2 := Aside0.mk m2
    clear short hX hU hXl by2 hr2 hc2 m2
    go_enter Try.func12, Try.ntmps12
    go_wp2_with (first | ((with_reducible refine gate_dst (N := 3) rfl ?_); refine box_event ?hg (N := 3) ?hd (cs := #[.int .i64 x, .int .i64 y, .int .i64 z]) (t := 57) ?hr ?_; (case hd => rfl); (case hg => rfl); (case hr => first | (go_simp; done) | (go_simp; rfl)); intro g0 hg w0 hbox hb; have B0 := Aside0.mk (below_step HB0.out hb); have K0 := Aside0.mk (show HG3 w0 g0 x y z from hbox); clear hg hbox hb HB0))
    refine (lend_calls A2 c2 l2 w0 (Kd.C_below HR2.out B0.out) (by have := M2.out; omega)).mono ?_
    rintro e1 w1 ⟨g1, rfl, hg1, hb1, hB1⟩
    have G1 := Aside0.mk hg1
    have L1 := Aside0.mk hb1
    have B1 := Aside0.mk (below_step B0.out hB1)
    have K1 := Aside0.mk (K0.out.below hB1)
    clear hg1 hb1 hB1 B0 K0
    have k0 := K1.out.c0
    have k1 := K1.out.c1
    have k2 := K1.out.c2
    go_wp2_with fail
    refine (super_Lay.calls 400 x y z o X e w1 F1.out).mono ?_
    rintro e2 w2 ⟨vx, rfl, hx, hB2⟩
    have HX2 := Aside0.mk (Kd.R_bound hx)
    have B2 := Aside0.mk hB2
    have K2 := Aside0.mk (K1.out.below hB2)
    clear hx hB2 k0 k1 k2
    have k0 := K2.out.c0
    have k1 := K2.out.c1
    have k2 := K2.out.c2
    go_wp2_with fail
    refine (purlinref6_Lay.calls 400 x y z o X e w2 F2.out).mono ?_
    rintro e3 w3 ⟨vy, rfl, hy, hB3⟩
    have HY3 := Aside0.mk (Kd.R_bound hy)
    have S23 := Aside0.mk hB3.size
    have B3 := Aside0.mk (below_step B2.out hB3)
    have HX3 := Aside0.mk (Kd.R_below HX2.out hB3)
    clear hy hB3 HX2 k0 k1 k2
    go_wp2_with fail
    refine (super_Read.calls 400 _ _ l2 r1 r2 r3 r4 r5 w3 ((L1.out.below B3.out).lent' (by have := M2.out; omega)) (by omega) F3.out).mono ?_
    rintro e4 w4 ⟨rfl, hB4⟩
    have B4 := Aside0.mk (below_step B3.out hB4)
    have S34 := Aside0.mk hB4.size
    have HX4 := Aside0.mk (Kd.R_below HX3.out hB4)
    have HY4 := Aside0.mk (Kd.R_below HY3.out hB4)
    clear hB4 HX3 HY3
    go_wp2_with (first | ((with_reducible refine gate_dst (N := 12) rfl ?_); refine box_event ?hg (N := 12) ?hd (cs := #[.int .i64 0, .int .i64 0, .int .i64 0]) (t := 57) ?hr ?_; (case hd => rfl); (case hg => rfl); (case hr => first | (go_simp; done) | (go_simp; rfl)); intro g5 hg w5 hbox hb; have G5 := Aside0.mk (show w4.heap.size ≤ g5 from by omega); have B5 := Aside0.mk (below_step B4.out hb); have K5 := Aside0.mk (show HG3 w5 g5 0 0 0 from hbox); have HX5 := Aside0.mk (Kd.R_below HX4.out hb); have HY5 := Aside0.mk (Kd.R_below HY4.out hb); clear hg hbox hb HX4 HY4) | ((with_reducible refine gate_store (t := 57) (p := 12) rfl ?_); refine store_geom_event (w0 := w1) rfl rfl 12 _ rfl K5.out rfl rfl (by have := G5.out; have := B4.out.size; omega) B5.out ?_; intro w6 hk hgr hb; have K6 := Aside0.mk hk; have B6 := Aside0.mk hb; have HX6 := Aside0.mk (Kd.R_grown HX5.out hgr (fun k hk e => by cases e; have := hk.2.2.1; have := S23.out; have := S34.out; have := G5.out; omega)); have HY6 := Aside0.mk (Kd.R_grown HY5.out hgr (fun k hk e => by cases e; have := hk.2.2.1; have := S34.out; have := G5.out; omega)); clear hk hgr hb K5 B5 HX5 HY5))
    refine (purlinref6_Read.calls 400 _ _ l2 r1 r2 r3 r4 r5 w6 (Kd.C_below HR2.out (below_step B1.out B6.out)) HC2.out F4.out).mono ?_
    rintro e7 w7 ⟨rfl, hB7⟩
    have B7 := Aside0.mk (below_step B6.out hB7)
    have K7 := Aside0.mk (K6.out.below hB7)
    have HX7 := Aside0.mk (Kd.R_below HX6.out hB7)
    have HY7 := Aside0.mk (Kd.R_below HY6.out hB7)
    have S47 := Aside0.mk (show w4.heap.size ≤ w7.heap.size from by have := B7.out.size; have := K7.out.lt; have h6 := hB7.size; have := G5.out; omega)
    clear hB7 HX6 HY6 K6
    go_wp2_with (first | ((with_reducible refine gate_dst (N := 15) rfl ?_); refine box_event ?hg (N := 15) ?hd (cs := #[.int .i64 0, .int .i64 0, .int .i64 0]) (t := 57) ?hr ?_; (case hd => rfl); (case hg => rfl); (case hr => first | (go_simp; done) | (go_simp; rfl)); intro g8 hg w8 hbox hb; have G8 := Aside0.mk (show w7.heap.size ≤ g8 from by omega); have B8 := Aside0.mk (below_step B7.out hb); have K8 := Aside0.mk (show HG3 w8 g8 0 0 0 from hbox); have K78 := Aside0.mk (K7.out.below hb); have HX8 := Aside0.mk (Kd.R_below HX7.out hb); have HY8 := Aside0.mk (Kd.R_below HY7.out hb); have N58 := Aside0.mk (show g5 ≠ g8 from by have := K7.out.lt; omega); clear hg hbox hb HX7 HY7) | ((with_reducible refine gate_store (t := 57) (p := 15) rfl ?_); refine store_geom_event (w0 := w1) rfl rfl 15 _ rfl K8.out rfl rfl (by have := G8.out; have := B7.out.size; omega) B8.out ?_; intro w9 hk hgr hb; have K9 := Aside0.mk hk; have B9 := Aside0.mk hb; have K59 := Aside0.mk (show HG3 w9 g5 r1 r2 r3 from blk_grown K78.out hgr (fun e => by cases e; exact N58.out rfl)); have HX9 := Aside0.mk (Kd.R_grown HX8.out hgr (fun k hk e => by cases e; have := hk.2.2.1; have := S23.out; have := S34.out; have := S47.out; have := G8.out; omega)); have HY9 := Aside0.mk (Kd.R_grown HY8.out hgr (fun k hk e => by cases e; have := hk.2.2.1; have := S34.out; have := S47.out; have := G8.out; omega)); clear hk hgr hb K8 B8 HX8 HY8 K78))
    obtain ⟨Ax, cx, rfl⟩ := Kd.R_slice HX9.out
    obtain ⟨Ay, cy, rfl⟩ := Kd.R_slice HY9.out
    refine (purlinlaw0_SameBytes.calls 400 _ _ X _ _ X true w9 (R_C' HX9.out).1 (R_C' HX9.out).2 (R_C' HY9.out).1 (R_C' HY9.out).2 F5.out).mono ?_
    rintro e10 w10 ⟨rfl, hD⟩
    have B10 := Aside0.mk (below_step B9.out hD.below)
    have HX10 := Aside0.mk (Kd.R_below HX9.out hD.below)
    have K5' := K59.out.below hD.below
    have K8' := K9.out.below hD.below
    have k0 := K5'.c0
    have k1 := K5'.c1
    have k2 := K5'.c2
    have q0 := K8'.c0
    have q1 := K8'.c1
    have q2 := K8'.c2
    clear hD HX9 HY9 K5' K8' K9 K59
    go_wp2_with fail
    refine (purlinlaw0_OverBytes.calls 400 _ _ X w1 w10 B10.out HX10.out F11.out).mono ?_
    rintro e13 w13 ⟨rfl, hB, hK⟩
    have B13 := Aside0.mk hB
    clear hB hK HX10 k0 k1 k2 q0 q1 q2
    go_wp2_with fail
    refine (kept_calls g1 l2 _ _ w13 (L1.out.below B13.out) (Kd.C_below HR2.out (below_step B1.out B13.out)) HC2.out (by have := M2.out; omega) 400 F14.out).mono ?_
    rintro e15 w15 ⟨rfl, hD⟩
    have B15 := Aside0.mk (below_step B13.out hD)
    clear hD
    go_wp2_with fail
    refine (purlinlaw6_awake.calls 400 true w15 F15.out).mono ?_
    rintro e17 w17 ⟨rfl, hD⟩
    have B17 := Aside0.mk (below_step B15.out hD)
    clear hD
    go_wp2
    go_ret
    exact ⟨rfl, below_step B1.out B17.out⟩
  · have d3 : decide (200 < (l2.length : Int)) = true := decide_eq_true (by omega)
    have d4 : decide (200 < l2.length) = true := decide_eq_true (by omega)
    have F15 := Aside0.mk short
    clear short hr2 hc2 m2 by2
    go_enter Try.func12, Try.ntmps12
    go_wp2_with (first | ((with_reducible refine gate_dst (N := 3) rfl ?_); refine box_event ?hg (N := 3) ?hd (cs := #[.int .i64 x, .int .i64 y, .int .i64 z]) (t := 57) ?hr ?_; (case hd => rfl); (case hg => rfl); (case hr => first | (go_simp; done) | (go_simp; rfl)); intro g0 hg w0 hbox hb; have B0 := Aside0.mk (below_step HB0.out hb); clear hg hbox hb HB0))
    refine (purlinlaw6_awake.calls 400 true w0 F15.out).mono ?_
    rintro e17 w17 ⟨rfl, hD⟩
    have B1 := Aside0.mk (below_step B0.out hD)
    clear hD
    go_wp2
    go_ret
    exact ⟨rfl, B1.out⟩
theorem purlinlaw6_SuperTells.walk (x y z : Int) (o : Bool) (a2 : Option Addr) (len2 cap2 : Nat) (z2 : List Int) (w : World)
    (w2 : (a2 = none ∧ len2 = 0 ∧ cap2 = 0 ∧ z2 = []) ∨ ∃ x, a2 = some x ∧ len2 ≤ cap2 ∧ cap2 ≤ maxLen ∧ z2.length = cap2 ∧ (∀ i, i < z2.length → w.cell? (x.add i) = some (.int .u8 (z2.getD i 0))) ∧ ∀ n ∈ z2, (Lit.int .u8 n).wf = true) (y2 : len2 * 1 ≤ 140737488351232) :
    Calls Try.prog 12 #[.agg #[.int .i64 x, .int .i64 y, .int .i64 z], .bool o, .slice a2 len2 cap2] w fun e w' => e = .returned (.bool true) ∧ Below w.heap.size w w' := by
  obtain ⟨l2, rfl, hr2, hm2, hw2, hc2⟩ := ReadsInt.ofRowC w2
  exact purlinlaw6_SuperTells.calls x y z o _ _ l2 w (Kd.C_of_reads (d := (0 : Int)) (h1 := fun _ => rfl) hr2) hc2 (By.of_wf hw2)
end Go.Proofs.Ytnhpmmmkcemnmaa.Pc
