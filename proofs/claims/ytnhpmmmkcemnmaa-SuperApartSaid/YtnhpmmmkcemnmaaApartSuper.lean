/- The walk of SuperApart, by hand: it answers true whatever it is given. -/
import Derived.Test.YtnhpmmmkcemnmaaHs
import Derived.Test.YtnhpmmmkcemnmaaQd
import Derived.Deep.RegionHeld3
import Derived.Deep.DeepCutAuto
namespace Go.Proofs.Ytnhpmmmkcemnmaa.Pc
open Go.RowKit Go.Proofs.YtnhpmmmkcemnmaaW.PrintWords Go.Proofs.YtnhpmmmkcemnmaaW.PrintLast Go.Proofs.YtnhpmmmkcemnmaaW.PrintMore
set_option linter.unusedVariables false
set_option linter.unusedSimpArgs false

set_option maxHeartbeats 3200000 in
set_option maxRecDepth 100000 in
theorem purlinlaw6_SuperApart.calls (x y z x' y' z' : Int) (o o' : Bool) (w : World) :
    Calls Try.prog 14 #[.agg #[.int .i64 x, .int .i64 y, .int .i64 z], .agg #[.int .i64 x', .int .i64 y', .int .i64 z'], .bool o, .bool o'] w fun e w' => e = .returned (.bool true) ∧ Below w.heap.size w w' := by
  have hu57 := Try.underlying57
  have F15 := Aside0.mk (purlinlaw6_awake.is 400 (by omega))
  have HB0 := Aside0.mk (Below.refl w.heap.size w)
  obtain ⟨X, e, hX⟩ : ∃ X e, (if geomZ x y z = true then (sealZ 83 (superZ x y z o), (0 : Int)) else ([], 2)) = (X, e) := ⟨_, _, rfl⟩
  obtain ⟨Y, f, hY⟩ : ∃ Y f, (if geomZ x' y' z' = true then (sealZ 83 (superZ x' y' z' o'), (0 : Int)) else ([], 2)) = (Y, f) := ⟨_, _, rfl⟩
  have F1 := Aside0.mk ((super_Lay.is x y z o 400 (by omega)).trans (congrArg some hX))
  have F2 := Aside0.mk ((super_Lay.is x' y' z' o' 400 (by omega)).trans (congrArg some hY))
  by_cases g1 : geomZ x y z = true
  · by_cases g2 : geomZ x' y' z' = true
    · rw [if_pos g1] at hX
      rw [if_pos g2] at hY
      obtain ⟨rfl, rfl⟩ := Prod.mk.inj hX
      obtain ⟨rfl, rfl⟩ := Prod.mk.inj hY
      have hs := sealZ_by (k := 83) (by omega) (by omega) (superZ_by (o := o) g1)
      have F3 := Aside0.mk ((super_Read.is _ hs 400 (by omega)).trans (congrArg some (read_laid x y z o g1)))
      have sl := sealZ_len 83 (superZ x y z o) (superZ_len _ _ _ _)
      have F5 := Aside0.mk (same_is (sealZ 83 (superZ x y z o)) (sealZ 83 (superZ x' y' z' o')) (by omega) 400 (by omega))
      have APART := Aside0.mk (fun h : sealZ 83 (superZ x y z o) = sealZ 83 (superZ x' y' z' o') => show x = x' ∧ y = y' ∧ z = z' ∧ o = o' from by
        have h1 := read_laid x y z o g1
        rw [h, read_laid x' y' z' o' g2] at h1
        simp only [Prod.mk.injEq] at h1
        exact ⟨h1.1.symm, h1.2.1.symm, h1.2.2.1.symm, h1.2.2.2.1.symm⟩)
      generalize sealZ 83 (superZ x y z o) = X at *
      generalize sealZ 83 (superZ x' y' z' o') = Y at *
      clear hX hY hs sl
      go_enter Try.func14, Try.ntmps14
      go_wp2_with (first | ((with_reducible refine gate_dst (N := 4) rfl ?_); refine box_event ?hg (N := 4) ?hd (cs := #[.int .i64 x, .int .i64 y, .int .i64 z]) (t := 57) ?hr ?_; (case hd => rfl); (case hg => rfl); (case hr => first | (go_simp; done) | (go_simp; rfl)); intro p0 hg w0 hbox hb; have B0 := Aside0.mk (below_step HB0.out hb); have K0 := Aside0.mk (show HG3 w0 p0 x y z from hbox); clear hg hbox hb HB0) | ((with_reducible refine gate_dst (N := 5) rfl ?_); refine box_event ?hg (N := 5) ?hd (cs := #[.int .i64 x', .int .i64 y', .int .i64 z']) (t := 57) ?hr ?_; (case hd => rfl); (case hg => rfl); (case hr => first | (go_simp; done) | (go_simp; rfl)); intro q0 hg w1 hbox hb; have Q1 := Aside0.mk (show HG3 w1 q0 x' y' z' from hbox); have K1 := Aside0.mk (K0.out.below hb); have k0 := K1.out.c0; have k1 := K1.out.c1; have k2 := K1.out.c2; have B1 := Aside0.mk (below_step B0.out hb); clear hg hbox hb B0))
      refine (super_Lay.calls 400 x y z o X 0 w1 F1.out).mono ?_
      rintro e2 w2 ⟨vx, rfl, hx, hB⟩
      have HX2 := Aside0.mk (Kd.R_bound hx)
      have B2 := Aside0.mk (below_step B1.out hB)
      have K2 := Aside0.mk (K1.out.below hB)
      have Q2 := Aside0.mk (Q1.out.below hB)
      clear hx hB k0 k1 k2 K1 Q1
      have k0 := Q2.out.c0
      have k1 := Q2.out.c1
      have k2 := Q2.out.c2
      go_wp2_with fail
      refine (super_Lay.calls 400 x' y' z' o' Y 0 w2 F2.out).mono ?_
      rintro e3 w3 ⟨vy, rfl, hy, hB⟩
      have HY3 := Aside0.mk (Kd.R_bound hy)
      have HX3 := Aside0.mk (Kd.R_below HX2.out hB)
      have B3 := Aside0.mk (below_step B2.out hB)
      have K3 := Aside0.mk (K2.out.below hB)
      have Q3 := Aside0.mk (Q2.out.below hB)
      have S23 := Aside0.mk hB.size
      clear hy hB k0 k1 k2 HX2 K2 Q2
      obtain ⟨Ax, cx, rfl⟩ := Kd.R_slice HX3.out
      obtain ⟨Ay, cy, rfl⟩ := Kd.R_slice HY3.out
      go_wp2_with fail
      refine (super_Read.calls 400 _ _ X x y z o 0 w3 (Kd.R_reads' HX3.out).2.2 (Kd.R_reads' HX3.out).2.1 F3.out).mono ?_
      rintro e4 w4 ⟨rfl, hB⟩
      have B4 := Aside0.mk (below_step B3.out hB)
      have HX4 := Aside0.mk (Kd.R_below HX3.out hB)
      have HY4 := Aside0.mk (Kd.R_below HY3.out hB)
      have K4 := Aside0.mk (K3.out.below hB)
      have Q4 := Aside0.mk (Q3.out.below hB)
      have S34 := Aside0.mk hB.size
      have KL := Aside0.mk K3.out.lt
      have QL := Aside0.mk Q3.out.lt
      clear hB HX3 HY3 K3 Q3
      go_wp2_with (first | ((with_reducible refine gate_dst (N := 13) rfl ?_); refine box_event ?hg (N := 13) ?hd (cs := #[.int .i64 0, .int .i64 0, .int .i64 0]) (t := 57) ?hr ?_; (case hd => rfl); (case hg => rfl); (case hr => first | (go_simp; done) | (go_simp; rfl)); intro r0 hg w5 hbox hb; have G5 := Aside0.mk (show w4.heap.size ≤ r0 from by omega); have B5 := Aside0.mk (below_step B4.out hb); have K5 := Aside0.mk (K4.out.below hb); have Q5 := Aside0.mk (Q4.out.below hb); have R5 := Aside0.mk (show HG3 w5 r0 0 0 0 from hbox); have HX5 := Aside0.mk (Kd.R_below HX4.out hb); have HY5 := Aside0.mk (Kd.R_below HY4.out hb); clear hg hbox hb HX4 HY4 K4 Q4) | ((with_reducible refine gate_store (t := 57) (p := 13) rfl ?_); refine store_geom_event (w0 := w) rfl rfl 13 _ rfl R5.out rfl rfl (by have := G5.out; have := B4.out.size; omega) B5.out ?_; intro w6 hk hgr hb; have R6 := Aside0.mk hk; have B6 := Aside0.mk hb; have K6 := Aside0.mk (show HG3 w6 p0 x y z from blk_grown K5.out hgr (fun e => by cases e; have := KL.out; have := S34.out; have := G5.out; omega)); have Q6 := Aside0.mk (show HG3 w6 q0 x' y' z' from blk_grown Q5.out hgr (fun e => by cases e; have := QL.out; have := S34.out; have := G5.out; omega)); have HX6 := Aside0.mk (Kd.R_grown HX5.out hgr (fun k hk e => by cases e; have := hk.2.2.1; have := S23.out; have := S34.out; have := G5.out; omega)); have HY6 := Aside0.mk (Kd.R_grown HY5.out hgr (fun k hk e => by cases e; have := hk.2.2.1; have := S34.out; have := G5.out; omega)); clear hk hgr hb R5 B5 K5 Q5 HX5 HY5))
      have k0 := K6.out.c0
      have k1 := K6.out.c1
      have k2 := K6.out.c2
      have q0' := Q6.out.c0
      have q1' := Q6.out.c1
      have q2' := Q6.out.c2
      have r0' := R6.out.c0
      have r1' := R6.out.c1
      have r2' := R6.out.c2
      have S6 : Kd.C (Kd.int .u8) w6 Ax X.length X ∧ Kd.C (Kd.int .u8) w6 Ay Y.length Y ∧ X.length ≤ cx ∧ Y.length ≤ cy := ⟨(Kd.R_reads' HX6.out).2.2, (Kd.R_reads' HY6.out).2.2, (Kd.R_reads' HX6.out).2.1, (Kd.R_reads' HY6.out).2.1⟩
      by_cases G : x = x' ∧ y = y' ∧ z = z' ∧ o = o'
      · obtain ⟨rfl, rfl, rfl, rfl⟩ := G
        have E5 : purlinlaw0_SameBytes.f 400 X Y = some true := by
          have h1 := F1.out
          have h2 := F2.out
          rw [h1] at h2
          have h3 := (Prod.mk.inj (Option.some.inj h2)).1
          rw [F5.out, h3, beq_self_eq_true]
        have hb6 := Below.refl w6.heap.size w6
        have hd6 : ∀ u : World, Below w6.heap.size w6 u → u.cell? ⟨p0, 0, none⟩ = some (.int .i64 x) ∧ u.cell? ⟨p0, 1, none⟩ = some (.int .i64 y) ∧ u.cell? ⟨p0, 2, none⟩ = some (.int .i64 z) ∧ u.cell? ⟨q0, 0, none⟩ = some (.int .i64 x) ∧ u.cell? ⟨q0, 1, none⟩ = some (.int .i64 y) ∧ u.cell? ⟨q0, 2, none⟩ = some (.int .i64 z) ∧ u.cell? ⟨r0, 0, none⟩ = some (.int .i64 x) ∧ u.cell? ⟨r0, 1, none⟩ = some (.int .i64 y) ∧ u.cell? ⟨r0, 2, none⟩ = some (.int .i64 z) ∧ Below w6.heap.size w6 u :=
          fun u hb => ⟨(K6.out.below hb).c0, (K6.out.below hb).c1, (K6.out.below hb).c2, (Q6.out.below hb).c0, (Q6.out.below hb).c1, (Q6.out.below hb).c2, (R6.out.below hb).c0, (R6.out.below hb).c1, (R6.out.below hb).c2, hb⟩
        have HD6 := Aside0.mk hd6
        have S6' := Aside0.mk S6
        have E5' := Aside0.mk E5
        clear hd6 S6 E5
        go_region_held3 (fun w' => w'.cell? ⟨p0, 0, none⟩ = some (.int .i64 x) ∧ w'.cell? ⟨p0, 1, none⟩ = some (.int .i64 y) ∧ w'.cell? ⟨p0, 2, none⟩ = some (.int .i64 z) ∧ w'.cell? ⟨q0, 0, none⟩ = some (.int .i64 x) ∧ w'.cell? ⟨q0, 1, none⟩ = some (.int .i64 y) ∧ w'.cell? ⟨q0, 2, none⟩ = some (.int .i64 z) ∧ w'.cell? ⟨r0, 0, none⟩ = some (.int .i64 x) ∧ w'.cell? ⟨r0, 1, none⟩ = some (.int .i64 y) ∧ w'.cell? ⟨r0, 2, none⟩ = some (.int .i64 z) ∧ Below w6.heap.size w6 w') (first | exact HD6.out _ (by assumption) | exact HD6.out _ (below_drew (by assumption)) | exact HD6.out _ (below_drew hb6))
          (first | (go_at_call 29; refine (purlinlaw0_SameBytes.calls 400 _ _ X _ _ Y true _ (Kd.C_below S6'.out.1 (by first | assumption | (rename_i hH_ _ _; exact hH_.2.2.2.2.2.2.2.2.2))) S6'.out.2.2.1 (Kd.C_below S6'.out.2.1 (by first | assumption | (rename_i hH_ _ _; exact hH_.2.2.2.2.2.2.2.2.2))) S6'.out.2.2.2 E5'.out).mono ?_; rintro e7 w7 ⟨rfl, hD⟩; have hb7 : Below w6.heap.size w6 w7 := (by refine below_step ?_ hD.below; first | assumption | (rename_i hH_ _ _; exact hH_.2.2.2.2.2.2.2.2.2))) | (go_at_call 51; refine (purlinlaw6_awake.calls 400 true _ F15.out).mono ?_; rintro e8 w8 ⟨rfl, hD⟩; have hb8 : Below w6.heap.size w6 w8 := (by refine below_step ?_ hD; first | assumption | (rename_i hH_ _ _; exact hH_.2.2.2.2.2.2.2.2.2))))
        go_wp2
        go_ret
        refine ⟨rfl, below_step B6.out ?_⟩
        first | assumption | (rename_i hH_ _ _; exact hH_.2.2.2.2.2.2.2.2.2) | (rename_i hH_; exact hH_.2.2.2.2.2.2.2.2.2) | (rename_i hH_ _; exact hH_.2.2.2.2.2.2.2.2.2)
      · have E5 : purlinlaw0_SameBytes.f 400 X Y = some false := by
          rw [F5.out, beq_eq_false_iff_ne.mpr (fun h => G (APART.out h))]
        by_cases ax : x = x'
        · subst ax
          by_cases ay : y = y'
          · subst ay
            by_cases az : z = z'
            · subst az
              have ao : (o == o') = false := beq_eq_false_iff_ne.mpr (fun h => G ⟨rfl, rfl, rfl, h⟩)
              clear G
              have hb6 := Below.refl w6.heap.size w6
              have hd6 : ∀ u : World, Below w6.heap.size w6 u → u.cell? ⟨p0, 0, none⟩ = some (.int .i64 x) ∧ u.cell? ⟨p0, 1, none⟩ = some (.int .i64 y) ∧ u.cell? ⟨p0, 2, none⟩ = some (.int .i64 z) ∧ u.cell? ⟨q0, 0, none⟩ = some (.int .i64 x) ∧ u.cell? ⟨q0, 1, none⟩ = some (.int .i64 y) ∧ u.cell? ⟨q0, 2, none⟩ = some (.int .i64 z) ∧ u.cell? ⟨r0, 0, none⟩ = some (.int .i64 x) ∧ u.cell? ⟨r0, 1, none⟩ = some (.int .i64 y) ∧ u.cell? ⟨r0, 2, none⟩ = some (.int .i64 z) ∧ Below w6.heap.size w6 u :=
                fun u hb => ⟨(K6.out.below hb).c0, (K6.out.below hb).c1, (K6.out.below hb).c2, (Q6.out.below hb).c0, (Q6.out.below hb).c1, (Q6.out.below hb).c2, (R6.out.below hb).c0, (R6.out.below hb).c1, (R6.out.below hb).c2, hb⟩
              have HD6 := Aside0.mk hd6
              have S6' := Aside0.mk S6
              have E5' := Aside0.mk E5
              clear hd6 S6 E5
              go_region_held3 (fun w' => w'.cell? ⟨p0, 0, none⟩ = some (.int .i64 x) ∧ w'.cell? ⟨p0, 1, none⟩ = some (.int .i64 y) ∧ w'.cell? ⟨p0, 2, none⟩ = some (.int .i64 z) ∧ w'.cell? ⟨q0, 0, none⟩ = some (.int .i64 x) ∧ w'.cell? ⟨q0, 1, none⟩ = some (.int .i64 y) ∧ w'.cell? ⟨q0, 2, none⟩ = some (.int .i64 z) ∧ w'.cell? ⟨r0, 0, none⟩ = some (.int .i64 x) ∧ w'.cell? ⟨r0, 1, none⟩ = some (.int .i64 y) ∧ w'.cell? ⟨r0, 2, none⟩ = some (.int .i64 z) ∧ Below w6.heap.size w6 w') (first | exact HD6.out _ (by assumption) | exact HD6.out _ (below_drew (by assumption)) | exact HD6.out _ (below_drew hb6))
                (first | (go_at_call 29; refine (purlinlaw0_SameBytes.calls 400 _ _ X _ _ Y false _ (Kd.C_below S6'.out.1 (by first | assumption | (rename_i hH_ _ _; exact hH_.2.2.2.2.2.2.2.2.2))) S6'.out.2.2.1 (Kd.C_below S6'.out.2.1 (by first | assumption | (rename_i hH_ _ _; exact hH_.2.2.2.2.2.2.2.2.2))) S6'.out.2.2.2 E5'.out).mono ?_; rintro e7 w7 ⟨rfl, hD⟩; have hb7 : Below w6.heap.size w6 w7 := (by refine below_step ?_ hD.below; first | assumption | (rename_i hH_ _ _; exact hH_.2.2.2.2.2.2.2.2.2))) | (go_at_call 51; refine (purlinlaw6_awake.calls 400 true _ F15.out).mono ?_; rintro e8 w8 ⟨rfl, hD⟩; have hb8 : Below w6.heap.size w6 w8 := (by refine below_step ?_ hD; first | assumption | (rename_i hH_ _ _; exact hH_.2.2.2.2.2.2.2.2.2))))
              go_wp2
              go_ret
              refine ⟨rfl, below_step B6.out ?_⟩
              first | assumption | (rename_i hH_ _ _; exact hH_.2.2.2.2.2.2.2.2.2) | (rename_i hH_; exact hH_.2.2.2.2.2.2.2.2.2) | (rename_i hH_ _; exact hH_.2.2.2.2.2.2.2.2.2)
            · have ao : (z == z') = false := beq_eq_false_iff_ne.mpr az; have ao2 : decide (z = z') = false := decide_eq_false az; have ao3 : (z = z') = False := eq_false az; have ao4 : (z != z') = true := bne_iff_ne.mpr az
              clear G
              have hb6 := Below.refl w6.heap.size w6
              have hd6 : ∀ u : World, Below w6.heap.size w6 u → u.cell? ⟨p0, 0, none⟩ = some (.int .i64 x) ∧ u.cell? ⟨p0, 1, none⟩ = some (.int .i64 y) ∧ u.cell? ⟨p0, 2, none⟩ = some (.int .i64 z) ∧ u.cell? ⟨q0, 0, none⟩ = some (.int .i64 x) ∧ u.cell? ⟨q0, 1, none⟩ = some (.int .i64 y) ∧ u.cell? ⟨q0, 2, none⟩ = some (.int .i64 z') ∧ u.cell? ⟨r0, 0, none⟩ = some (.int .i64 x) ∧ u.cell? ⟨r0, 1, none⟩ = some (.int .i64 y) ∧ u.cell? ⟨r0, 2, none⟩ = some (.int .i64 z) ∧ Below w6.heap.size w6 u :=
                fun u hb => ⟨(K6.out.below hb).c0, (K6.out.below hb).c1, (K6.out.below hb).c2, (Q6.out.below hb).c0, (Q6.out.below hb).c1, (Q6.out.below hb).c2, (R6.out.below hb).c0, (R6.out.below hb).c1, (R6.out.below hb).c2, hb⟩
              have HD6 := Aside0.mk hd6
              have S6' := Aside0.mk S6
              have E5' := Aside0.mk E5
              clear hd6 S6 E5
              refine wp_region_noPanic ?_
              refine wp_region_held_drew (S := (fun w' => w'.cell? ⟨p0, 0, none⟩ = some (.int .i64 x) ∧ w'.cell? ⟨p0, 1, none⟩ = some (.int .i64 y) ∧ w'.cell? ⟨p0, 2, none⟩ = some (.int .i64 z) ∧ w'.cell? ⟨q0, 0, none⟩ = some (.int .i64 x) ∧ w'.cell? ⟨q0, 1, none⟩ = some (.int .i64 y) ∧ w'.cell? ⟨q0, 2, none⟩ = some (.int .i64 z') ∧ w'.cell? ⟨r0, 0, none⟩ = some (.int .i64 x) ∧ w'.cell? ⟨r0, 1, none⟩ = some (.int .i64 y) ∧ w'.cell? ⟨r0, 2, none⟩ = some (.int .i64 z) ∧ Below w6.heap.size w6 w')) (by kernel_rfl) ?_ (fun hHeld => ?_)
              · (try dsimp only); first | exact HD6.out _ (by assumption) | exact HD6.out _ (below_drew (by assumption)) | exact HD6.out _ (below_drew hb6)
              refine wpAnyH_take (i := 0) (v := ?_) (by simp only [List.getElem?_toArray, List.getElem?_cons_succ, List.getElem?_cons_zero]; rfl) (by kernel_rfl) (by kernel_rfl) (by kernel_rfl) (fun _ _ _ h => h) (Or.inl ⟨by rfl, ?_⟩) (by assumption) ?_
              rotate_left
              · (intro w hSw; (try dsimp only at hSw); go_simp; try with_reducible rfl)
              try simp only [Act.put, List.setIfInBounds_toArray, List.set_cons_zero, List.set_cons_succ]
              refine wpAnyH_take (i := 1) (v := ?_) (by simp only [List.getElem?_toArray, List.getElem?_cons_succ, List.getElem?_cons_zero]; rfl) (by kernel_rfl) (by kernel_rfl) (by kernel_rfl) (fun _ _ _ h => h) (Or.inl ⟨by rfl, ?_⟩) (by assumption) ?_
              rotate_left
              · (intro w hSw; (try dsimp only at hSw); go_simp; try with_reducible rfl)
              try simp only [Act.put, List.setIfInBounds_toArray, List.set_cons_zero, List.set_cons_succ]
              refine wpAnyH_take (i := 3) (v := ?_) (by simp only [List.getElem?_toArray, List.getElem?_cons_succ, List.getElem?_cons_zero]; rfl) (by kernel_rfl) (by kernel_rfl) (by kernel_rfl) (fun _ _ _ h => h) (Or.inl ⟨by rfl, ?_⟩) (by assumption) ?_
              rotate_left
              · (intro w hSw; (try dsimp only at hSw); go_simp; try with_reducible rfl)
              try simp only [Act.put, List.setIfInBounds_toArray, List.set_cons_zero, List.set_cons_succ]
              refine wpAnyH_take (i := 4) (v := ?_) (by simp only [List.getElem?_toArray, List.getElem?_cons_succ, List.getElem?_cons_zero]; rfl) (by kernel_rfl) (by kernel_rfl) (by kernel_rfl) (fun _ _ _ h => h) (Or.inl ⟨by rfl, ?_⟩) (by assumption) ?_
              rotate_left
              · (intro w hSw; (try dsimp only at hSw); go_simp; try with_reducible rfl)
              try simp only [Act.put, List.setIfInBounds_toArray, List.set_cons_zero, List.set_cons_succ]
              refine wpAnyH_take (i := 5) (v := ?_) (by simp only [List.getElem?_toArray, List.getElem?_cons_succ, List.getElem?_cons_zero]; rfl) (by kernel_rfl) (by kernel_rfl) (by kernel_rfl) (fun _ _ _ h => h) (Or.inl ⟨by rfl, ?_⟩) (by assumption) ?_
              rotate_left
              · (intro w hSw; (try dsimp only at hSw); go_simp; try with_reducible rfl)
              try simp only [Act.put, List.setIfInBounds_toArray, List.set_cons_zero, List.set_cons_succ]
              refine wpAnyH_ready (rs := [2]) (by kernel_rfl) (by simp) ?_
              refine AllReadyH.cons (by simp only [List.getElem?_toArray, List.getElem?_cons_succ, List.getElem?_cons_zero]; rfl) (fun K hK => ?_) AllReadyH.nil
              go_simp
              go_at_call 29; refine (purlinlaw0_SameBytes.calls 400 _ _ X _ _ Y false _ (Kd.C_below S6'.out.1 (by first | assumption | exact hHeld.2.2.2.2.2.2.2.2.2)) S6'.out.2.2.1 (Kd.C_below S6'.out.2.1 (by first | assumption | exact hHeld.2.2.2.2.2.2.2.2.2)) S6'.out.2.2.2 E5'.out).mono ?_; rintro e7 w7 ⟨rfl, hD⟩; have hb7 : Below w6.heap.size w6 w7 := (by refine below_step ?_ hD.below; first | assumption | exact hHeld.2.2.2.2.2.2.2.2.2)
              go_wp2_with fail
              refine hK.out _ _ ?_ (fun hHeld => ?_)
              · (try dsimp only); first | exact HD6.out _ (by assumption) | exact HD6.out _ (below_drew (by assumption)) | exact HD6.out _ (below_drew hb6)
              clear hK K
              try simp only [Act.put, List.setIfInBounds_toArray, List.set_cons_zero, List.set_cons_succ]
              refine wpAnyH_take (i := 6) (v := ?_) (by simp only [List.getElem?_toArray, List.getElem?_cons_succ, List.getElem?_cons_zero]; rfl) (by kernel_rfl) (by kernel_rfl) (by kernel_rfl) (fun _ _ _ h => h) (Or.inl ⟨by rfl, ?_⟩) (by assumption) ?_
              rotate_left
              · (intro w hSw; (try dsimp only at hSw); go_simp; try with_reducible rfl)
              try simp only [Act.put, List.setIfInBounds_toArray, List.set_cons_zero, List.set_cons_succ]
              refine wpAnyH_take (i := 7) (v := undef) (by simp only [List.getElem?_toArray, List.getElem?_cons_succ, List.getElem?_cons_zero]; rfl) (by kernel_rfl) (by kernel_rfl) (by kernel_rfl) (fun _ _ _ h => h) (Or.inr ⟨by rfl, rfl⟩) (by assumption) ?_
              try simp only [Act.put, List.setIfInBounds_toArray, List.set_cons_zero, List.set_cons_succ]
              refine wpAnyH_take (i := 8) (v := undef) (by simp only [List.getElem?_toArray, List.getElem?_cons_succ, List.getElem?_cons_zero]; rfl) (by kernel_rfl) (by kernel_rfl) (by kernel_rfl) (fun _ _ _ h => h) (Or.inr ⟨by rfl, rfl⟩) (by assumption) ?_
              try simp only [Act.put, List.setIfInBounds_toArray, List.set_cons_zero, List.set_cons_succ]
              refine wpAnyH_take (i := 9) (v := undef) (by simp only [List.getElem?_toArray, List.getElem?_cons_succ, List.getElem?_cons_zero]; rfl) (by kernel_rfl) (by kernel_rfl) (by kernel_rfl) (fun _ _ _ h => h) (Or.inr ⟨by rfl, rfl⟩) (by assumption) ?_
              try simp only [Act.put, List.setIfInBounds_toArray, List.set_cons_zero, List.set_cons_succ]
              refine wpAnyH_take (i := 10) (v := ?_) (by simp only [List.getElem?_toArray, List.getElem?_cons_succ, List.getElem?_cons_zero]; rfl) (by kernel_rfl) (by kernel_rfl) (by kernel_rfl) (fun _ _ _ h => h) (Or.inl ⟨by rfl, ?_⟩) (by assumption) ?_
              rotate_left
              · (intro w hSw; (try dsimp only at hSw); go_simp; try with_reducible rfl)
              try simp only [Act.put, List.setIfInBounds_toArray, List.set_cons_zero, List.set_cons_succ]
              refine wpAnyH_take (i := 11) (v := ?_) (by simp only [List.getElem?_toArray, List.getElem?_cons_succ, List.getElem?_cons_zero]; rfl) (by kernel_rfl) (by kernel_rfl) (by kernel_rfl) (fun _ _ _ h => h) (Or.inl ⟨by rfl, ?_⟩) (by assumption) ?_
              rotate_left
              · (intro w hSw; (try dsimp only at hSw); go_simp; try with_reducible rfl)
              try simp only [Act.put, List.setIfInBounds_toArray, List.set_cons_zero, List.set_cons_succ]
              refine wpAnyH_take (i := 12) (v := ?_) (by simp only [List.getElem?_toArray, List.getElem?_cons_succ, List.getElem?_cons_zero]; rfl) (by kernel_rfl) (by kernel_rfl) (by kernel_rfl) (fun _ _ _ h => h) (Or.inl ⟨by rfl, ?_⟩) (by assumption) ?_
              rotate_left
              · (intro w hSw; (try dsimp only at hSw); go_simp; try with_reducible rfl)
              try simp only [Act.put, List.setIfInBounds_toArray, List.set_cons_zero, List.set_cons_succ]
              refine wpAnyH_take (i := 13) (v := ?_) (by simp only [List.getElem?_toArray, List.getElem?_cons_succ, List.getElem?_cons_zero]; rfl) (by kernel_rfl) (by kernel_rfl) (by kernel_rfl) (fun _ _ _ h => h) (Or.inl ⟨by rfl, ?_⟩) (by assumption) ?_
              rotate_left
              · (intro w hSw; (try dsimp only at hSw); go_simp; try with_reducible rfl)
              try simp only [Act.put, List.setIfInBounds_toArray, List.set_cons_zero, List.set_cons_succ]
              refine wpAnyH_take (i := 14) (v := ?_) (by simp only [List.getElem?_toArray, List.getElem?_cons_succ, List.getElem?_cons_zero]; rfl) (by kernel_rfl) (by kernel_rfl) (by kernel_rfl) (fun _ _ _ h => h) (Or.inl ⟨by rfl, ?_⟩) (by assumption) ?_
              rotate_left
              · (intro w hSw; (try dsimp only at hSw); go_simp; try with_reducible rfl)
              try simp only [Act.put, List.setIfInBounds_toArray, List.set_cons_zero, List.set_cons_succ]
              refine wpAnyH_take (i := 15) (v := ?_) (by simp only [List.getElem?_toArray, List.getElem?_cons_succ, List.getElem?_cons_zero]; rfl) (by kernel_rfl) (by kernel_rfl) (by kernel_rfl) (fun _ _ _ h => h) (Or.inl ⟨by rfl, ?_⟩) (by assumption) ?_
              rotate_left
              · (intro w hSw; (try dsimp only at hSw); go_simp; try with_reducible rfl)
              try simp only [Act.put, List.setIfInBounds_toArray, List.set_cons_zero, List.set_cons_succ]
              refine wpAnyH_take (i := 16) (v := ?_) (by simp only [List.getElem?_toArray, List.getElem?_cons_succ, List.getElem?_cons_zero]; rfl) (by kernel_rfl) (by kernel_rfl) (by kernel_rfl) (fun _ _ _ h => h) (Or.inl ⟨by rfl, ?_⟩) (by assumption) ?_
              rotate_left
              · (intro w hSw; (try dsimp only at hSw); go_simp; try with_reducible rfl)
              try simp only [Act.put, List.setIfInBounds_toArray, List.set_cons_zero, List.set_cons_succ]
              refine wpAnyH_take (i := 17) (v := ?_) (by simp only [List.getElem?_toArray, List.getElem?_cons_succ, List.getElem?_cons_zero]; rfl) (by kernel_rfl) (by kernel_rfl) (by kernel_rfl) (fun _ _ _ h => h) (Or.inl ⟨by rfl, ?_⟩) (by assumption) ?_
              rotate_left
              · (intro w hSw; (try dsimp only at hSw); go_simp; try with_reducible rfl)
              try simp only [Act.put, List.setIfInBounds_toArray, List.set_cons_zero, List.set_cons_succ]
              refine wpAnyH_take (i := 18) (v := ?_) (by simp only [List.getElem?_toArray, List.getElem?_cons_succ, List.getElem?_cons_zero]; rfl) (by kernel_rfl) (by kernel_rfl) (by kernel_rfl) (fun _ _ _ h => h) (Or.inl ⟨by rfl, ?_⟩) (by assumption) ?_
              rotate_left
              · (intro w hSw; (try dsimp only at hSw); go_simp; try with_reducible rfl)
              try simp only [Act.put, List.setIfInBounds_toArray, List.set_cons_zero, List.set_cons_succ]
              refine wpAnyH_take (i := 19) (v := ?_) (by simp only [List.getElem?_toArray, List.getElem?_cons_succ, List.getElem?_cons_zero]; rfl) (by kernel_rfl) (by kernel_rfl) (by kernel_rfl) (fun _ _ _ h => h) (Or.inl ⟨by rfl, ?_⟩) (by assumption) ?_
              rotate_left
              · (intro w hSw; (try dsimp only at hSw); go_simp; try with_reducible rfl)
              try simp only [Act.put, List.setIfInBounds_toArray, List.set_cons_zero, List.set_cons_succ]
              refine wpAnyH_take (i := 20) (v := ?_) (by simp only [List.getElem?_toArray, List.getElem?_cons_succ, List.getElem?_cons_zero]; rfl) (by kernel_rfl) (by kernel_rfl) (by kernel_rfl) (fun _ _ _ h => h) (Or.inl ⟨by rfl, ?_⟩) (by assumption) ?_
              rotate_left
              · (intro w hSw; (try dsimp only at hSw); go_simp; try with_reducible rfl)
              try simp only [Act.put, List.setIfInBounds_toArray, List.set_cons_zero, List.set_cons_succ]
              refine wpAnyH_take (i := 21) (v := ?_) (by simp only [List.getElem?_toArray, List.getElem?_cons_succ, List.getElem?_cons_zero]; rfl) (by kernel_rfl) (by kernel_rfl) (by kernel_rfl) (fun _ _ _ h => h) (Or.inl ⟨by rfl, ?_⟩) (by assumption) ?_
              rotate_left
              · (intro w hSw; (try dsimp only at hSw); go_simp; try with_reducible rfl)
              try simp only [Act.put, List.setIfInBounds_toArray, List.set_cons_zero, List.set_cons_succ]
              refine wpAnyH_take (i := 22) (v := ?_) (by simp only [List.getElem?_toArray, List.getElem?_cons_succ, List.getElem?_cons_zero]; rfl) (by kernel_rfl) (by kernel_rfl) (by kernel_rfl) (fun _ _ _ h => h) (Or.inl ⟨by rfl, ?_⟩) (by assumption) ?_
              rotate_left
              · (intro w hSw; (try dsimp only at hSw); go_simp; try with_reducible rfl)
              try simp only [Act.put, List.setIfInBounds_toArray, List.set_cons_zero, List.set_cons_succ]
              refine wpAnyH_take (i := 23) (v := ?_) (by simp only [List.getElem?_toArray, List.getElem?_cons_succ, List.getElem?_cons_zero]; rfl) (by kernel_rfl) (by kernel_rfl) (by kernel_rfl) (fun _ _ _ h => h) (Or.inl ⟨by rfl, ?_⟩) (by assumption) ?_
              rotate_left
              · (intro w hSw; (try dsimp only at hSw); go_simp; try with_reducible rfl)
              try simp only [Act.put, List.setIfInBounds_toArray, List.set_cons_zero, List.set_cons_succ]
              refine wpAnyH_take (i := 24) (v := ?_) (by simp only [List.getElem?_toArray, List.getElem?_cons_succ, List.getElem?_cons_zero]; rfl) (by kernel_rfl) (by kernel_rfl) (by kernel_rfl) (fun _ _ _ h => h) (Or.inl ⟨by rfl, ?_⟩) (by assumption) ?_
              rotate_left
              · (intro w hSw; (try dsimp only at hSw); go_simp; try with_reducible rfl)
              try simp only [Act.put, List.setIfInBounds_toArray, List.set_cons_zero, List.set_cons_succ]
              refine wpAnyH_take (i := 25) (v := ?_) (by simp only [List.getElem?_toArray, List.getElem?_cons_succ, List.getElem?_cons_zero]; rfl) (by kernel_rfl) (by kernel_rfl) (by kernel_rfl) (fun _ _ _ h => h) (Or.inl ⟨by rfl, ?_⟩) (by assumption) ?_
              rotate_left
              · (intro w hSw; (try dsimp only at hSw); go_simp; try with_reducible rfl)
              try simp only [Act.put, List.setIfInBounds_toArray, List.set_cons_zero, List.set_cons_succ]
              refine wpAnyH_take (i := 26) (v := ?_) (by simp only [List.getElem?_toArray, List.getElem?_cons_succ, List.getElem?_cons_zero]; rfl) (by kernel_rfl) (by kernel_rfl) (by kernel_rfl) (fun _ _ _ h => h) (Or.inl ⟨by rfl, ?_⟩) (by assumption) ?_
              rotate_left
              · (intro w hSw; (try dsimp only at hSw); go_simp; try with_reducible rfl)
              try simp only [Act.put, List.setIfInBounds_toArray, List.set_cons_zero, List.set_cons_succ]
              refine wpAnyH_ready (rs := [27]) (by kernel_rfl) (by simp) ?_
              refine AllReadyH.cons (by simp only [List.getElem?_toArray, List.getElem?_cons_succ, List.getElem?_cons_zero]; rfl) (fun K hK => ?_) AllReadyH.nil
              go_simp
              go_at_call 51; refine (purlinlaw6_awake.calls 400 true _ F15.out).mono ?_; rintro e8 w8 ⟨rfl, hD⟩; have hb8 : Below w6.heap.size w6 w8 := (by refine below_step ?_ hD; first | assumption | exact hHeld.2.2.2.2.2.2.2.2.2)
              go_wp2_with fail
              refine hK.out _ _ ?_ (fun hHeld => ?_)
              · (try dsimp only); first | exact HD6.out _ (by assumption) | exact HD6.out _ (below_drew (by assumption)) | exact HD6.out _ (below_drew hb6)
              clear hK K
              try simp only [Act.put, List.setIfInBounds_toArray, List.set_cons_zero, List.set_cons_succ]
              refine wpAnyH_take (i := 28) (v := ?_) (by simp only [List.getElem?_toArray, List.getElem?_cons_succ, List.getElem?_cons_zero]; rfl) (by kernel_rfl) (by kernel_rfl) (by kernel_rfl) (fun _ _ _ h => h) (Or.inl ⟨by rfl, ?_⟩) (by assumption) ?_
              rotate_left
              · (intro w hSw; (try dsimp only at hSw); go_simp; try with_reducible rfl)
              try simp only [Act.put, List.setIfInBounds_toArray, List.set_cons_zero, List.set_cons_succ]
              refine wpAnyH_take (i := 29) (v := ?_) (by simp only [List.getElem?_toArray, List.getElem?_cons_succ, List.getElem?_cons_zero]; rfl) (by kernel_rfl) (by kernel_rfl) (by kernel_rfl) (fun _ _ _ h => h) (Or.inl ⟨by rfl, ?_⟩) (by assumption) ?_
              rotate_left
              · (intro w hSw; (try dsimp only at hSw); go_simp; try with_reducible rfl)
              try simp only [Act.put, List.setIfInBounds_toArray, List.set_cons_zero, List.set_cons_succ]
              refine wpAnyH_done (by kernel_rfl) ?_ _
              refine NoPanic.normal ?_
              go_wp2
              go_ret
              exact ⟨rfl, below_step B6.out hHeld.2.2.2.2.2.2.2.2.2⟩
          · have ao : (y == y') = false := beq_eq_false_iff_ne.mpr ay; have ao2 : decide (y = y') = false := decide_eq_false ay; have ao3 : (y = y') = False := eq_false ay; have ao4 : (y != y') = true := bne_iff_ne.mpr ay
            clear G
            have hb6 := Below.refl w6.heap.size w6
            have hd6 : ∀ u : World, Below w6.heap.size w6 u → u.cell? ⟨p0, 0, none⟩ = some (.int .i64 x) ∧ u.cell? ⟨p0, 1, none⟩ = some (.int .i64 y) ∧ u.cell? ⟨p0, 2, none⟩ = some (.int .i64 z) ∧ u.cell? ⟨q0, 0, none⟩ = some (.int .i64 x) ∧ u.cell? ⟨q0, 1, none⟩ = some (.int .i64 y') ∧ u.cell? ⟨q0, 2, none⟩ = some (.int .i64 z') ∧ u.cell? ⟨r0, 0, none⟩ = some (.int .i64 x) ∧ u.cell? ⟨r0, 1, none⟩ = some (.int .i64 y) ∧ u.cell? ⟨r0, 2, none⟩ = some (.int .i64 z) ∧ Below w6.heap.size w6 u :=
              fun u hb => ⟨(K6.out.below hb).c0, (K6.out.below hb).c1, (K6.out.below hb).c2, (Q6.out.below hb).c0, (Q6.out.below hb).c1, (Q6.out.below hb).c2, (R6.out.below hb).c0, (R6.out.below hb).c1, (R6.out.below hb).c2, hb⟩
            have HD6 := Aside0.mk hd6
            have S6' := Aside0.mk S6
            have E5' := Aside0.mk E5
            clear hd6 S6 E5
            refine wp_region_noPanic ?_
            refine wp_region_held_drew (S := (fun w' => w'.cell? ⟨p0, 0, none⟩ = some (.int .i64 x) ∧ w'.cell? ⟨p0, 1, none⟩ = some (.int .i64 y) ∧ w'.cell? ⟨p0, 2, none⟩ = some (.int .i64 z) ∧ w'.cell? ⟨q0, 0, none⟩ = some (.int .i64 x) ∧ w'.cell? ⟨q0, 1, none⟩ = some (.int .i64 y') ∧ w'.cell? ⟨q0, 2, none⟩ = some (.int .i64 z') ∧ w'.cell? ⟨r0, 0, none⟩ = some (.int .i64 x) ∧ w'.cell? ⟨r0, 1, none⟩ = some (.int .i64 y) ∧ w'.cell? ⟨r0, 2, none⟩ = some (.int .i64 z) ∧ Below w6.heap.size w6 w')) (by kernel_rfl) ?_ (fun hHeld => ?_)
            · (try dsimp only); first | exact HD6.out _ (by assumption) | exact HD6.out _ (below_drew (by assumption)) | exact HD6.out _ (below_drew hb6)
            refine wpAnyH_take (i := 0) (v := ?_) (by simp only [List.getElem?_toArray, List.getElem?_cons_succ, List.getElem?_cons_zero]; rfl) (by kernel_rfl) (by kernel_rfl) (by kernel_rfl) (fun _ _ _ h => h) (Or.inl ⟨by rfl, ?_⟩) (by assumption) ?_
            rotate_left
            · (intro w hSw; (try dsimp only at hSw); go_simp; try with_reducible rfl)
            try simp only [Act.put, List.setIfInBounds_toArray, List.set_cons_zero, List.set_cons_succ]
            refine wpAnyH_take (i := 1) (v := ?_) (by simp only [List.getElem?_toArray, List.getElem?_cons_succ, List.getElem?_cons_zero]; rfl) (by kernel_rfl) (by kernel_rfl) (by kernel_rfl) (fun _ _ _ h => h) (Or.inl ⟨by rfl, ?_⟩) (by assumption) ?_
            rotate_left
            · (intro w hSw; (try dsimp only at hSw); go_simp; try with_reducible rfl)
            try simp only [Act.put, List.setIfInBounds_toArray, List.set_cons_zero, List.set_cons_succ]
            refine wpAnyH_take (i := 3) (v := ?_) (by simp only [List.getElem?_toArray, List.getElem?_cons_succ, List.getElem?_cons_zero]; rfl) (by kernel_rfl) (by kernel_rfl) (by kernel_rfl) (fun _ _ _ h => h) (Or.inl ⟨by rfl, ?_⟩) (by assumption) ?_
            rotate_left
            · (intro w hSw; (try dsimp only at hSw); go_simp; try with_reducible rfl)
            try simp only [Act.put, List.setIfInBounds_toArray, List.set_cons_zero, List.set_cons_succ]
            refine wpAnyH_take (i := 4) (v := ?_) (by simp only [List.getElem?_toArray, List.getElem?_cons_succ, List.getElem?_cons_zero]; rfl) (by kernel_rfl) (by kernel_rfl) (by kernel_rfl) (fun _ _ _ h => h) (Or.inl ⟨by rfl, ?_⟩) (by assumption) ?_
            rotate_left
            · (intro w hSw; (try dsimp only at hSw); go_simp; try with_reducible rfl)
            try simp only [Act.put, List.setIfInBounds_toArray, List.set_cons_zero, List.set_cons_succ]
            refine wpAnyH_take (i := 5) (v := ?_) (by simp only [List.getElem?_toArray, List.getElem?_cons_succ, List.getElem?_cons_zero]; rfl) (by kernel_rfl) (by kernel_rfl) (by kernel_rfl) (fun _ _ _ h => h) (Or.inl ⟨by rfl, ?_⟩) (by assumption) ?_
            rotate_left
            · (intro w hSw; (try dsimp only at hSw); go_simp; try with_reducible rfl)
            try simp only [Act.put, List.setIfInBounds_toArray, List.set_cons_zero, List.set_cons_succ]
            refine wpAnyH_ready (rs := [2]) (by kernel_rfl) (by simp) ?_
            refine AllReadyH.cons (by simp only [List.getElem?_toArray, List.getElem?_cons_succ, List.getElem?_cons_zero]; rfl) (fun K hK => ?_) AllReadyH.nil
            go_simp
            go_at_call 29; refine (purlinlaw0_SameBytes.calls 400 _ _ X _ _ Y false _ (Kd.C_below S6'.out.1 (by first | assumption | exact hHeld.2.2.2.2.2.2.2.2.2)) S6'.out.2.2.1 (Kd.C_below S6'.out.2.1 (by first | assumption | exact hHeld.2.2.2.2.2.2.2.2.2)) S6'.out.2.2.2 E5'.out).mono ?_; rintro e7 w7 ⟨rfl, hD⟩; have hb7 : Below w6.heap.size w6 w7 := (by refine below_step ?_ hD.below; first | assumption | exact hHeld.2.2.2.2.2.2.2.2.2)
            go_wp2_with fail
            refine hK.out _ _ ?_ (fun hHeld => ?_)
            · (try dsimp only); first | exact HD6.out _ (by assumption) | exact HD6.out _ (below_drew (by assumption)) | exact HD6.out _ (below_drew hb6)
            clear hK K
            try simp only [Act.put, List.setIfInBounds_toArray, List.set_cons_zero, List.set_cons_succ]
            refine wpAnyH_take (i := 6) (v := ?_) (by simp only [List.getElem?_toArray, List.getElem?_cons_succ, List.getElem?_cons_zero]; rfl) (by kernel_rfl) (by kernel_rfl) (by kernel_rfl) (fun _ _ _ h => h) (Or.inl ⟨by rfl, ?_⟩) (by assumption) ?_
            rotate_left
            · (intro w hSw; (try dsimp only at hSw); go_simp; try with_reducible rfl)
            try simp only [Act.put, List.setIfInBounds_toArray, List.set_cons_zero, List.set_cons_succ]
            refine wpAnyH_take (i := 7) (v := undef) (by simp only [List.getElem?_toArray, List.getElem?_cons_succ, List.getElem?_cons_zero]; rfl) (by kernel_rfl) (by kernel_rfl) (by kernel_rfl) (fun _ _ _ h => h) (Or.inr ⟨by rfl, rfl⟩) (by assumption) ?_
            try simp only [Act.put, List.setIfInBounds_toArray, List.set_cons_zero, List.set_cons_succ]
            refine wpAnyH_take (i := 8) (v := undef) (by simp only [List.getElem?_toArray, List.getElem?_cons_succ, List.getElem?_cons_zero]; rfl) (by kernel_rfl) (by kernel_rfl) (by kernel_rfl) (fun _ _ _ h => h) (Or.inr ⟨by rfl, rfl⟩) (by assumption) ?_
            try simp only [Act.put, List.setIfInBounds_toArray, List.set_cons_zero, List.set_cons_succ]
            refine wpAnyH_take (i := 9) (v := undef) (by simp only [List.getElem?_toArray, List.getElem?_cons_succ, List.getElem?_cons_zero]; rfl) (by kernel_rfl) (by kernel_rfl) (by kernel_rfl) (fun _ _ _ h => h) (Or.inr ⟨by rfl, rfl⟩) (by assumption) ?_
            try simp only [Act.put, List.setIfInBounds_toArray, List.set_cons_zero, List.set_cons_succ]
            refine wpAnyH_take (i := 10) (v := ?_) (by simp only [List.getElem?_toArray, List.getElem?_cons_succ, List.getElem?_cons_zero]; rfl) (by kernel_rfl) (by kernel_rfl) (by kernel_rfl) (fun _ _ _ h => h) (Or.inl ⟨by rfl, ?_⟩) (by assumption) ?_
            rotate_left
            · (intro w hSw; (try dsimp only at hSw); go_simp; try with_reducible rfl)
            try simp only [Act.put, List.setIfInBounds_toArray, List.set_cons_zero, List.set_cons_succ]
            refine wpAnyH_take (i := 11) (v := ?_) (by simp only [List.getElem?_toArray, List.getElem?_cons_succ, List.getElem?_cons_zero]; rfl) (by kernel_rfl) (by kernel_rfl) (by kernel_rfl) (fun _ _ _ h => h) (Or.inl ⟨by rfl, ?_⟩) (by assumption) ?_
            rotate_left
            · (intro w hSw; (try dsimp only at hSw); go_simp; try with_reducible rfl)
            try simp only [Act.put, List.setIfInBounds_toArray, List.set_cons_zero, List.set_cons_succ]
            refine wpAnyH_take (i := 12) (v := ?_) (by simp only [List.getElem?_toArray, List.getElem?_cons_succ, List.getElem?_cons_zero]; rfl) (by kernel_rfl) (by kernel_rfl) (by kernel_rfl) (fun _ _ _ h => h) (Or.inl ⟨by rfl, ?_⟩) (by assumption) ?_
            rotate_left
            · (intro w hSw; (try dsimp only at hSw); go_simp; try with_reducible rfl)
            try simp only [Act.put, List.setIfInBounds_toArray, List.set_cons_zero, List.set_cons_succ]
            refine wpAnyH_take (i := 13) (v := ?_) (by simp only [List.getElem?_toArray, List.getElem?_cons_succ, List.getElem?_cons_zero]; rfl) (by kernel_rfl) (by kernel_rfl) (by kernel_rfl) (fun _ _ _ h => h) (Or.inl ⟨by rfl, ?_⟩) (by assumption) ?_
            rotate_left
            · (intro w hSw; (try dsimp only at hSw); go_simp; try with_reducible rfl)
            try simp only [Act.put, List.setIfInBounds_toArray, List.set_cons_zero, List.set_cons_succ]
            refine wpAnyH_take (i := 14) (v := ?_) (by simp only [List.getElem?_toArray, List.getElem?_cons_succ, List.getElem?_cons_zero]; rfl) (by kernel_rfl) (by kernel_rfl) (by kernel_rfl) (fun _ _ _ h => h) (Or.inl ⟨by rfl, ?_⟩) (by assumption) ?_
            rotate_left
            · (intro w hSw; (try dsimp only at hSw); go_simp; try with_reducible rfl)
            try simp only [Act.put, List.setIfInBounds_toArray, List.set_cons_zero, List.set_cons_succ]
            refine wpAnyH_take (i := 15) (v := ?_) (by simp only [List.getElem?_toArray, List.getElem?_cons_succ, List.getElem?_cons_zero]; rfl) (by kernel_rfl) (by kernel_rfl) (by kernel_rfl) (fun _ _ _ h => h) (Or.inl ⟨by rfl, ?_⟩) (by assumption) ?_
            rotate_left
            · (intro w hSw; (try dsimp only at hSw); go_simp; try with_reducible rfl)
            try simp only [Act.put, List.setIfInBounds_toArray, List.set_cons_zero, List.set_cons_succ]
            refine wpAnyH_take (i := 16) (v := ?_) (by simp only [List.getElem?_toArray, List.getElem?_cons_succ, List.getElem?_cons_zero]; rfl) (by kernel_rfl) (by kernel_rfl) (by kernel_rfl) (fun _ _ _ h => h) (Or.inl ⟨by rfl, ?_⟩) (by assumption) ?_
            rotate_left
            · (intro w hSw; (try dsimp only at hSw); go_simp; try with_reducible rfl)
            try simp only [Act.put, List.setIfInBounds_toArray, List.set_cons_zero, List.set_cons_succ]
            refine wpAnyH_take (i := 17) (v := ?_) (by simp only [List.getElem?_toArray, List.getElem?_cons_succ, List.getElem?_cons_zero]; rfl) (by kernel_rfl) (by kernel_rfl) (by kernel_rfl) (fun _ _ _ h => h) (Or.inl ⟨by rfl, ?_⟩) (by assumption) ?_
            rotate_left
            · (intro w hSw; (try dsimp only at hSw); go_simp; try with_reducible rfl)
            try simp only [Act.put, List.setIfInBounds_toArray, List.set_cons_zero, List.set_cons_succ]
            refine wpAnyH_take (i := 18) (v := ?_) (by simp only [List.getElem?_toArray, List.getElem?_cons_succ, List.getElem?_cons_zero]; rfl) (by kernel_rfl) (by kernel_rfl) (by kernel_rfl) (fun _ _ _ h => h) (Or.inl ⟨by rfl, ?_⟩) (by assumption) ?_
            rotate_left
            · (intro w hSw; (try dsimp only at hSw); go_simp; try with_reducible rfl)
            try simp only [Act.put, List.setIfInBounds_toArray, List.set_cons_zero, List.set_cons_succ]
            refine wpAnyH_take (i := 19) (v := ?_) (by simp only [List.getElem?_toArray, List.getElem?_cons_succ, List.getElem?_cons_zero]; rfl) (by kernel_rfl) (by kernel_rfl) (by kernel_rfl) (fun _ _ _ h => h) (Or.inl ⟨by rfl, ?_⟩) (by assumption) ?_
            rotate_left
            · (intro w hSw; (try dsimp only at hSw); go_simp; try with_reducible rfl)
            try simp only [Act.put, List.setIfInBounds_toArray, List.set_cons_zero, List.set_cons_succ]
            refine wpAnyH_take (i := 20) (v := ?_) (by simp only [List.getElem?_toArray, List.getElem?_cons_succ, List.getElem?_cons_zero]; rfl) (by kernel_rfl) (by kernel_rfl) (by kernel_rfl) (fun _ _ _ h => h) (Or.inl ⟨by rfl, ?_⟩) (by assumption) ?_
            rotate_left
            · (intro w hSw; (try dsimp only at hSw); go_simp; try with_reducible rfl)
            try simp only [Act.put, List.setIfInBounds_toArray, List.set_cons_zero, List.set_cons_succ]
            refine wpAnyH_take (i := 21) (v := ?_) (by simp only [List.getElem?_toArray, List.getElem?_cons_succ, List.getElem?_cons_zero]; rfl) (by kernel_rfl) (by kernel_rfl) (by kernel_rfl) (fun _ _ _ h => h) (Or.inl ⟨by rfl, ?_⟩) (by assumption) ?_
            rotate_left
            · (intro w hSw; (try dsimp only at hSw); go_simp; try with_reducible rfl)
            try simp only [Act.put, List.setIfInBounds_toArray, List.set_cons_zero, List.set_cons_succ]
            refine wpAnyH_take (i := 22) (v := ?_) (by simp only [List.getElem?_toArray, List.getElem?_cons_succ, List.getElem?_cons_zero]; rfl) (by kernel_rfl) (by kernel_rfl) (by kernel_rfl) (fun _ _ _ h => h) (Or.inl ⟨by rfl, ?_⟩) (by assumption) ?_
            rotate_left
            · (intro w hSw; (try dsimp only at hSw); go_simp; try with_reducible rfl)
            try simp only [Act.put, List.setIfInBounds_toArray, List.set_cons_zero, List.set_cons_succ]
            refine wpAnyH_take (i := 23) (v := ?_) (by simp only [List.getElem?_toArray, List.getElem?_cons_succ, List.getElem?_cons_zero]; rfl) (by kernel_rfl) (by kernel_rfl) (by kernel_rfl) (fun _ _ _ h => h) (Or.inl ⟨by rfl, ?_⟩) (by assumption) ?_
            rotate_left
            · (intro w hSw; (try dsimp only at hSw); go_simp; try with_reducible rfl)
            try simp only [Act.put, List.setIfInBounds_toArray, List.set_cons_zero, List.set_cons_succ]
            refine wpAnyH_take (i := 24) (v := ?_) (by simp only [List.getElem?_toArray, List.getElem?_cons_succ, List.getElem?_cons_zero]; rfl) (by kernel_rfl) (by kernel_rfl) (by kernel_rfl) (fun _ _ _ h => h) (Or.inl ⟨by rfl, ?_⟩) (by assumption) ?_
            rotate_left
            · (intro w hSw; (try dsimp only at hSw); go_simp; try with_reducible rfl)
            try simp only [Act.put, List.setIfInBounds_toArray, List.set_cons_zero, List.set_cons_succ]
            refine wpAnyH_take (i := 25) (v := ?_) (by simp only [List.getElem?_toArray, List.getElem?_cons_succ, List.getElem?_cons_zero]; rfl) (by kernel_rfl) (by kernel_rfl) (by kernel_rfl) (fun _ _ _ h => h) (Or.inl ⟨by rfl, ?_⟩) (by assumption) ?_
            rotate_left
            · (intro w hSw; (try dsimp only at hSw); go_simp; try with_reducible rfl)
            try simp only [Act.put, List.setIfInBounds_toArray, List.set_cons_zero, List.set_cons_succ]
            refine wpAnyH_take (i := 26) (v := ?_) (by simp only [List.getElem?_toArray, List.getElem?_cons_succ, List.getElem?_cons_zero]; rfl) (by kernel_rfl) (by kernel_rfl) (by kernel_rfl) (fun _ _ _ h => h) (Or.inl ⟨by rfl, ?_⟩) (by assumption) ?_
            rotate_left
            · (intro w hSw; (try dsimp only at hSw); go_simp; try with_reducible rfl)
            try simp only [Act.put, List.setIfInBounds_toArray, List.set_cons_zero, List.set_cons_succ]
            refine wpAnyH_ready (rs := [27]) (by kernel_rfl) (by simp) ?_
            refine AllReadyH.cons (by simp only [List.getElem?_toArray, List.getElem?_cons_succ, List.getElem?_cons_zero]; rfl) (fun K hK => ?_) AllReadyH.nil
            go_simp
            go_at_call 51; refine (purlinlaw6_awake.calls 400 true _ F15.out).mono ?_; rintro e8 w8 ⟨rfl, hD⟩; have hb8 : Below w6.heap.size w6 w8 := (by refine below_step ?_ hD; first | assumption | exact hHeld.2.2.2.2.2.2.2.2.2)
            go_wp2_with fail
            refine hK.out _ _ ?_ (fun hHeld => ?_)
            · (try dsimp only); first | exact HD6.out _ (by assumption) | exact HD6.out _ (below_drew (by assumption)) | exact HD6.out _ (below_drew hb6)
            clear hK K
            try simp only [Act.put, List.setIfInBounds_toArray, List.set_cons_zero, List.set_cons_succ]
            refine wpAnyH_take (i := 28) (v := ?_) (by simp only [List.getElem?_toArray, List.getElem?_cons_succ, List.getElem?_cons_zero]; rfl) (by kernel_rfl) (by kernel_rfl) (by kernel_rfl) (fun _ _ _ h => h) (Or.inl ⟨by rfl, ?_⟩) (by assumption) ?_
            rotate_left
            · (intro w hSw; (try dsimp only at hSw); go_simp; try with_reducible rfl)
            try simp only [Act.put, List.setIfInBounds_toArray, List.set_cons_zero, List.set_cons_succ]
            refine wpAnyH_take (i := 29) (v := ?_) (by simp only [List.getElem?_toArray, List.getElem?_cons_succ, List.getElem?_cons_zero]; rfl) (by kernel_rfl) (by kernel_rfl) (by kernel_rfl) (fun _ _ _ h => h) (Or.inl ⟨by rfl, ?_⟩) (by assumption) ?_
            rotate_left
            · (intro w hSw; (try dsimp only at hSw); go_simp; try with_reducible rfl)
            try simp only [Act.put, List.setIfInBounds_toArray, List.set_cons_zero, List.set_cons_succ]
            refine wpAnyH_done (by kernel_rfl) ?_ _
            refine NoPanic.normal ?_
            go_wp2
            go_ret
            exact ⟨rfl, below_step B6.out hHeld.2.2.2.2.2.2.2.2.2⟩
        · have ao : (x == x') = false := beq_eq_false_iff_ne.mpr ax; have ao2 : decide (x = x') = false := decide_eq_false ax; have ao3 : (x = x') = False := eq_false ax; have ao4 : (x != x') = true := bne_iff_ne.mpr ax
          clear G
          have hb6 := Below.refl w6.heap.size w6
          have hd6 : ∀ u : World, Below w6.heap.size w6 u → u.cell? ⟨p0, 0, none⟩ = some (.int .i64 x) ∧ u.cell? ⟨p0, 1, none⟩ = some (.int .i64 y) ∧ u.cell? ⟨p0, 2, none⟩ = some (.int .i64 z) ∧ u.cell? ⟨q0, 0, none⟩ = some (.int .i64 x') ∧ u.cell? ⟨q0, 1, none⟩ = some (.int .i64 y') ∧ u.cell? ⟨q0, 2, none⟩ = some (.int .i64 z') ∧ u.cell? ⟨r0, 0, none⟩ = some (.int .i64 x) ∧ u.cell? ⟨r0, 1, none⟩ = some (.int .i64 y) ∧ u.cell? ⟨r0, 2, none⟩ = some (.int .i64 z) ∧ Below w6.heap.size w6 u :=
            fun u hb => ⟨(K6.out.below hb).c0, (K6.out.below hb).c1, (K6.out.below hb).c2, (Q6.out.below hb).c0, (Q6.out.below hb).c1, (Q6.out.below hb).c2, (R6.out.below hb).c0, (R6.out.below hb).c1, (R6.out.below hb).c2, hb⟩
          have HD6 := Aside0.mk hd6
          have S6' := Aside0.mk S6
          have E5' := Aside0.mk E5
          clear hd6 S6 E5
          refine wp_region_noPanic ?_
          refine wp_region_held_drew (S := (fun w' => w'.cell? ⟨p0, 0, none⟩ = some (.int .i64 x) ∧ w'.cell? ⟨p0, 1, none⟩ = some (.int .i64 y) ∧ w'.cell? ⟨p0, 2, none⟩ = some (.int .i64 z) ∧ w'.cell? ⟨q0, 0, none⟩ = some (.int .i64 x') ∧ w'.cell? ⟨q0, 1, none⟩ = some (.int .i64 y') ∧ w'.cell? ⟨q0, 2, none⟩ = some (.int .i64 z') ∧ w'.cell? ⟨r0, 0, none⟩ = some (.int .i64 x) ∧ w'.cell? ⟨r0, 1, none⟩ = some (.int .i64 y) ∧ w'.cell? ⟨r0, 2, none⟩ = some (.int .i64 z) ∧ Below w6.heap.size w6 w')) (by kernel_rfl) ?_ (fun hHeld => ?_)
          · (try dsimp only); first | exact HD6.out _ (by assumption) | exact HD6.out _ (below_drew (by assumption)) | exact HD6.out _ (below_drew hb6)
          refine wpAnyH_take (i := 0) (v := ?_) (by simp only [List.getElem?_toArray, List.getElem?_cons_succ, List.getElem?_cons_zero]; rfl) (by kernel_rfl) (by kernel_rfl) (by kernel_rfl) (fun _ _ _ h => h) (Or.inl ⟨by rfl, ?_⟩) (by assumption) ?_
          rotate_left
          · (intro w hSw; (try dsimp only at hSw); go_simp; try with_reducible rfl)
          try simp only [Act.put, List.setIfInBounds_toArray, List.set_cons_zero, List.set_cons_succ]
          refine wpAnyH_take (i := 1) (v := ?_) (by simp only [List.getElem?_toArray, List.getElem?_cons_succ, List.getElem?_cons_zero]; rfl) (by kernel_rfl) (by kernel_rfl) (by kernel_rfl) (fun _ _ _ h => h) (Or.inl ⟨by rfl, ?_⟩) (by assumption) ?_
          rotate_left
          · (intro w hSw; (try dsimp only at hSw); go_simp; try with_reducible rfl)
          try simp only [Act.put, List.setIfInBounds_toArray, List.set_cons_zero, List.set_cons_succ]
          refine wpAnyH_take (i := 3) (v := ?_) (by simp only [List.getElem?_toArray, List.getElem?_cons_succ, List.getElem?_cons_zero]; rfl) (by kernel_rfl) (by kernel_rfl) (by kernel_rfl) (fun _ _ _ h => h) (Or.inl ⟨by rfl, ?_⟩) (by assumption) ?_
          rotate_left
          · (intro w hSw; (try dsimp only at hSw); go_simp; try with_reducible rfl)
          try simp only [Act.put, List.setIfInBounds_toArray, List.set_cons_zero, List.set_cons_succ]
          refine wpAnyH_take (i := 4) (v := ?_) (by simp only [List.getElem?_toArray, List.getElem?_cons_succ, List.getElem?_cons_zero]; rfl) (by kernel_rfl) (by kernel_rfl) (by kernel_rfl) (fun _ _ _ h => h) (Or.inl ⟨by rfl, ?_⟩) (by assumption) ?_
          rotate_left
          · (intro w hSw; (try dsimp only at hSw); go_simp; try with_reducible rfl)
          try simp only [Act.put, List.setIfInBounds_toArray, List.set_cons_zero, List.set_cons_succ]
          refine wpAnyH_take (i := 5) (v := ?_) (by simp only [List.getElem?_toArray, List.getElem?_cons_succ, List.getElem?_cons_zero]; rfl) (by kernel_rfl) (by kernel_rfl) (by kernel_rfl) (fun _ _ _ h => h) (Or.inl ⟨by rfl, ?_⟩) (by assumption) ?_
          rotate_left
          · (intro w hSw; (try dsimp only at hSw); go_simp; try with_reducible rfl)
          try simp only [Act.put, List.setIfInBounds_toArray, List.set_cons_zero, List.set_cons_succ]
          refine wpAnyH_ready (rs := [2]) (by kernel_rfl) (by simp) ?_
          refine AllReadyH.cons (by simp only [List.getElem?_toArray, List.getElem?_cons_succ, List.getElem?_cons_zero]; rfl) (fun K hK => ?_) AllReadyH.nil
          go_simp
          go_at_call 29; refine (purlinlaw0_SameBytes.calls 400 _ _ X _ _ Y false _ (Kd.C_below S6'.out.1 (by first | assumption | exact hHeld.2.2.2.2.2.2.2.2.2)) S6'.out.2.2.1 (Kd.C_below S6'.out.2.1 (by first | assumption | exact hHeld.2.2.2.2.2.2.2.2.2)) S6'.out.2.2.2 E5'.out).mono ?_; rintro e7 w7 ⟨rfl, hD⟩; have hb7 : Below w6.heap.size w6 w7 := (by refine below_step ?_ hD.below; first | assumption | exact hHeld.2.2.2.2.2.2.2.2.2)
          go_wp2_with fail
          refine hK.out _ _ ?_ (fun hHeld => ?_)
          · (try dsimp only); first | exact HD6.out _ (by assumption) | exact HD6.out _ (below_drew (by assumption)) | exact HD6.out _ (below_drew hb6)
          clear hK K
          try simp only [Act.put, List.setIfInBounds_toArray, List.set_cons_zero, List.set_cons_succ]
          refine wpAnyH_take (i := 6) (v := ?_) (by simp only [List.getElem?_toArray, List.getElem?_cons_succ, List.getElem?_cons_zero]; rfl) (by kernel_rfl) (by kernel_rfl) (by kernel_rfl) (fun _ _ _ h => h) (Or.inl ⟨by rfl, ?_⟩) (by assumption) ?_
          rotate_left
          · (intro w hSw; (try dsimp only at hSw); go_simp; try with_reducible rfl)
          try simp only [Act.put, List.setIfInBounds_toArray, List.set_cons_zero, List.set_cons_succ]
          refine wpAnyH_take (i := 7) (v := undef) (by simp only [List.getElem?_toArray, List.getElem?_cons_succ, List.getElem?_cons_zero]; rfl) (by kernel_rfl) (by kernel_rfl) (by kernel_rfl) (fun _ _ _ h => h) (Or.inr ⟨by rfl, rfl⟩) (by assumption) ?_
          try simp only [Act.put, List.setIfInBounds_toArray, List.set_cons_zero, List.set_cons_succ]
          refine wpAnyH_take (i := 8) (v := undef) (by simp only [List.getElem?_toArray, List.getElem?_cons_succ, List.getElem?_cons_zero]; rfl) (by kernel_rfl) (by kernel_rfl) (by kernel_rfl) (fun _ _ _ h => h) (Or.inr ⟨by rfl, rfl⟩) (by assumption) ?_
          try simp only [Act.put, List.setIfInBounds_toArray, List.set_cons_zero, List.set_cons_succ]
          refine wpAnyH_take (i := 9) (v := undef) (by simp only [List.getElem?_toArray, List.getElem?_cons_succ, List.getElem?_cons_zero]; rfl) (by kernel_rfl) (by kernel_rfl) (by kernel_rfl) (fun _ _ _ h => h) (Or.inr ⟨by rfl, rfl⟩) (by assumption) ?_
          try simp only [Act.put, List.setIfInBounds_toArray, List.set_cons_zero, List.set_cons_succ]
          refine wpAnyH_take (i := 10) (v := ?_) (by simp only [List.getElem?_toArray, List.getElem?_cons_succ, List.getElem?_cons_zero]; rfl) (by kernel_rfl) (by kernel_rfl) (by kernel_rfl) (fun _ _ _ h => h) (Or.inl ⟨by rfl, ?_⟩) (by assumption) ?_
          rotate_left
          · (intro w hSw; (try dsimp only at hSw); go_simp; try with_reducible rfl)
          try simp only [Act.put, List.setIfInBounds_toArray, List.set_cons_zero, List.set_cons_succ]
          refine wpAnyH_take (i := 11) (v := ?_) (by simp only [List.getElem?_toArray, List.getElem?_cons_succ, List.getElem?_cons_zero]; rfl) (by kernel_rfl) (by kernel_rfl) (by kernel_rfl) (fun _ _ _ h => h) (Or.inl ⟨by rfl, ?_⟩) (by assumption) ?_
          rotate_left
          · (intro w hSw; (try dsimp only at hSw); go_simp; try with_reducible rfl)
          try simp only [Act.put, List.setIfInBounds_toArray, List.set_cons_zero, List.set_cons_succ]
          refine wpAnyH_take (i := 12) (v := ?_) (by simp only [List.getElem?_toArray, List.getElem?_cons_succ, List.getElem?_cons_zero]; rfl) (by kernel_rfl) (by kernel_rfl) (by kernel_rfl) (fun _ _ _ h => h) (Or.inl ⟨by rfl, ?_⟩) (by assumption) ?_
          rotate_left
          · (intro w hSw; (try dsimp only at hSw); go_simp; try with_reducible rfl)
          try simp only [Act.put, List.setIfInBounds_toArray, List.set_cons_zero, List.set_cons_succ]
          refine wpAnyH_take (i := 13) (v := ?_) (by simp only [List.getElem?_toArray, List.getElem?_cons_succ, List.getElem?_cons_zero]; rfl) (by kernel_rfl) (by kernel_rfl) (by kernel_rfl) (fun _ _ _ h => h) (Or.inl ⟨by rfl, ?_⟩) (by assumption) ?_
          rotate_left
          · (intro w hSw; (try dsimp only at hSw); go_simp; try with_reducible rfl)
          try simp only [Act.put, List.setIfInBounds_toArray, List.set_cons_zero, List.set_cons_succ]
          refine wpAnyH_take (i := 14) (v := ?_) (by simp only [List.getElem?_toArray, List.getElem?_cons_succ, List.getElem?_cons_zero]; rfl) (by kernel_rfl) (by kernel_rfl) (by kernel_rfl) (fun _ _ _ h => h) (Or.inl ⟨by rfl, ?_⟩) (by assumption) ?_
          rotate_left
          · (intro w hSw; (try dsimp only at hSw); go_simp; try with_reducible rfl)
          try simp only [Act.put, List.setIfInBounds_toArray, List.set_cons_zero, List.set_cons_succ]
          refine wpAnyH_take (i := 15) (v := ?_) (by simp only [List.getElem?_toArray, List.getElem?_cons_succ, List.getElem?_cons_zero]; rfl) (by kernel_rfl) (by kernel_rfl) (by kernel_rfl) (fun _ _ _ h => h) (Or.inl ⟨by rfl, ?_⟩) (by assumption) ?_
          rotate_left
          · (intro w hSw; (try dsimp only at hSw); go_simp; try with_reducible rfl)
          try simp only [Act.put, List.setIfInBounds_toArray, List.set_cons_zero, List.set_cons_succ]
          refine wpAnyH_take (i := 16) (v := ?_) (by simp only [List.getElem?_toArray, List.getElem?_cons_succ, List.getElem?_cons_zero]; rfl) (by kernel_rfl) (by kernel_rfl) (by kernel_rfl) (fun _ _ _ h => h) (Or.inl ⟨by rfl, ?_⟩) (by assumption) ?_
          rotate_left
          · (intro w hSw; (try dsimp only at hSw); go_simp; try with_reducible rfl)
          try simp only [Act.put, List.setIfInBounds_toArray, List.set_cons_zero, List.set_cons_succ]
          refine wpAnyH_take (i := 17) (v := ?_) (by simp only [List.getElem?_toArray, List.getElem?_cons_succ, List.getElem?_cons_zero]; rfl) (by kernel_rfl) (by kernel_rfl) (by kernel_rfl) (fun _ _ _ h => h) (Or.inl ⟨by rfl, ?_⟩) (by assumption) ?_
          rotate_left
          · (intro w hSw; (try dsimp only at hSw); go_simp; try with_reducible rfl)
          try simp only [Act.put, List.setIfInBounds_toArray, List.set_cons_zero, List.set_cons_succ]
          refine wpAnyH_take (i := 18) (v := ?_) (by simp only [List.getElem?_toArray, List.getElem?_cons_succ, List.getElem?_cons_zero]; rfl) (by kernel_rfl) (by kernel_rfl) (by kernel_rfl) (fun _ _ _ h => h) (Or.inl ⟨by rfl, ?_⟩) (by assumption) ?_
          rotate_left
          · (intro w hSw; (try dsimp only at hSw); go_simp; try with_reducible rfl)
          try simp only [Act.put, List.setIfInBounds_toArray, List.set_cons_zero, List.set_cons_succ]
          refine wpAnyH_take (i := 19) (v := ?_) (by simp only [List.getElem?_toArray, List.getElem?_cons_succ, List.getElem?_cons_zero]; rfl) (by kernel_rfl) (by kernel_rfl) (by kernel_rfl) (fun _ _ _ h => h) (Or.inl ⟨by rfl, ?_⟩) (by assumption) ?_
          rotate_left
          · (intro w hSw; (try dsimp only at hSw); go_simp; try with_reducible rfl)
          try simp only [Act.put, List.setIfInBounds_toArray, List.set_cons_zero, List.set_cons_succ]
          refine wpAnyH_take (i := 20) (v := ?_) (by simp only [List.getElem?_toArray, List.getElem?_cons_succ, List.getElem?_cons_zero]; rfl) (by kernel_rfl) (by kernel_rfl) (by kernel_rfl) (fun _ _ _ h => h) (Or.inl ⟨by rfl, ?_⟩) (by assumption) ?_
          rotate_left
          · (intro w hSw; (try dsimp only at hSw); go_simp; try with_reducible rfl)
          try simp only [Act.put, List.setIfInBounds_toArray, List.set_cons_zero, List.set_cons_succ]
          refine wpAnyH_take (i := 21) (v := ?_) (by simp only [List.getElem?_toArray, List.getElem?_cons_succ, List.getElem?_cons_zero]; rfl) (by kernel_rfl) (by kernel_rfl) (by kernel_rfl) (fun _ _ _ h => h) (Or.inl ⟨by rfl, ?_⟩) (by assumption) ?_
          rotate_left
          · (intro w hSw; (try dsimp only at hSw); go_simp; try with_reducible rfl)
          try simp only [Act.put, List.setIfInBounds_toArray, List.set_cons_zero, List.set_cons_succ]
          refine wpAnyH_take (i := 22) (v := ?_) (by simp only [List.getElem?_toArray, List.getElem?_cons_succ, List.getElem?_cons_zero]; rfl) (by kernel_rfl) (by kernel_rfl) (by kernel_rfl) (fun _ _ _ h => h) (Or.inl ⟨by rfl, ?_⟩) (by assumption) ?_
          rotate_left
          · (intro w hSw; (try dsimp only at hSw); go_simp; try with_reducible rfl)
          try simp only [Act.put, List.setIfInBounds_toArray, List.set_cons_zero, List.set_cons_succ]
          refine wpAnyH_take (i := 23) (v := ?_) (by simp only [List.getElem?_toArray, List.getElem?_cons_succ, List.getElem?_cons_zero]; rfl) (by kernel_rfl) (by kernel_rfl) (by kernel_rfl) (fun _ _ _ h => h) (Or.inl ⟨by rfl, ?_⟩) (by assumption) ?_
          rotate_left
          · (intro w hSw; (try dsimp only at hSw); go_simp; try with_reducible rfl)
          try simp only [Act.put, List.setIfInBounds_toArray, List.set_cons_zero, List.set_cons_succ]
          refine wpAnyH_take (i := 24) (v := ?_) (by simp only [List.getElem?_toArray, List.getElem?_cons_succ, List.getElem?_cons_zero]; rfl) (by kernel_rfl) (by kernel_rfl) (by kernel_rfl) (fun _ _ _ h => h) (Or.inl ⟨by rfl, ?_⟩) (by assumption) ?_
          rotate_left
          · (intro w hSw; (try dsimp only at hSw); go_simp; try with_reducible rfl)
          try simp only [Act.put, List.setIfInBounds_toArray, List.set_cons_zero, List.set_cons_succ]
          refine wpAnyH_take (i := 25) (v := ?_) (by simp only [List.getElem?_toArray, List.getElem?_cons_succ, List.getElem?_cons_zero]; rfl) (by kernel_rfl) (by kernel_rfl) (by kernel_rfl) (fun _ _ _ h => h) (Or.inl ⟨by rfl, ?_⟩) (by assumption) ?_
          rotate_left
          · (intro w hSw; (try dsimp only at hSw); go_simp; try with_reducible rfl)
          try simp only [Act.put, List.setIfInBounds_toArray, List.set_cons_zero, List.set_cons_succ]
          refine wpAnyH_take (i := 26) (v := ?_) (by simp only [List.getElem?_toArray, List.getElem?_cons_succ, List.getElem?_cons_zero]; rfl) (by kernel_rfl) (by kernel_rfl) (by kernel_rfl) (fun _ _ _ h => h) (Or.inl ⟨by rfl, ?_⟩) (by assumption) ?_
          rotate_left
          · (intro w hSw; (try dsimp only at hSw); go_simp; try with_reducible rfl)
          try simp only [Act.put, List.setIfInBounds_toArray, List.set_cons_zero, List.set_cons_succ]
          refine wpAnyH_ready (rs := [27]) (by kernel_rfl) (by simp) ?_
          refine AllReadyH.cons (by simp only [List.getElem?_toArray, List.getElem?_cons_succ, List.getElem?_cons_zero]; rfl) (fun K hK => ?_) AllReadyH.nil
          go_simp
          go_at_call 51; refine (purlinlaw6_awake.calls 400 true _ F15.out).mono ?_; rintro e8 w8 ⟨rfl, hD⟩; have hb8 : Below w6.heap.size w6 w8 := (by refine below_step ?_ hD; first | assumption | exact hHeld.2.2.2.2.2.2.2.2.2)
          go_wp2_with fail
          refine hK.out _ _ ?_ (fun hHeld => ?_)
          · (try dsimp only); first | exact HD6.out _ (by assumption) | exact HD6.out _ (below_drew (by assumption)) | exact HD6.out _ (below_drew hb6)
          clear hK K
          try simp only [Act.put, List.setIfInBounds_toArray, List.set_cons_zero, List.set_cons_succ]
          refine wpAnyH_take (i := 28) (v := ?_) (by simp only [List.getElem?_toArray, List.getElem?_cons_succ, List.getElem?_cons_zero]; rfl) (by kernel_rfl) (by kernel_rfl) (by kernel_rfl) (fun _ _ _ h => h) (Or.inl ⟨by rfl, ?_⟩) (by assumption) ?_
          rotate_left
          · (intro w hSw; (try dsimp only at hSw); go_simp; try with_reducible rfl)
          try simp only [Act.put, List.setIfInBounds_toArray, List.set_cons_zero, List.set_cons_succ]
          refine wpAnyH_take (i := 29) (v := ?_) (by simp only [List.getElem?_toArray, List.getElem?_cons_succ, List.getElem?_cons_zero]; rfl) (by kernel_rfl) (by kernel_rfl) (by kernel_rfl) (fun _ _ _ h => h) (Or.inl ⟨by rfl, ?_⟩) (by assumption) ?_
          rotate_left
          · (intro w hSw; (try dsimp only at hSw); go_simp; try with_reducible rfl)
          try simp only [Act.put, List.setIfInBounds_toArray, List.set_cons_zero, List.set_cons_succ]
          refine wpAnyH_done (by kernel_rfl) ?_ _
          refine NoPanic.normal ?_
          go_wp2
          go_ret
          exact ⟨rfl, below_step B6.out hHeld.2.2.2.2.2.2.2.2.2⟩
    · rw [if_pos g1] at hX
      rw [if_neg g2] at hY
      obtain ⟨rfl, rfl⟩ := Prod.mk.inj hX
      obtain ⟨rfl, rfl⟩ := Prod.mk.inj hY
      clear hX hY
      go_enter Try.func14, Try.ntmps14
      go_wp2_with (first | ((with_reducible refine gate_dst (N := 4) rfl ?_); refine box_event ?hg (N := 4) ?hd (cs := #[.int .i64 x, .int .i64 y, .int .i64 z]) (t := 57) ?hr ?_; (case hd => rfl); (case hg => rfl); (case hr => first | (go_simp; done) | (go_simp; rfl)); intro p0 hg w0 hbox hb; have B0 := Aside0.mk (below_step HB0.out hb); have K0 := Aside0.mk (show HG3 w0 p0 x y z from hbox); clear hg hbox hb HB0) | ((with_reducible refine gate_dst (N := 5) rfl ?_); refine box_event ?hg (N := 5) ?hd (cs := #[.int .i64 x', .int .i64 y', .int .i64 z']) (t := 57) ?hr ?_; (case hd => rfl); (case hg => rfl); (case hr => first | (go_simp; done) | (go_simp; rfl)); intro q0 hg w1 hbox hb; have Q1 := Aside0.mk (show HG3 w1 q0 x' y' z' from hbox); have K1 := Aside0.mk (K0.out.below hb); have k0 := K1.out.c0; have k1 := K1.out.c1; have k2 := K1.out.c2; have B1 := Aside0.mk (below_step B0.out hb); clear hg hbox hb B0))
      refine (super_Lay.calls 400 x y z o (sealZ 83 (superZ x y z o)) 0 w1 F1.out).mono ?_
      rintro e2 w2 ⟨vx, rfl, hx, hB⟩
      obtain ⟨Ax, cx, rfl⟩ := Kd.R_slice hx
      have B2 := Aside0.mk (below_step B1.out hB)
      have Q2 := Aside0.mk (Q1.out.below hB)
      clear hx hB k0 k1 k2 K1 Q1
      have k0 := Q2.out.c0
      have k1 := Q2.out.c1
      have k2 := Q2.out.c2
      go_wp2_with fail
      refine (super_Lay.calls 400 x' y' z' o' [] 2 w2 F2.out).mono ?_
      rintro e3 w3 ⟨vy, rfl, hy, hB⟩
      obtain ⟨Ay, cy, rfl⟩ := Kd.R_slice hy
      have B3 := Aside0.mk (below_step B2.out hB)
      clear hy hB
      go_wp2_with fail
      refine (purlinlaw6_awake.calls 400 true w3 F15.out).mono ?_
      rintro e4 w4 ⟨rfl, hD⟩
      go_wp2
      go_ret
      exact ⟨rfl, below_step B3.out hD⟩
  · by_cases g2 : geomZ x' y' z' = true
    · rw [if_neg g1] at hX
      rw [if_pos g2] at hY
      obtain ⟨rfl, rfl⟩ := Prod.mk.inj hX
      obtain ⟨rfl, rfl⟩ := Prod.mk.inj hY
      clear hX hY
      go_enter Try.func14, Try.ntmps14
      go_wp2_with (first | ((with_reducible refine gate_dst (N := 4) rfl ?_); refine box_event ?hg (N := 4) ?hd (cs := #[.int .i64 x, .int .i64 y, .int .i64 z]) (t := 57) ?hr ?_; (case hd => rfl); (case hg => rfl); (case hr => first | (go_simp; done) | (go_simp; rfl)); intro p0 hg w0 hbox hb; have B0 := Aside0.mk (below_step HB0.out hb); have K0 := Aside0.mk (show HG3 w0 p0 x y z from hbox); clear hg hbox hb HB0) | ((with_reducible refine gate_dst (N := 5) rfl ?_); refine box_event ?hg (N := 5) ?hd (cs := #[.int .i64 x', .int .i64 y', .int .i64 z']) (t := 57) ?hr ?_; (case hd => rfl); (case hg => rfl); (case hr => first | (go_simp; done) | (go_simp; rfl)); intro q0 hg w1 hbox hb; have Q1 := Aside0.mk (show HG3 w1 q0 x' y' z' from hbox); have K1 := Aside0.mk (K0.out.below hb); have k0 := K1.out.c0; have k1 := K1.out.c1; have k2 := K1.out.c2; have B1 := Aside0.mk (below_step B0.out hb); clear hg hbox hb B0))
      refine (super_Lay.calls 400 x y z o [] 2 w1 F1.out).mono ?_
      rintro e2 w2 ⟨vx, rfl, hx, hB⟩
      obtain ⟨Ax, cx, rfl⟩ := Kd.R_slice hx
      have B2 := Aside0.mk (below_step B1.out hB)
      have Q2 := Aside0.mk (Q1.out.below hB)
      clear hx hB k0 k1 k2 K1 Q1
      have k0 := Q2.out.c0
      have k1 := Q2.out.c1
      have k2 := Q2.out.c2
      go_wp2_with fail
      refine (super_Lay.calls 400 x' y' z' o' (sealZ 83 (superZ x' y' z' o')) 0 w2 F2.out).mono ?_
      rintro e3 w3 ⟨vy, rfl, hy, hB⟩
      obtain ⟨Ay, cy, rfl⟩ := Kd.R_slice hy
      have B3 := Aside0.mk (below_step B2.out hB)
      clear hy hB
      go_wp2_with fail
      refine (purlinlaw6_awake.calls 400 true w3 F15.out).mono ?_
      rintro e4 w4 ⟨rfl, hD⟩
      go_wp2
      go_ret
      exact ⟨rfl, below_step B3.out hD⟩
    · rw [if_neg g1] at hX
      rw [if_neg g2] at hY
      obtain ⟨rfl, rfl⟩ := Prod.mk.inj hX
      obtain ⟨rfl, rfl⟩ := Prod.mk.inj hY
      clear hX hY
      go_enter Try.func14, Try.ntmps14
      go_wp2_with (first | ((with_reducible refine gate_dst (N := 4) rfl ?_); refine box_event ?hg (N := 4) ?hd (cs := #[.int .i64 x, .int .i64 y, .int .i64 z]) (t := 57) ?hr ?_; (case hd => rfl); (case hg => rfl); (case hr => first | (go_simp; done) | (go_simp; rfl)); intro p0 hg w0 hbox hb; have B0 := Aside0.mk (below_step HB0.out hb); have K0 := Aside0.mk (show HG3 w0 p0 x y z from hbox); clear hg hbox hb HB0) | ((with_reducible refine gate_dst (N := 5) rfl ?_); refine box_event ?hg (N := 5) ?hd (cs := #[.int .i64 x', .int .i64 y', .int .i64 z']) (t := 57) ?hr ?_; (case hd => rfl); (case hg => rfl); (case hr => first | (go_simp; done) | (go_simp; rfl)); intro q0 hg w1 hbox hb; have Q1 := Aside0.mk (show HG3 w1 q0 x' y' z' from hbox); have K1 := Aside0.mk (K0.out.below hb); have k0 := K1.out.c0; have k1 := K1.out.c1; have k2 := K1.out.c2; have B1 := Aside0.mk (below_step B0.out hb); clear hg hbox hb B0))
      refine (super_Lay.calls 400 x y z o [] 2 w1 F1.out).mono ?_
      rintro e2 w2 ⟨vx, rfl, hx, hB⟩
      obtain ⟨Ax, cx, rfl⟩ := Kd.R_slice hx
      have B2 := Aside0.mk (below_step B1.out hB)
      have Q2 := Aside0.mk (Q1.out.below hB)
      clear hx hB k0 k1 k2 K1 Q1
      have k0 := Q2.out.c0
      have k1 := Q2.out.c1
      have k2 := Q2.out.c2
      go_wp2_with fail
      refine (super_Lay.calls 400 x' y' z' o' [] 2 w2 F2.out).mono ?_
      rintro e3 w3 ⟨vy, rfl, hy, hB⟩
      obtain ⟨Ay, cy, rfl⟩ := Kd.R_slice hy
      have B3 := Aside0.mk (below_step B2.out hB)
      clear hy hB
      go_wp2_with fail
      refine (purlinlaw6_awake.calls 400 true w3 F15.out).mono ?_
      rintro e4 w4 ⟨rfl, hD⟩
      go_wp2
      go_ret
      exact ⟨rfl, below_step B3.out hD⟩
theorem purlinlaw6_SuperApart.walk (x y z x' y' z' : Int) (o o' : Bool) (w : World) :
    Calls Try.prog 14 #[.agg #[.int .i64 x, .int .i64 y, .int .i64 z], .agg #[.int .i64 x', .int .i64 y', .int .i64 z'], .bool o, .bool o'] w fun e w' => e = .returned (.bool true) ∧ Below w.heap.size w w' := purlinlaw6_SuperApart.calls x y z x' y' z' o o' w
end Go.Proofs.Ytnhpmmmkcemnmaa.Pc
