/- The walk of InodeSlots, by hand: it answers true whatever it is given. -/
import Derived.Test.YtnhpmmmkcemnmaaHt
import Derived.Test.YtnhpmmmkcemnmaaQk
import Derived.Test.YtnhpmmmkcemnmaaPcx5
namespace Go.Proofs.Ytnhpmmmkcemnmaa.Pc
open Go.RowKit Go.Proofs.YtnhpmmmkcemnmaaW.PrintWords Go.Proofs.YtnhpmmmkcemnmaaW.PrintLast Go.Proofs.YtnhpmmmkcemnmaaW.PrintMore
set_option linter.unusedVariables false
set_option linter.unusedSimpArgs false

theorem R_C' {w : World} {base : Nat} {ok : Nat → Prop} {A : Option Addr} {n c : Nat} {xs : List Int} (h : Kd.R (Kd.int .u8) 5 w base ok (.slice A n c) xs) : Kd.C (Kd.int .u8) w A xs.length xs ∧ xs.length ≤ c := by
  obtain ⟨hn, hc, hC⟩ := Kd.R_reads' h
  subst hn
  exact ⟨hC, hc⟩
theorem Low_at4 (x : Int) : ∃ q : Nat, q < 4 ∧ purlinlaw0_Low.f x 4 = some (q : Int) := by
  obtain ⟨r, h, h0, h1⟩ := Low_is x 4 (by omega) (by omega)
  exact ⟨r.toNat, by omega, by rw [h, Int.toNat_of_nonneg h0]⟩
set_option maxHeartbeats 12800000 in
set_option maxRecDepth 100000 in
theorem purlinlaw7_InodeSlots.calls (is i : List Int) (at_ : Int) (w : World) (hl : is.length = 44) (hi : i.length = 11) :
    Calls Try.prog 22 #[.agg (nums .i64 is).toArray, .agg (nums .i64 i).toArray, .int .i64 at_] w fun e w' => e = .returned (.bool true) ∧ Below w.heap.size w w' := by
  have HL := Aside0.mk hl
  have HI := Aside0.mk hi
  have HB0 := Aside0.mk (Below.refl w.heap.size w)
  obtain ⟨q, hq, hlow⟩ := Low_at4 at_
  have HQ := Aside0.mk hq
  have FL := Aside0.mk hlow
  obtain ⟨now, hnow⟩ : ∃ now, now = putI is q i := ⟨_, rfl⟩
  have HNOW := Aside0.mk hnow
  have HNL := Aside0.mk (show now.length = 44 from by rw [hnow]; exact putI_len hl hi hq)
  by_cases h1 : okTo is 4 = true
  · by_cases h2 : okTo now 4 = true
    · have hinj := layI_inj HL.out HNL.out h1 h2
      have hst := slots_stay hl hi hq
      rw [← hnow] at hst
      have he := putI_eq hl hi hq
      rw [← hnow] at he
      have HCL := Aside0.mk (show ((is.drop (q * 11)).take 11).length = 11 from by rw [Nat.mul_comm]; exact chunk_len hl q hq)
      have hch : (is.drop (q * 11)).take 11 = chunk is q := by rw [Nat.mul_comm]; rfl
      obtain ⟨X, hX⟩ : ∃ X, X = sealZ 73 (bodyTo is 4) := ⟨_, rfl⟩
      have HLP := Aside0.mk (show layIZ is = (X, 0) from by rw [layIZ, if_pos h1, hX])
      have HXL := Aside0.mk (show X.length = 128 from by rw [hX]; exact sealI_len HL.out)
      obtain ⟨Z, hZ⟩ : ∃ Z, Z = sealZ 73 (bodyTo now 4) := ⟨_, rfl⟩
      have HLQ := Aside0.mk (show layIZ now = (Z, 0) from by rw [layIZ, if_pos h2, hZ])
      have HZL := Aside0.mk (show Z.length = 128 from by rw [hZ]; exact sealI_len HNL.out)
      rw [← hX, ← hZ] at hinj hst
      have STAY := Aside0.mk hst
      have F50 := same_is X Z (by rw [HXL.out]; omega) 400 (by rw [HXL.out]; omega)
      rw [hinj, he, ← hch] at F50
      clear hX hZ hinj h1 h2 hst he hch hl hi hq hlow hnow
      cases hsm : ((is.drop (q * 11)).take 11 == i) with
      | true =>
        rw [hsm] at F50
        have F5 := Aside0.mk F50
        have HSM := Aside0.mk hsm
        clear F50 hsm
        go_enter Try.func22, Try.ntmps22
        go_wp2_with (first | ((with_reducible refine gate_dst (N := 3) rfl ?_); refine box_event ?hg3 (N := 3) ?hd3 (cs := (nums .i64 is).toArray) (t := 74) ?hr3 ?_; (case hd3 => rfl); (case hg3 => rfl); (case hr3 => first | (go_simp; done) | (go_simp; rfl)); intro g3 hg w0a hbox hb; have Ba := Aside0.mk (below_step HB0.out hb); have Ka := Aside0.mk (show HA w0a g3 74 .i64 is from hbox); clear hg hbox hb) | ((with_reducible refine gate_dst (N := 4) rfl ?_); refine box_event ?hg4 (N := 4) ?hd4 (cs := (nums .i64 i).toArray) (t := 73) ?hr4 ?_; (case hd4 => rfl); (case hg4 => rfl); (case hr4 => first | (go_simp; done) | (go_simp; rfl)); intro g4 hg w0 hbox hb; have B0 := Aside0.mk (below_step Ba.out hb); have KI0 := Aside0.mk (show HA w0 g4 73 .i64 i from hbox); have KS0 := Aside0.mk (Ka.out.below hb); clear hg hbox hb))
        refine (purlinlaw0_Low.calls at_ 4 (q : Int) w0 FL.out).mono ?_
        rintro e1 w1 ⟨rfl, hB⟩
        have B1 := Aside0.mk (below_step B0.out hB)
        have KI1 := Aside0.mk (KI0.out.below hB)
        have KS1 := Aside0.mk (KS0.out.below hB)
        clear hB
        have q0 : (0 : Int) ≤ (q : Int) := by omega
        have q1 : (q : Int) < 4 := by have := HQ.out; omega
        go_wp2_with (first | ((with_reducible refine gate_dst (N := 16) rfl ?_); (try (refine gate_guard (by rfl) ?_; dsimp only)); refine load_row_event rfl _ rfl KS1.out rfl (by rw [HL.out]; exact row74) ?_) | ((with_reducible refine gate_dst (N := 7) rfl ?_); refine box_event ?hg7 (N := 7) ?hd7 (cs := (nums .i64 zero44).toArray) (t := 74) ?hr7 ?_; (case hd7 => rfl); (case hg7 => rfl); (case hr7 => first | (go_simp; done) | (go_simp; rfl)); intro g7 hg w2 hbox hb; have B2 := Aside0.mk (below_step B1.out hb); have K7 := Aside0.mk (show HA w2 g7 74 .i64 zero44 from hbox); have KI2 := Aside0.mk (KI1.out.below hb); have KS2 := Aside0.mk (KS1.out.below hb); have G7 := Aside0.mk (show w1.heap.size ≤ g7 from by omega); have N37 := Aside0.mk (show some g3 ≠ some g7 from by have := KS1.out.lt; intro h; injection h with h; omega); have N47 := Aside0.mk (show some g4 ≠ some g7 from by have := KI1.out.lt; intro h; injection h with h; omega); clear hg hbox hb) | ((with_reducible refine gate_store (t := 74) (p := 7) rfl ?_); refine store_row_event (w0 := w) rfl rfl 7 _ rfl (new := is) K7.out rfl rfl (by rw [HL.out]; exact row74) HL.out.symm (by have := G7.out; have := B1.out.size; omega) B2.out ?_; intro w3 hk hgr hb; have K73 := Aside0.mk (show HA w3 g7 74 .i64 is from hk); have B3 := Aside0.mk hb; have KI3 := Aside0.mk (KI2.out.grown hgr N47.out); have KS3 := Aside0.mk (KS2.out.grown hgr N37.out); clear hk hgr hb) | ((with_reducible refine gate_dst (N := 18) rfl ?_); (try (refine gate_guard (by rfl) ?_; dsimp only)); refine load_row_event rfl _ rfl KI3.out rfl (by rw [HI.out]; exact row73) ?_) | ((with_reducible refine gate_store (t := 73) (p := 19) rfl ?_); refine store_mid_event (w0 := w) (lo := q * 11) rfl rfl 19 _ rfl (new := i) K73.out rfl rfl row73 HI.out (by rw [HL.out]; have := HQ.out; omega) (by have := G7.out; have := B1.out.size; omega) B3.out ?_; intro w4 hk hgr hb; have K74 := Aside0.mk (show HA w4 g7 74 .i64 now from by rw [Nat.mul_comm q 11] at hk; rw [HNOW.out]; exact hk); have B4 := Aside0.mk hb; have KI4 := Aside0.mk (KI3.out.grown hgr N47.out); have KS4 := Aside0.mk (KS3.out.grown hgr N37.out); clear hk hgr hb) | ((with_reducible refine gate_dst (N := 21) rfl ?_); (try (refine gate_guard (by rfl) ?_; dsimp only)); refine load_row_event rfl _ rfl KS4.out rfl (by rw [HL.out]; exact row74) ?_))
        refine (inode_Lay.calls is HL.out w4).mono ?_
        rintro e5 w5 ⟨vx, rfl, hx, hB⟩
        rw [HLP.out] at hx
        rw [HLP.out]
        have HX5 := Aside0.mk (Kd.R_bound hx)
        have B5 := Aside0.mk (below_step B4.out hB)
        have KI5 := Aside0.mk (KI4.out.below hB)
        have KS5 := Aside0.mk (KS4.out.below hB)
        have K75 := Aside0.mk (K74.out.below hB)
        clear hx hB
        go_wp2_with (first | ((with_reducible refine gate_dst (N := 26) rfl ?_); (try (refine gate_guard (by rfl) ?_; dsimp only)); refine load_row_event rfl _ rfl K75.out rfl (by rw [HNL.out]; exact row74) ?_))
        refine (inode_Lay.calls now HNL.out w5).mono ?_
        rintro e6 w6 ⟨vy, rfl, hy, hB⟩
        rw [HLQ.out] at hy
        rw [HLQ.out]
        have HY6 := Aside0.mk (Kd.R_bound hy)
        have HX6 := Aside0.mk (Kd.R_below HX5.out hB)
        have B6 := Aside0.mk (below_step B5.out hB)
        have KI6 := Aside0.mk (KI5.out.below hB)
        have KS6 := Aside0.mk (KS5.out.below hB)
        clear hy hB
        obtain ⟨gx, cx, hvx, hgx, _, hcx, hcellx⟩ := R_at HX6.out (by rw [HXL.out]; omega)
        obtain ⟨gy, cy, hvy, hgy, _, hcy, hcelly⟩ := R_at HY6.out (by rw [HZL.out]; omega)
        subst hvx
        subst hvy
        rw [HXL.out] at hcx hcellx
        rw [HZL.out] at hcy hcelly
        have GX := Aside0.mk hgx
        have GY := Aside0.mk hgy
        have HCX := Aside0.mk hcellx
        have HCY := Aside0.mk hcelly
        have HXC := Aside0.mk (R_C' HX6.out).1
        have HXC2 := Aside0.mk (R_C' HX6.out).2
        have HYC := Aside0.mk (R_C' HY6.out).1
        have HYC2 := Aside0.mk (R_C' HY6.out).2
        rw [HXL.out, HZL.out]
        clear hgx hgy hcx hcy hcellx hcelly
        go_wp2
        go_loopg [12] 124 (fun gk v12 w' => ∃ k : Nat, v12 = .int .i64 (k : Int) ∧ Aside0 (k + gk = 124) ∧ Aside0 (Below w6.heap.size w6 w'))
        case atStart => exact ⟨0, rfl, ⟨rfl⟩, ⟨Below.refl _ _⟩⟩
        case round =>
          obtain ⟨k, rfl, HK, HBl⟩ := hrel
          have hk := HK.out
          cases gk with
          | zero =>
            obtain rfl : k = 124 := by omega
            have d1 : decide (((124 : Nat) : Int) < 124) = false := by decide
            clear hk
            go_wp2
            refine wp_region_noPanic ?_
            refine wp_region_held_drew (S := (fun w' => Below w6.heap.size w6 w')) (by kernel_rfl) ?_ (fun hHeld => ?_)
            · (try dsimp only); exact below_drew HBl.out
            refine wpAnyH_take (i := 0) (v := ?_) (by simp only [List.getElem?_toArray, List.getElem?_cons_succ, List.getElem?_cons_zero]; rfl) (by kernel_rfl) (by kernel_rfl) (by kernel_rfl) (fun _ _ _ h => h) (Or.inl ⟨by rfl, ?_⟩) (by assumption) ?_
            rotate_left
            · (intro wS hSw; (try dsimp only at hSw); go_simp; try with_reducible rfl)
            try simp only [Act.put, List.setIfInBounds_toArray, List.set_cons_zero, List.set_cons_succ]
            refine wpAnyH_take (i := 1) (v := ?_) (by simp only [List.getElem?_toArray, List.getElem?_cons_succ, List.getElem?_cons_zero]; rfl) (by kernel_rfl) (by kernel_rfl) (by kernel_rfl) (fun _ _ _ h => h) (Or.inl ⟨by rfl, ?_⟩) (by assumption) ?_
            rotate_left
            · (intro wS hSw; (try dsimp only at hSw); go_simp; try with_reducible rfl)
            try simp only [Act.put, List.setIfInBounds_toArray, List.set_cons_zero, List.set_cons_succ]
            refine wpAnyH_take (i := 3) (v := ?_) (by simp only [List.getElem?_toArray, List.getElem?_cons_succ, List.getElem?_cons_zero]; rfl) (by kernel_rfl) (by kernel_rfl) (by kernel_rfl) (fun _ _ _ h => h) (Or.inl ⟨by rfl, ?_⟩) (by assumption) ?_
            rotate_left
            · (intro wS hSw; (try dsimp only at hSw); go_simp; try with_reducible rfl)
            try simp only [Act.put, List.setIfInBounds_toArray, List.set_cons_zero, List.set_cons_succ]
            refine wpAnyH_take (i := 4) (v := ?_) (by simp only [List.getElem?_toArray, List.getElem?_cons_succ, List.getElem?_cons_zero]; rfl) (by kernel_rfl) (by kernel_rfl) (by kernel_rfl) (fun _ _ _ h => h) (Or.inl ⟨by rfl, ?_⟩) (by assumption) ?_
            rotate_left
            · (intro wS hSw; (try dsimp only at hSw); go_simp; try with_reducible rfl)
            try simp only [Act.put, List.setIfInBounds_toArray, List.set_cons_zero, List.set_cons_succ]
            refine wpAnyH_take (i := 5) (v := .agg (nums .i64 ((is.drop (q * 11)).take 11)).toArray) (by simp only [List.getElem?_toArray, List.getElem?_cons_succ, List.getElem?_cons_zero]; rfl) (by kernel_rfl) (by kernel_rfl) (by kernel_rfl) (fun _ _ _ h => h) (Or.inl ⟨by rfl, ?_⟩) (by assumption) ?_
            · (intro wS hSw; (try dsimp only at hSw); exact load_mid_exec (by rfl) (KS6.out.below0 hSw KS6.out.lt) (by rfl) row73 (by rw [HL.out]; have := HQ.out; omega))
            try simp only [Act.put, List.setIfInBounds_toArray, List.set_cons_zero, List.set_cons_succ]
            refine wpAnyH_take (i := 6) (v := .agg (nums .i64 i).toArray) (by simp only [List.getElem?_toArray, List.getElem?_cons_succ, List.getElem?_cons_zero]; rfl) (by kernel_rfl) (by kernel_rfl) (by kernel_rfl) (fun _ _ _ h => h) (Or.inl ⟨by rfl, ?_⟩) (by assumption) ?_
            · (intro wS hSw; (try dsimp only at hSw); exact load_row_exec (by rfl) (KI6.out.below0 hSw KI6.out.lt) (by rfl) (by rw [HI.out]; exact row73))
            try simp only [Act.put, List.setIfInBounds_toArray, List.set_cons_zero, List.set_cons_succ]
            refine wpAnyH_take (i := 7) (v := .bool true) (by simp only [List.getElem?_toArray, List.getElem?_cons_succ, List.getElem?_cons_zero]; rfl) (by kernel_rfl) (by kernel_rfl) (by kernel_rfl) (fun _ _ _ h => h) (Or.inl ⟨by rfl, ?_⟩) (by assumption) ?_
            · (intro wS hSw; (try dsimp only at hSw); exact eq_row_exec (by rfl) eqrow73 ((is.drop (q * 11)).take 11) i HCL.out HI.out true HSM.out (by rfl) (by rfl))
            try simp only [Act.put, List.setIfInBounds_toArray, List.set_cons_zero, List.set_cons_succ]
            refine wpAnyH_ready (rs := [2]) (by kernel_rfl) (by simp) ?_
            refine AllReadyH.cons (by simp only [List.getElem?_toArray, List.getElem?_cons_succ, List.getElem?_cons_zero]; rfl) (fun K hK => ?_) AllReadyH.nil
            go_simp
            have hsm := purlinlaw0_SameBytes.calls 400 _ _ X _ _ Z true _ (Kd.C_below HXC.out hHeld) HXC2.out (Kd.C_below HYC.out hHeld) HYC2.out F5.out
            rw [HXL.out, HZL.out] at hsm
            refine hsm.mono ?_
            clear hsm
            rintro e9 w9 ⟨rfl, hD⟩
            have B9 := Aside0.mk (below_step hHeld hD.below)
            clear hD
            go_wp2_with fail
            refine hK.out _ _ ?_ (fun hHeld => ?_)
            · (try dsimp only); exact B9.out
            clear hK K
            try simp only [Act.put, List.setIfInBounds_toArray, List.set_cons_zero, List.set_cons_succ]
            refine wpAnyH_take (i := 8) (v := ?_) (by simp only [List.getElem?_toArray, List.getElem?_cons_succ, List.getElem?_cons_zero]; rfl) (by kernel_rfl) (by kernel_rfl) (by kernel_rfl) (fun _ _ _ h => h) (Or.inl ⟨by rfl, ?_⟩) (by assumption) ?_
            rotate_left
            · (intro wS hSw; (try dsimp only at hSw); go_simp; try with_reducible rfl)
            try simp only [Act.put, List.setIfInBounds_toArray, List.set_cons_zero, List.set_cons_succ]
            refine wpAnyH_take (i := 9) (v := ?_) (by simp only [List.getElem?_toArray, List.getElem?_cons_succ, List.getElem?_cons_zero]; rfl) (by kernel_rfl) (by kernel_rfl) (by kernel_rfl) (fun _ _ _ h => h) (Or.inl ⟨by rfl, ?_⟩) (by assumption) ?_
            rotate_left
            · (intro wS hSw; (try dsimp only at hSw); go_simp; try with_reducible rfl)
            try simp only [Act.put, List.setIfInBounds_toArray, List.set_cons_zero, List.set_cons_succ]
            refine wpAnyH_ready (rs := [10]) (by kernel_rfl) (by simp) ?_
            refine AllReadyH.cons (by simp only [List.getElem?_toArray, List.getElem?_cons_succ, List.getElem?_cons_zero]; rfl) (fun K hK => ?_) AllReadyH.nil
            go_simp
            refine (purlinlaw7_awake.calls _).mono ?_
            rintro e10 w10 ⟨rfl, hB⟩
            have B10 := Aside0.mk (below_step hHeld hB)
            clear hB
            go_wp2_with fail
            refine hK.out _ _ ?_ (fun hHeld => ?_)
            · (try dsimp only); exact B10.out
            clear hK K
            try simp only [Act.put, List.setIfInBounds_toArray, List.set_cons_zero, List.set_cons_succ]
            refine wpAnyH_take (i := 11) (v := ?_) (by simp only [List.getElem?_toArray, List.getElem?_cons_succ, List.getElem?_cons_zero]; rfl) (by kernel_rfl) (by kernel_rfl) (by kernel_rfl) (fun _ _ _ h => h) (Or.inl ⟨by rfl, ?_⟩) (by assumption) ?_
            rotate_left
            · (intro wS hSw; (try dsimp only at hSw); go_simp; try with_reducible rfl)
            try simp only [Act.put, List.setIfInBounds_toArray, List.set_cons_zero, List.set_cons_succ]
            refine wpAnyH_take (i := 12) (v := ?_) (by simp only [List.getElem?_toArray, List.getElem?_cons_succ, List.getElem?_cons_zero]; rfl) (by kernel_rfl) (by kernel_rfl) (by kernel_rfl) (fun _ _ _ h => h) (Or.inl ⟨by rfl, ?_⟩) (by assumption) ?_
            rotate_left
            · (intro wS hSw; (try dsimp only at hSw); go_simp; try with_reducible rfl)
            try simp only [Act.put, List.setIfInBounds_toArray, List.set_cons_zero, List.set_cons_succ]
            refine wpAnyH_done (by kernel_rfl) ?_ _
            refine NoPanic.normal ?_
            go_wp2
            go_ret
            exact ⟨rfl, below_step B6.out hHeld⟩
          | succ m =>
            have d1 : decide ((k : Int) < 124) = true := decide_eq_true (by omega)
            have d2 : (k : Int) < 124 := by omega
            have d3 : (0 : Int) ≤ (k : Int) := by omega
            have d4 : (k : Int) < 128 := by omega
            have HKL := Aside0.mk (show k < 124 from by omega)
            by_cases h1 : 1 + 23 * q ≤ k
            · by_cases h2 : k < 1 + 23 * (q + 1)
              · have e1 : decide (1 + 23 * (q : Int) ≤ (k : Int)) = true := decide_eq_true (by omega)
                have e2 : decide ((k : Int) < 1 + 23 * ((q : Int) + 1)) = true := decide_eq_true (by omega)
                clear h1 h2 hk
                go_wp2
                refine wp_region_noPanic ?_
                refine wp_region_held_drew (S := (fun w' => Below w6.heap.size w6 w')) (by kernel_rfl) ?_ (fun hHeld => ?_)
                · (try dsimp only); exact below_drew HBl.out
                refine wpAnyH_take (i := 0) (v := ?_) (by simp only [List.getElem?_toArray, List.getElem?_cons_succ, List.getElem?_cons_zero]; rfl) (by kernel_rfl) (by kernel_rfl) (by kernel_rfl) (fun _ _ _ h => h) (Or.inl ⟨by rfl, ?_⟩) (by assumption) ?_
                rotate_left
                · (intro wS hSw; (try dsimp only at hSw); go_simp; try with_reducible rfl)
                try simp only [Act.put, List.setIfInBounds_toArray, List.set_cons_zero, List.set_cons_succ]
                refine wpAnyH_take (i := 1) (v := ?_) (by simp only [List.getElem?_toArray, List.getElem?_cons_succ, List.getElem?_cons_zero]; rfl) (by kernel_rfl) (by kernel_rfl) (by kernel_rfl) (fun _ _ _ h => h) (Or.inl ⟨by rfl, ?_⟩) (by assumption) ?_
                rotate_left
                · (intro wS hSw; (try dsimp only at hSw); go_simp; try with_reducible rfl)
                try simp only [Act.put, List.setIfInBounds_toArray, List.set_cons_zero, List.set_cons_succ]
                refine wpAnyH_take (i := 2) (v := ?_) (by simp only [List.getElem?_toArray, List.getElem?_cons_succ, List.getElem?_cons_zero]; rfl) (by kernel_rfl) (by kernel_rfl) (by kernel_rfl) (fun _ _ _ h => h) (Or.inl ⟨by rfl, ?_⟩) (by assumption) ?_
                rotate_left
                · (intro wS hSw; (try dsimp only at hSw); go_simp; try with_reducible rfl)
                try simp only [Act.put, List.setIfInBounds_toArray, List.set_cons_zero, List.set_cons_succ]
                refine wpAnyH_take (i := 3) (v := undef) (by simp only [List.getElem?_toArray, List.getElem?_cons_succ, List.getElem?_cons_zero]; rfl) (by kernel_rfl) (by kernel_rfl) (by kernel_rfl) (fun _ _ _ h => h) (Or.inr ⟨by rfl, rfl⟩) (by assumption) ?_
                try simp only [Act.put, List.setIfInBounds_toArray, List.set_cons_zero, List.set_cons_succ]
                refine wpAnyH_take (i := 4) (v := undef) (by simp only [List.getElem?_toArray, List.getElem?_cons_succ, List.getElem?_cons_zero]; rfl) (by kernel_rfl) (by kernel_rfl) (by kernel_rfl) (fun _ _ _ h => h) (Or.inr ⟨by rfl, rfl⟩) (by assumption) ?_
                try simp only [Act.put, List.setIfInBounds_toArray, List.set_cons_zero, List.set_cons_succ]
                refine wpAnyH_take (i := 5) (v := undef) (by simp only [List.getElem?_toArray, List.getElem?_cons_succ, List.getElem?_cons_zero]; rfl) (by kernel_rfl) (by kernel_rfl) (by kernel_rfl) (fun _ _ _ h => h) (Or.inr ⟨by rfl, rfl⟩) (by assumption) ?_
                try simp only [Act.put, List.setIfInBounds_toArray, List.set_cons_zero, List.set_cons_succ]
                refine wpAnyH_take (i := 6) (v := undef) (by simp only [List.getElem?_toArray, List.getElem?_cons_succ, List.getElem?_cons_zero]; rfl) (by kernel_rfl) (by kernel_rfl) (by kernel_rfl) (fun _ _ _ h => h) (Or.inr ⟨by rfl, rfl⟩) (by assumption) ?_
                try simp only [Act.put, List.setIfInBounds_toArray, List.set_cons_zero, List.set_cons_succ]
                refine wpAnyH_take (i := 7) (v := undef) (by simp only [List.getElem?_toArray, List.getElem?_cons_succ, List.getElem?_cons_zero]; rfl) (by kernel_rfl) (by kernel_rfl) (by kernel_rfl) (fun _ _ _ h => h) (Or.inr ⟨by rfl, rfl⟩) (by assumption) ?_
                try simp only [Act.put, List.setIfInBounds_toArray, List.set_cons_zero, List.set_cons_succ]
                refine wpAnyH_take (i := 8) (v := undef) (by simp only [List.getElem?_toArray, List.getElem?_cons_succ, List.getElem?_cons_zero]; rfl) (by kernel_rfl) (by kernel_rfl) (by kernel_rfl) (fun _ _ _ h => h) (Or.inr ⟨by rfl, rfl⟩) (by assumption) ?_
                try simp only [Act.put, List.setIfInBounds_toArray, List.set_cons_zero, List.set_cons_succ]
                refine wpAnyH_take (i := 9) (v := undef) (by simp only [List.getElem?_toArray, List.getElem?_cons_succ, List.getElem?_cons_zero]; rfl) (by kernel_rfl) (by kernel_rfl) (by kernel_rfl) (fun _ _ _ h => h) (Or.inr ⟨by rfl, rfl⟩) (by assumption) ?_
                try simp only [Act.put, List.setIfInBounds_toArray, List.set_cons_zero, List.set_cons_succ]
                refine wpAnyH_take (i := 10) (v := undef) (by simp only [List.getElem?_toArray, List.getElem?_cons_succ, List.getElem?_cons_zero]; rfl) (by kernel_rfl) (by kernel_rfl) (by kernel_rfl) (fun _ _ _ h => h) (Or.inr ⟨by rfl, rfl⟩) (by assumption) ?_
                try simp only [Act.put, List.setIfInBounds_toArray, List.set_cons_zero, List.set_cons_succ]
                refine wpAnyH_take (i := 11) (v := undef) (by simp only [List.getElem?_toArray, List.getElem?_cons_succ, List.getElem?_cons_zero]; rfl) (by kernel_rfl) (by kernel_rfl) (by kernel_rfl) (fun _ _ _ h => h) (Or.inr ⟨by rfl, rfl⟩) (by assumption) ?_
                try simp only [Act.put, List.setIfInBounds_toArray, List.set_cons_zero, List.set_cons_succ]
                refine wpAnyH_take (i := 12) (v := ?_) (by simp only [List.getElem?_toArray, List.getElem?_cons_succ, List.getElem?_cons_zero]; rfl) (by kernel_rfl) (by kernel_rfl) (by kernel_rfl) (fun _ _ _ h => h) (Or.inl ⟨by rfl, ?_⟩) (by assumption) ?_
                rotate_left
                · (intro wS hSw; (try dsimp only at hSw); go_simp; try with_reducible rfl)
                try simp only [Act.put, List.setIfInBounds_toArray, List.set_cons_zero, List.set_cons_succ]
                refine wpAnyH_done (by kernel_rfl) ?_ _
                refine NoPanic.normal ?_
                go_wp2
                go_roundg m
                case measure => have := HK.out; omega
                case rel => exact ⟨k + 1, by first | rfl | go_num, ⟨by have := HK.out; omega⟩, ⟨hHeld⟩⟩
              · have e1 : decide (1 + 23 * (q : Int) ≤ (k : Int)) = true := decide_eq_true (by omega)
                have e2 : decide ((k : Int) < 1 + 23 * ((q : Int) + 1)) = false := decide_eq_false (by omega)
                have CX := Aside0.mk (HCX.out k (by omega))
                have CY := Aside0.mk (by have h := HCY.out k (by omega); rw [STAY.out k HKL.out (by omega)] at h; exact h)
                obtain ⟨p, hp⟩ : ∃ p, p = X.getD k 0 := ⟨_, rfl⟩
                rw [← hp] at CX CY
                clear h1 h2 hk hp
                go_wp2
                refine wp_region_noPanic ?_
                refine wp_region_held_drew (S := (fun w' => Below w6.heap.size w6 w')) (by kernel_rfl) ?_ (fun hHeld => ?_)
                · (try dsimp only); exact below_drew HBl.out
                refine wpAnyH_take (i := 0) (v := ?_) (by simp only [List.getElem?_toArray, List.getElem?_cons_succ, List.getElem?_cons_zero]; rfl) (by kernel_rfl) (by kernel_rfl) (by kernel_rfl) (fun _ _ _ h => h) (Or.inl ⟨by rfl, ?_⟩) (by assumption) ?_
                rotate_left
                · (intro wS hSw; (try dsimp only at hSw); go_simp; try with_reducible rfl)
                try simp only [Act.put, List.setIfInBounds_toArray, List.set_cons_zero, List.set_cons_succ]
                refine wpAnyH_take (i := 1) (v := ?_) (by simp only [List.getElem?_toArray, List.getElem?_cons_succ, List.getElem?_cons_zero]; rfl) (by kernel_rfl) (by kernel_rfl) (by kernel_rfl) (fun _ _ _ h => h) (Or.inl ⟨by rfl, ?_⟩) (by assumption) ?_
                rotate_left
                · (intro wS hSw; (try dsimp only at hSw); go_simp; try with_reducible rfl)
                try simp only [Act.put, List.setIfInBounds_toArray, List.set_cons_zero, List.set_cons_succ]
                refine wpAnyH_take (i := 2) (v := ?_) (by simp only [List.getElem?_toArray, List.getElem?_cons_succ, List.getElem?_cons_zero]; rfl) (by kernel_rfl) (by kernel_rfl) (by kernel_rfl) (fun _ _ _ h => h) (Or.inl ⟨by rfl, ?_⟩) (by assumption) ?_
                rotate_left
                · (intro wS hSw; (try dsimp only at hSw); go_simp; try with_reducible rfl)
                try simp only [Act.put, List.setIfInBounds_toArray, List.set_cons_zero, List.set_cons_succ]
                refine wpAnyH_take (i := 3) (v := ?_) (by simp only [List.getElem?_toArray, List.getElem?_cons_succ, List.getElem?_cons_zero]; rfl) (by kernel_rfl) (by kernel_rfl) (by kernel_rfl) (fun _ _ _ h => h) (Or.inl ⟨by rfl, ?_⟩) (by assumption) ?_
                rotate_left
                · (intro wS hSw; (try dsimp only at hSw); go_simp; try with_reducible rfl)
                try simp only [Act.put, List.setIfInBounds_toArray, List.set_cons_zero, List.set_cons_succ]
                refine wpAnyH_take (i := 4) (v := ?_) (by simp only [List.getElem?_toArray, List.getElem?_cons_succ, List.getElem?_cons_zero]; rfl) (by kernel_rfl) (by kernel_rfl) (by kernel_rfl) (fun _ _ _ h => h) (Or.inl ⟨by rfl, ?_⟩) (by assumption) ?_
                rotate_left
                · (intro wS hSw; (try dsimp only at hSw); go_simp; try with_reducible rfl)
                try simp only [Act.put, List.setIfInBounds_toArray, List.set_cons_zero, List.set_cons_succ]
                refine wpAnyH_take (i := 5) (v := ?_) (by simp only [List.getElem?_toArray, List.getElem?_cons_succ, List.getElem?_cons_zero]; rfl) (by kernel_rfl) (by kernel_rfl) (by kernel_rfl) (fun _ _ _ h => h) (Or.inl ⟨by rfl, ?_⟩) (by assumption) ?_
                rotate_left
                · (intro wS hSw; (try dsimp only at hSw); go_simp; try with_reducible rfl)
                try simp only [Act.put, List.setIfInBounds_toArray, List.set_cons_zero, List.set_cons_succ]
                refine wpAnyH_take (i := 6) (v := ?_) (by simp only [List.getElem?_toArray, List.getElem?_cons_succ, List.getElem?_cons_zero]; rfl) (by kernel_rfl) (by kernel_rfl) (by kernel_rfl) (fun _ _ _ h => h) (Or.inl ⟨by rfl, ?_⟩) (by assumption) ?_
                rotate_left
                · (intro wS hSw; (try dsimp only at hSw); have hc := pw_cell hSw CX.out GX.out; go_simp; try with_reducible rfl)
                try simp only [Act.put, List.setIfInBounds_toArray, List.set_cons_zero, List.set_cons_succ]
                refine wpAnyH_take (i := 7) (v := ?_) (by simp only [List.getElem?_toArray, List.getElem?_cons_succ, List.getElem?_cons_zero]; rfl) (by kernel_rfl) (by kernel_rfl) (by kernel_rfl) (fun _ _ _ h => h) (Or.inl ⟨by rfl, ?_⟩) (by assumption) ?_
                rotate_left
                · (intro wS hSw; (try dsimp only at hSw); go_simp; try with_reducible rfl)
                try simp only [Act.put, List.setIfInBounds_toArray, List.set_cons_zero, List.set_cons_succ]
                refine wpAnyH_take (i := 8) (v := ?_) (by simp only [List.getElem?_toArray, List.getElem?_cons_succ, List.getElem?_cons_zero]; rfl) (by kernel_rfl) (by kernel_rfl) (by kernel_rfl) (fun _ _ _ h => h) (Or.inl ⟨by rfl, ?_⟩) (by assumption) ?_
                rotate_left
                · (intro wS hSw; (try dsimp only at hSw); go_simp; try with_reducible rfl)
                try simp only [Act.put, List.setIfInBounds_toArray, List.set_cons_zero, List.set_cons_succ]
                refine wpAnyH_take (i := 9) (v := ?_) (by simp only [List.getElem?_toArray, List.getElem?_cons_succ, List.getElem?_cons_zero]; rfl) (by kernel_rfl) (by kernel_rfl) (by kernel_rfl) (fun _ _ _ h => h) (Or.inl ⟨by rfl, ?_⟩) (by assumption) ?_
                rotate_left
                · (intro wS hSw; (try dsimp only at hSw); go_simp; try with_reducible rfl)
                try simp only [Act.put, List.setIfInBounds_toArray, List.set_cons_zero, List.set_cons_succ]
                refine wpAnyH_take (i := 10) (v := ?_) (by simp only [List.getElem?_toArray, List.getElem?_cons_succ, List.getElem?_cons_zero]; rfl) (by kernel_rfl) (by kernel_rfl) (by kernel_rfl) (fun _ _ _ h => h) (Or.inl ⟨by rfl, ?_⟩) (by assumption) ?_
                rotate_left
                · (intro wS hSw; (try dsimp only at hSw); have hc := pw_cell hSw CY.out GY.out; go_simp; try with_reducible rfl)
                try simp only [Act.put, List.setIfInBounds_toArray, List.set_cons_zero, List.set_cons_succ]
                refine wpAnyH_take (i := 11) (v := ?_) (by simp only [List.getElem?_toArray, List.getElem?_cons_succ, List.getElem?_cons_zero]; rfl) (by kernel_rfl) (by kernel_rfl) (by kernel_rfl) (fun _ _ _ h => h) (Or.inl ⟨by rfl, ?_⟩) (by assumption) ?_
                rotate_left
                · (intro wS hSw; (try dsimp only at hSw); go_simp; try with_reducible rfl)
                try simp only [Act.put, List.setIfInBounds_toArray, List.set_cons_zero, List.set_cons_succ]
                refine wpAnyH_take (i := 12) (v := ?_) (by simp only [List.getElem?_toArray, List.getElem?_cons_succ, List.getElem?_cons_zero]; rfl) (by kernel_rfl) (by kernel_rfl) (by kernel_rfl) (fun _ _ _ h => h) (Or.inl ⟨by rfl, ?_⟩) (by assumption) ?_
                rotate_left
                · (intro wS hSw; (try dsimp only at hSw); go_simp; try with_reducible rfl)
                try simp only [Act.put, List.setIfInBounds_toArray, List.set_cons_zero, List.set_cons_succ]
                refine wpAnyH_done (by kernel_rfl) ?_ _
                refine NoPanic.normal ?_
                go_wp2
                go_roundg m
                case measure => have := HK.out; omega
                case rel => exact ⟨k + 1, by first | rfl | go_num, ⟨by have := HK.out; omega⟩, ⟨hHeld⟩⟩
            · have e1 : decide (1 + 23 * (q : Int) ≤ (k : Int)) = false := decide_eq_false (by omega)
              have CX := Aside0.mk (HCX.out k (by omega))
              have CY := Aside0.mk (by have h := HCY.out k (by omega); rw [STAY.out k HKL.out (by omega)] at h; exact h)
              obtain ⟨p, hp⟩ : ∃ p, p = X.getD k 0 := ⟨_, rfl⟩
              rw [← hp] at CX CY
              clear h1 hk hp
              go_wp2
              refine wp_region_noPanic ?_
              refine wp_region_held_drew (S := (fun w' => Below w6.heap.size w6 w')) (by kernel_rfl) ?_ (fun hHeld => ?_)
              · (try dsimp only); exact below_drew HBl.out
              refine wpAnyH_take (i := 0) (v := ?_) (by simp only [List.getElem?_toArray, List.getElem?_cons_succ, List.getElem?_cons_zero]; rfl) (by kernel_rfl) (by kernel_rfl) (by kernel_rfl) (fun _ _ _ h => h) (Or.inl ⟨by rfl, ?_⟩) (by assumption) ?_
              rotate_left
              · (intro wS hSw; (try dsimp only at hSw); go_simp; try with_reducible rfl)
              try simp only [Act.put, List.setIfInBounds_toArray, List.set_cons_zero, List.set_cons_succ]
              refine wpAnyH_take (i := 1) (v := ?_) (by simp only [List.getElem?_toArray, List.getElem?_cons_succ, List.getElem?_cons_zero]; rfl) (by kernel_rfl) (by kernel_rfl) (by kernel_rfl) (fun _ _ _ h => h) (Or.inl ⟨by rfl, ?_⟩) (by assumption) ?_
              rotate_left
              · (intro wS hSw; (try dsimp only at hSw); go_simp; try with_reducible rfl)
              try simp only [Act.put, List.setIfInBounds_toArray, List.set_cons_zero, List.set_cons_succ]
              refine wpAnyH_take (i := 2) (v := ?_) (by simp only [List.getElem?_toArray, List.getElem?_cons_succ, List.getElem?_cons_zero]; rfl) (by kernel_rfl) (by kernel_rfl) (by kernel_rfl) (fun _ _ _ h => h) (Or.inl ⟨by rfl, ?_⟩) (by assumption) ?_
              rotate_left
              · (intro wS hSw; (try dsimp only at hSw); go_simp; try with_reducible rfl)
              try simp only [Act.put, List.setIfInBounds_toArray, List.set_cons_zero, List.set_cons_succ]
              refine wpAnyH_take (i := 3) (v := ?_) (by simp only [List.getElem?_toArray, List.getElem?_cons_succ, List.getElem?_cons_zero]; rfl) (by kernel_rfl) (by kernel_rfl) (by kernel_rfl) (fun _ _ _ h => h) (Or.inl ⟨by rfl, ?_⟩) (by assumption) ?_
              rotate_left
              · (intro wS hSw; (try dsimp only at hSw); go_simp; try with_reducible rfl)
              try simp only [Act.put, List.setIfInBounds_toArray, List.set_cons_zero, List.set_cons_succ]
              refine wpAnyH_take (i := 4) (v := ?_) (by simp only [List.getElem?_toArray, List.getElem?_cons_succ, List.getElem?_cons_zero]; rfl) (by kernel_rfl) (by kernel_rfl) (by kernel_rfl) (fun _ _ _ h => h) (Or.inl ⟨by rfl, ?_⟩) (by assumption) ?_
              rotate_left
              · (intro wS hSw; (try dsimp only at hSw); go_simp; try with_reducible rfl)
              try simp only [Act.put, List.setIfInBounds_toArray, List.set_cons_zero, List.set_cons_succ]
              refine wpAnyH_take (i := 5) (v := ?_) (by simp only [List.getElem?_toArray, List.getElem?_cons_succ, List.getElem?_cons_zero]; rfl) (by kernel_rfl) (by kernel_rfl) (by kernel_rfl) (fun _ _ _ h => h) (Or.inl ⟨by rfl, ?_⟩) (by assumption) ?_
              rotate_left
              · (intro wS hSw; (try dsimp only at hSw); go_simp; try with_reducible rfl)
              try simp only [Act.put, List.setIfInBounds_toArray, List.set_cons_zero, List.set_cons_succ]
              refine wpAnyH_take (i := 6) (v := ?_) (by simp only [List.getElem?_toArray, List.getElem?_cons_succ, List.getElem?_cons_zero]; rfl) (by kernel_rfl) (by kernel_rfl) (by kernel_rfl) (fun _ _ _ h => h) (Or.inl ⟨by rfl, ?_⟩) (by assumption) ?_
              rotate_left
              · (intro wS hSw; (try dsimp only at hSw); have hc := pw_cell hSw CX.out GX.out; go_simp; try with_reducible rfl)
              try simp only [Act.put, List.setIfInBounds_toArray, List.set_cons_zero, List.set_cons_succ]
              refine wpAnyH_take (i := 7) (v := ?_) (by simp only [List.getElem?_toArray, List.getElem?_cons_succ, List.getElem?_cons_zero]; rfl) (by kernel_rfl) (by kernel_rfl) (by kernel_rfl) (fun _ _ _ h => h) (Or.inl ⟨by rfl, ?_⟩) (by assumption) ?_
              rotate_left
              · (intro wS hSw; (try dsimp only at hSw); go_simp; try with_reducible rfl)
              try simp only [Act.put, List.setIfInBounds_toArray, List.set_cons_zero, List.set_cons_succ]
              refine wpAnyH_take (i := 8) (v := ?_) (by simp only [List.getElem?_toArray, List.getElem?_cons_succ, List.getElem?_cons_zero]; rfl) (by kernel_rfl) (by kernel_rfl) (by kernel_rfl) (fun _ _ _ h => h) (Or.inl ⟨by rfl, ?_⟩) (by assumption) ?_
              rotate_left
              · (intro wS hSw; (try dsimp only at hSw); go_simp; try with_reducible rfl)
              try simp only [Act.put, List.setIfInBounds_toArray, List.set_cons_zero, List.set_cons_succ]
              refine wpAnyH_take (i := 9) (v := ?_) (by simp only [List.getElem?_toArray, List.getElem?_cons_succ, List.getElem?_cons_zero]; rfl) (by kernel_rfl) (by kernel_rfl) (by kernel_rfl) (fun _ _ _ h => h) (Or.inl ⟨by rfl, ?_⟩) (by assumption) ?_
              rotate_left
              · (intro wS hSw; (try dsimp only at hSw); go_simp; try with_reducible rfl)
              try simp only [Act.put, List.setIfInBounds_toArray, List.set_cons_zero, List.set_cons_succ]
              refine wpAnyH_take (i := 10) (v := ?_) (by simp only [List.getElem?_toArray, List.getElem?_cons_succ, List.getElem?_cons_zero]; rfl) (by kernel_rfl) (by kernel_rfl) (by kernel_rfl) (fun _ _ _ h => h) (Or.inl ⟨by rfl, ?_⟩) (by assumption) ?_
              rotate_left
              · (intro wS hSw; (try dsimp only at hSw); have hc := pw_cell hSw CY.out GY.out; go_simp; try with_reducible rfl)
              try simp only [Act.put, List.setIfInBounds_toArray, List.set_cons_zero, List.set_cons_succ]
              refine wpAnyH_take (i := 11) (v := ?_) (by simp only [List.getElem?_toArray, List.getElem?_cons_succ, List.getElem?_cons_zero]; rfl) (by kernel_rfl) (by kernel_rfl) (by kernel_rfl) (fun _ _ _ h => h) (Or.inl ⟨by rfl, ?_⟩) (by assumption) ?_
              rotate_left
              · (intro wS hSw; (try dsimp only at hSw); go_simp; try with_reducible rfl)
              try simp only [Act.put, List.setIfInBounds_toArray, List.set_cons_zero, List.set_cons_succ]
              refine wpAnyH_take (i := 12) (v := ?_) (by simp only [List.getElem?_toArray, List.getElem?_cons_succ, List.getElem?_cons_zero]; rfl) (by kernel_rfl) (by kernel_rfl) (by kernel_rfl) (fun _ _ _ h => h) (Or.inl ⟨by rfl, ?_⟩) (by assumption) ?_
              rotate_left
              · (intro wS hSw; (try dsimp only at hSw); go_simp; try with_reducible rfl)
              try simp only [Act.put, List.setIfInBounds_toArray, List.set_cons_zero, List.set_cons_succ]
              refine wpAnyH_done (by kernel_rfl) ?_ _
              refine NoPanic.normal ?_
              go_wp2
              go_roundg m
              case measure => have := HK.out; omega
              case rel => exact ⟨k + 1, by first | rfl | go_num, ⟨by have := HK.out; omega⟩, ⟨hHeld⟩⟩
      | false =>
        rw [hsm] at F50
        have F5 := Aside0.mk F50
        have HSM := Aside0.mk hsm
        clear F50 hsm
        go_enter Try.func22, Try.ntmps22
        go_wp2_with (first | ((with_reducible refine gate_dst (N := 3) rfl ?_); refine box_event ?hg3 (N := 3) ?hd3 (cs := (nums .i64 is).toArray) (t := 74) ?hr3 ?_; (case hd3 => rfl); (case hg3 => rfl); (case hr3 => first | (go_simp; done) | (go_simp; rfl)); intro g3 hg w0a hbox hb; have Ba := Aside0.mk (below_step HB0.out hb); have Ka := Aside0.mk (show HA w0a g3 74 .i64 is from hbox); clear hg hbox hb) | ((with_reducible refine gate_dst (N := 4) rfl ?_); refine box_event ?hg4 (N := 4) ?hd4 (cs := (nums .i64 i).toArray) (t := 73) ?hr4 ?_; (case hd4 => rfl); (case hg4 => rfl); (case hr4 => first | (go_simp; done) | (go_simp; rfl)); intro g4 hg w0 hbox hb; have B0 := Aside0.mk (below_step Ba.out hb); have KI0 := Aside0.mk (show HA w0 g4 73 .i64 i from hbox); have KS0 := Aside0.mk (Ka.out.below hb); clear hg hbox hb))
        refine (purlinlaw0_Low.calls at_ 4 (q : Int) w0 FL.out).mono ?_
        rintro e1 w1 ⟨rfl, hB⟩
        have B1 := Aside0.mk (below_step B0.out hB)
        have KI1 := Aside0.mk (KI0.out.below hB)
        have KS1 := Aside0.mk (KS0.out.below hB)
        clear hB
        have q0 : (0 : Int) ≤ (q : Int) := by omega
        have q1 : (q : Int) < 4 := by have := HQ.out; omega
        go_wp2_with (first | ((with_reducible refine gate_dst (N := 16) rfl ?_); (try (refine gate_guard (by rfl) ?_; dsimp only)); refine load_row_event rfl _ rfl KS1.out rfl (by rw [HL.out]; exact row74) ?_) | ((with_reducible refine gate_dst (N := 7) rfl ?_); refine box_event ?hg7 (N := 7) ?hd7 (cs := (nums .i64 zero44).toArray) (t := 74) ?hr7 ?_; (case hd7 => rfl); (case hg7 => rfl); (case hr7 => first | (go_simp; done) | (go_simp; rfl)); intro g7 hg w2 hbox hb; have B2 := Aside0.mk (below_step B1.out hb); have K7 := Aside0.mk (show HA w2 g7 74 .i64 zero44 from hbox); have KI2 := Aside0.mk (KI1.out.below hb); have KS2 := Aside0.mk (KS1.out.below hb); have G7 := Aside0.mk (show w1.heap.size ≤ g7 from by omega); have N37 := Aside0.mk (show some g3 ≠ some g7 from by have := KS1.out.lt; intro h; injection h with h; omega); have N47 := Aside0.mk (show some g4 ≠ some g7 from by have := KI1.out.lt; intro h; injection h with h; omega); clear hg hbox hb) | ((with_reducible refine gate_store (t := 74) (p := 7) rfl ?_); refine store_row_event (w0 := w) rfl rfl 7 _ rfl (new := is) K7.out rfl rfl (by rw [HL.out]; exact row74) HL.out.symm (by have := G7.out; have := B1.out.size; omega) B2.out ?_; intro w3 hk hgr hb; have K73 := Aside0.mk (show HA w3 g7 74 .i64 is from hk); have B3 := Aside0.mk hb; have KI3 := Aside0.mk (KI2.out.grown hgr N47.out); have KS3 := Aside0.mk (KS2.out.grown hgr N37.out); clear hk hgr hb) | ((with_reducible refine gate_dst (N := 18) rfl ?_); (try (refine gate_guard (by rfl) ?_; dsimp only)); refine load_row_event rfl _ rfl KI3.out rfl (by rw [HI.out]; exact row73) ?_) | ((with_reducible refine gate_store (t := 73) (p := 19) rfl ?_); refine store_mid_event (w0 := w) (lo := q * 11) rfl rfl 19 _ rfl (new := i) K73.out rfl rfl row73 HI.out (by rw [HL.out]; have := HQ.out; omega) (by have := G7.out; have := B1.out.size; omega) B3.out ?_; intro w4 hk hgr hb; have K74 := Aside0.mk (show HA w4 g7 74 .i64 now from by rw [Nat.mul_comm q 11] at hk; rw [HNOW.out]; exact hk); have B4 := Aside0.mk hb; have KI4 := Aside0.mk (KI3.out.grown hgr N47.out); have KS4 := Aside0.mk (KS3.out.grown hgr N37.out); clear hk hgr hb) | ((with_reducible refine gate_dst (N := 21) rfl ?_); (try (refine gate_guard (by rfl) ?_; dsimp only)); refine load_row_event rfl _ rfl KS4.out rfl (by rw [HL.out]; exact row74) ?_))
        refine (inode_Lay.calls is HL.out w4).mono ?_
        rintro e5 w5 ⟨vx, rfl, hx, hB⟩
        rw [HLP.out] at hx
        rw [HLP.out]
        have HX5 := Aside0.mk (Kd.R_bound hx)
        have B5 := Aside0.mk (below_step B4.out hB)
        have KI5 := Aside0.mk (KI4.out.below hB)
        have KS5 := Aside0.mk (KS4.out.below hB)
        have K75 := Aside0.mk (K74.out.below hB)
        clear hx hB
        go_wp2_with (first | ((with_reducible refine gate_dst (N := 26) rfl ?_); (try (refine gate_guard (by rfl) ?_; dsimp only)); refine load_row_event rfl _ rfl K75.out rfl (by rw [HNL.out]; exact row74) ?_))
        refine (inode_Lay.calls now HNL.out w5).mono ?_
        rintro e6 w6 ⟨vy, rfl, hy, hB⟩
        rw [HLQ.out] at hy
        rw [HLQ.out]
        have HY6 := Aside0.mk (Kd.R_bound hy)
        have HX6 := Aside0.mk (Kd.R_below HX5.out hB)
        have B6 := Aside0.mk (below_step B5.out hB)
        have KI6 := Aside0.mk (KI5.out.below hB)
        have KS6 := Aside0.mk (KS5.out.below hB)
        clear hy hB
        obtain ⟨gx, cx, hvx, hgx, _, hcx, hcellx⟩ := R_at HX6.out (by rw [HXL.out]; omega)
        obtain ⟨gy, cy, hvy, hgy, _, hcy, hcelly⟩ := R_at HY6.out (by rw [HZL.out]; omega)
        subst hvx
        subst hvy
        rw [HXL.out] at hcx hcellx
        rw [HZL.out] at hcy hcelly
        have GX := Aside0.mk hgx
        have GY := Aside0.mk hgy
        have HCX := Aside0.mk hcellx
        have HCY := Aside0.mk hcelly
        have HXC := Aside0.mk (R_C' HX6.out).1
        have HXC2 := Aside0.mk (R_C' HX6.out).2
        have HYC := Aside0.mk (R_C' HY6.out).1
        have HYC2 := Aside0.mk (R_C' HY6.out).2
        rw [HXL.out, HZL.out]
        clear hgx hgy hcx hcy hcellx hcelly
        go_wp2
        go_loopg [12] 124 (fun gk v12 w' => ∃ k : Nat, v12 = .int .i64 (k : Int) ∧ Aside0 (k + gk = 124) ∧ Aside0 (Below w6.heap.size w6 w'))
        case atStart => exact ⟨0, rfl, ⟨rfl⟩, ⟨Below.refl _ _⟩⟩
        case round =>
          obtain ⟨k, rfl, HK, HBl⟩ := hrel
          have hk := HK.out
          cases gk with
          | zero =>
            obtain rfl : k = 124 := by omega
            have d1 : decide (((124 : Nat) : Int) < 124) = false := by decide
            clear hk
            go_wp2
            refine wp_region_noPanic ?_
            refine wp_region_held_drew (S := (fun w' => Below w6.heap.size w6 w')) (by kernel_rfl) ?_ (fun hHeld => ?_)
            · (try dsimp only); exact below_drew HBl.out
            refine wpAnyH_take (i := 0) (v := ?_) (by simp only [List.getElem?_toArray, List.getElem?_cons_succ, List.getElem?_cons_zero]; rfl) (by kernel_rfl) (by kernel_rfl) (by kernel_rfl) (fun _ _ _ h => h) (Or.inl ⟨by rfl, ?_⟩) (by assumption) ?_
            rotate_left
            · (intro wS hSw; (try dsimp only at hSw); go_simp; try with_reducible rfl)
            try simp only [Act.put, List.setIfInBounds_toArray, List.set_cons_zero, List.set_cons_succ]
            refine wpAnyH_take (i := 1) (v := ?_) (by simp only [List.getElem?_toArray, List.getElem?_cons_succ, List.getElem?_cons_zero]; rfl) (by kernel_rfl) (by kernel_rfl) (by kernel_rfl) (fun _ _ _ h => h) (Or.inl ⟨by rfl, ?_⟩) (by assumption) ?_
            rotate_left
            · (intro wS hSw; (try dsimp only at hSw); go_simp; try with_reducible rfl)
            try simp only [Act.put, List.setIfInBounds_toArray, List.set_cons_zero, List.set_cons_succ]
            refine wpAnyH_take (i := 3) (v := ?_) (by simp only [List.getElem?_toArray, List.getElem?_cons_succ, List.getElem?_cons_zero]; rfl) (by kernel_rfl) (by kernel_rfl) (by kernel_rfl) (fun _ _ _ h => h) (Or.inl ⟨by rfl, ?_⟩) (by assumption) ?_
            rotate_left
            · (intro wS hSw; (try dsimp only at hSw); go_simp; try with_reducible rfl)
            try simp only [Act.put, List.setIfInBounds_toArray, List.set_cons_zero, List.set_cons_succ]
            refine wpAnyH_take (i := 4) (v := ?_) (by simp only [List.getElem?_toArray, List.getElem?_cons_succ, List.getElem?_cons_zero]; rfl) (by kernel_rfl) (by kernel_rfl) (by kernel_rfl) (fun _ _ _ h => h) (Or.inl ⟨by rfl, ?_⟩) (by assumption) ?_
            rotate_left
            · (intro wS hSw; (try dsimp only at hSw); go_simp; try with_reducible rfl)
            try simp only [Act.put, List.setIfInBounds_toArray, List.set_cons_zero, List.set_cons_succ]
            refine wpAnyH_take (i := 5) (v := .agg (nums .i64 ((is.drop (q * 11)).take 11)).toArray) (by simp only [List.getElem?_toArray, List.getElem?_cons_succ, List.getElem?_cons_zero]; rfl) (by kernel_rfl) (by kernel_rfl) (by kernel_rfl) (fun _ _ _ h => h) (Or.inl ⟨by rfl, ?_⟩) (by assumption) ?_
            · (intro wS hSw; (try dsimp only at hSw); exact load_mid_exec (by rfl) (KS6.out.below0 hSw KS6.out.lt) (by rfl) row73 (by rw [HL.out]; have := HQ.out; omega))
            try simp only [Act.put, List.setIfInBounds_toArray, List.set_cons_zero, List.set_cons_succ]
            refine wpAnyH_take (i := 6) (v := .agg (nums .i64 i).toArray) (by simp only [List.getElem?_toArray, List.getElem?_cons_succ, List.getElem?_cons_zero]; rfl) (by kernel_rfl) (by kernel_rfl) (by kernel_rfl) (fun _ _ _ h => h) (Or.inl ⟨by rfl, ?_⟩) (by assumption) ?_
            · (intro wS hSw; (try dsimp only at hSw); exact load_row_exec (by rfl) (KI6.out.below0 hSw KI6.out.lt) (by rfl) (by rw [HI.out]; exact row73))
            try simp only [Act.put, List.setIfInBounds_toArray, List.set_cons_zero, List.set_cons_succ]
            refine wpAnyH_take (i := 7) (v := .bool false) (by simp only [List.getElem?_toArray, List.getElem?_cons_succ, List.getElem?_cons_zero]; rfl) (by kernel_rfl) (by kernel_rfl) (by kernel_rfl) (fun _ _ _ h => h) (Or.inl ⟨by rfl, ?_⟩) (by assumption) ?_
            · (intro wS hSw; (try dsimp only at hSw); exact eq_row_exec (by rfl) eqrow73 ((is.drop (q * 11)).take 11) i HCL.out HI.out false HSM.out (by rfl) (by rfl))
            try simp only [Act.put, List.setIfInBounds_toArray, List.set_cons_zero, List.set_cons_succ]
            refine wpAnyH_ready (rs := [2]) (by kernel_rfl) (by simp) ?_
            refine AllReadyH.cons (by simp only [List.getElem?_toArray, List.getElem?_cons_succ, List.getElem?_cons_zero]; rfl) (fun K hK => ?_) AllReadyH.nil
            go_simp
            have hsm := purlinlaw0_SameBytes.calls 400 _ _ X _ _ Z false _ (Kd.C_below HXC.out hHeld) HXC2.out (Kd.C_below HYC.out hHeld) HYC2.out F5.out
            rw [HXL.out, HZL.out] at hsm
            refine hsm.mono ?_
            clear hsm
            rintro e9 w9 ⟨rfl, hD⟩
            have B9 := Aside0.mk (below_step hHeld hD.below)
            clear hD
            go_wp2_with fail
            refine hK.out _ _ ?_ (fun hHeld => ?_)
            · (try dsimp only); exact B9.out
            clear hK K
            try simp only [Act.put, List.setIfInBounds_toArray, List.set_cons_zero, List.set_cons_succ]
            refine wpAnyH_take (i := 8) (v := ?_) (by simp only [List.getElem?_toArray, List.getElem?_cons_succ, List.getElem?_cons_zero]; rfl) (by kernel_rfl) (by kernel_rfl) (by kernel_rfl) (fun _ _ _ h => h) (Or.inl ⟨by rfl, ?_⟩) (by assumption) ?_
            rotate_left
            · (intro wS hSw; (try dsimp only at hSw); go_simp; try with_reducible rfl)
            try simp only [Act.put, List.setIfInBounds_toArray, List.set_cons_zero, List.set_cons_succ]
            refine wpAnyH_take (i := 9) (v := ?_) (by simp only [List.getElem?_toArray, List.getElem?_cons_succ, List.getElem?_cons_zero]; rfl) (by kernel_rfl) (by kernel_rfl) (by kernel_rfl) (fun _ _ _ h => h) (Or.inl ⟨by rfl, ?_⟩) (by assumption) ?_
            rotate_left
            · (intro wS hSw; (try dsimp only at hSw); go_simp; try with_reducible rfl)
            try simp only [Act.put, List.setIfInBounds_toArray, List.set_cons_zero, List.set_cons_succ]
            refine wpAnyH_ready (rs := [10]) (by kernel_rfl) (by simp) ?_
            refine AllReadyH.cons (by simp only [List.getElem?_toArray, List.getElem?_cons_succ, List.getElem?_cons_zero]; rfl) (fun K hK => ?_) AllReadyH.nil
            go_simp
            refine (purlinlaw7_awake.calls _).mono ?_
            rintro e10 w10 ⟨rfl, hB⟩
            have B10 := Aside0.mk (below_step hHeld hB)
            clear hB
            go_wp2_with fail
            refine hK.out _ _ ?_ (fun hHeld => ?_)
            · (try dsimp only); exact B10.out
            clear hK K
            try simp only [Act.put, List.setIfInBounds_toArray, List.set_cons_zero, List.set_cons_succ]
            refine wpAnyH_take (i := 11) (v := ?_) (by simp only [List.getElem?_toArray, List.getElem?_cons_succ, List.getElem?_cons_zero]; rfl) (by kernel_rfl) (by kernel_rfl) (by kernel_rfl) (fun _ _ _ h => h) (Or.inl ⟨by rfl, ?_⟩) (by assumption) ?_
            rotate_left
            · (intro wS hSw; (try dsimp only at hSw); go_simp; try with_reducible rfl)
            try simp only [Act.put, List.setIfInBounds_toArray, List.set_cons_zero, List.set_cons_succ]
            refine wpAnyH_take (i := 12) (v := ?_) (by simp only [List.getElem?_toArray, List.getElem?_cons_succ, List.getElem?_cons_zero]; rfl) (by kernel_rfl) (by kernel_rfl) (by kernel_rfl) (fun _ _ _ h => h) (Or.inl ⟨by rfl, ?_⟩) (by assumption) ?_
            rotate_left
            · (intro wS hSw; (try dsimp only at hSw); go_simp; try with_reducible rfl)
            try simp only [Act.put, List.setIfInBounds_toArray, List.set_cons_zero, List.set_cons_succ]
            refine wpAnyH_done (by kernel_rfl) ?_ _
            refine NoPanic.normal ?_
            go_wp2
            go_ret
            exact ⟨rfl, below_step B6.out hHeld⟩
          | succ m =>
            have d1 : decide ((k : Int) < 124) = true := decide_eq_true (by omega)
            have d2 : (k : Int) < 124 := by omega
            have d3 : (0 : Int) ≤ (k : Int) := by omega
            have d4 : (k : Int) < 128 := by omega
            have HKL := Aside0.mk (show k < 124 from by omega)
            by_cases h1 : 1 + 23 * q ≤ k
            · by_cases h2 : k < 1 + 23 * (q + 1)
              · have e1 : decide (1 + 23 * (q : Int) ≤ (k : Int)) = true := decide_eq_true (by omega)
                have e2 : decide ((k : Int) < 1 + 23 * ((q : Int) + 1)) = true := decide_eq_true (by omega)
                clear h1 h2 hk
                go_wp2
                refine wp_region_noPanic ?_
                refine wp_region_held_drew (S := (fun w' => Below w6.heap.size w6 w')) (by kernel_rfl) ?_ (fun hHeld => ?_)
                · (try dsimp only); exact below_drew HBl.out
                refine wpAnyH_take (i := 0) (v := ?_) (by simp only [List.getElem?_toArray, List.getElem?_cons_succ, List.getElem?_cons_zero]; rfl) (by kernel_rfl) (by kernel_rfl) (by kernel_rfl) (fun _ _ _ h => h) (Or.inl ⟨by rfl, ?_⟩) (by assumption) ?_
                rotate_left
                · (intro wS hSw; (try dsimp only at hSw); go_simp; try with_reducible rfl)
                try simp only [Act.put, List.setIfInBounds_toArray, List.set_cons_zero, List.set_cons_succ]
                refine wpAnyH_take (i := 1) (v := ?_) (by simp only [List.getElem?_toArray, List.getElem?_cons_succ, List.getElem?_cons_zero]; rfl) (by kernel_rfl) (by kernel_rfl) (by kernel_rfl) (fun _ _ _ h => h) (Or.inl ⟨by rfl, ?_⟩) (by assumption) ?_
                rotate_left
                · (intro wS hSw; (try dsimp only at hSw); go_simp; try with_reducible rfl)
                try simp only [Act.put, List.setIfInBounds_toArray, List.set_cons_zero, List.set_cons_succ]
                refine wpAnyH_take (i := 2) (v := ?_) (by simp only [List.getElem?_toArray, List.getElem?_cons_succ, List.getElem?_cons_zero]; rfl) (by kernel_rfl) (by kernel_rfl) (by kernel_rfl) (fun _ _ _ h => h) (Or.inl ⟨by rfl, ?_⟩) (by assumption) ?_
                rotate_left
                · (intro wS hSw; (try dsimp only at hSw); go_simp; try with_reducible rfl)
                try simp only [Act.put, List.setIfInBounds_toArray, List.set_cons_zero, List.set_cons_succ]
                refine wpAnyH_take (i := 3) (v := undef) (by simp only [List.getElem?_toArray, List.getElem?_cons_succ, List.getElem?_cons_zero]; rfl) (by kernel_rfl) (by kernel_rfl) (by kernel_rfl) (fun _ _ _ h => h) (Or.inr ⟨by rfl, rfl⟩) (by assumption) ?_
                try simp only [Act.put, List.setIfInBounds_toArray, List.set_cons_zero, List.set_cons_succ]
                refine wpAnyH_take (i := 4) (v := undef) (by simp only [List.getElem?_toArray, List.getElem?_cons_succ, List.getElem?_cons_zero]; rfl) (by kernel_rfl) (by kernel_rfl) (by kernel_rfl) (fun _ _ _ h => h) (Or.inr ⟨by rfl, rfl⟩) (by assumption) ?_
                try simp only [Act.put, List.setIfInBounds_toArray, List.set_cons_zero, List.set_cons_succ]
                refine wpAnyH_take (i := 5) (v := undef) (by simp only [List.getElem?_toArray, List.getElem?_cons_succ, List.getElem?_cons_zero]; rfl) (by kernel_rfl) (by kernel_rfl) (by kernel_rfl) (fun _ _ _ h => h) (Or.inr ⟨by rfl, rfl⟩) (by assumption) ?_
                try simp only [Act.put, List.setIfInBounds_toArray, List.set_cons_zero, List.set_cons_succ]
                refine wpAnyH_take (i := 6) (v := undef) (by simp only [List.getElem?_toArray, List.getElem?_cons_succ, List.getElem?_cons_zero]; rfl) (by kernel_rfl) (by kernel_rfl) (by kernel_rfl) (fun _ _ _ h => h) (Or.inr ⟨by rfl, rfl⟩) (by assumption) ?_
                try simp only [Act.put, List.setIfInBounds_toArray, List.set_cons_zero, List.set_cons_succ]
                refine wpAnyH_take (i := 7) (v := undef) (by simp only [List.getElem?_toArray, List.getElem?_cons_succ, List.getElem?_cons_zero]; rfl) (by kernel_rfl) (by kernel_rfl) (by kernel_rfl) (fun _ _ _ h => h) (Or.inr ⟨by rfl, rfl⟩) (by assumption) ?_
                try simp only [Act.put, List.setIfInBounds_toArray, List.set_cons_zero, List.set_cons_succ]
                refine wpAnyH_take (i := 8) (v := undef) (by simp only [List.getElem?_toArray, List.getElem?_cons_succ, List.getElem?_cons_zero]; rfl) (by kernel_rfl) (by kernel_rfl) (by kernel_rfl) (fun _ _ _ h => h) (Or.inr ⟨by rfl, rfl⟩) (by assumption) ?_
                try simp only [Act.put, List.setIfInBounds_toArray, List.set_cons_zero, List.set_cons_succ]
                refine wpAnyH_take (i := 9) (v := undef) (by simp only [List.getElem?_toArray, List.getElem?_cons_succ, List.getElem?_cons_zero]; rfl) (by kernel_rfl) (by kernel_rfl) (by kernel_rfl) (fun _ _ _ h => h) (Or.inr ⟨by rfl, rfl⟩) (by assumption) ?_
                try simp only [Act.put, List.setIfInBounds_toArray, List.set_cons_zero, List.set_cons_succ]
                refine wpAnyH_take (i := 10) (v := undef) (by simp only [List.getElem?_toArray, List.getElem?_cons_succ, List.getElem?_cons_zero]; rfl) (by kernel_rfl) (by kernel_rfl) (by kernel_rfl) (fun _ _ _ h => h) (Or.inr ⟨by rfl, rfl⟩) (by assumption) ?_
                try simp only [Act.put, List.setIfInBounds_toArray, List.set_cons_zero, List.set_cons_succ]
                refine wpAnyH_take (i := 11) (v := undef) (by simp only [List.getElem?_toArray, List.getElem?_cons_succ, List.getElem?_cons_zero]; rfl) (by kernel_rfl) (by kernel_rfl) (by kernel_rfl) (fun _ _ _ h => h) (Or.inr ⟨by rfl, rfl⟩) (by assumption) ?_
                try simp only [Act.put, List.setIfInBounds_toArray, List.set_cons_zero, List.set_cons_succ]
                refine wpAnyH_take (i := 12) (v := ?_) (by simp only [List.getElem?_toArray, List.getElem?_cons_succ, List.getElem?_cons_zero]; rfl) (by kernel_rfl) (by kernel_rfl) (by kernel_rfl) (fun _ _ _ h => h) (Or.inl ⟨by rfl, ?_⟩) (by assumption) ?_
                rotate_left
                · (intro wS hSw; (try dsimp only at hSw); go_simp; try with_reducible rfl)
                try simp only [Act.put, List.setIfInBounds_toArray, List.set_cons_zero, List.set_cons_succ]
                refine wpAnyH_done (by kernel_rfl) ?_ _
                refine NoPanic.normal ?_
                go_wp2
                go_roundg m
                case measure => have := HK.out; omega
                case rel => exact ⟨k + 1, by first | rfl | go_num, ⟨by have := HK.out; omega⟩, ⟨hHeld⟩⟩
              · have e1 : decide (1 + 23 * (q : Int) ≤ (k : Int)) = true := decide_eq_true (by omega)
                have e2 : decide ((k : Int) < 1 + 23 * ((q : Int) + 1)) = false := decide_eq_false (by omega)
                have CX := Aside0.mk (HCX.out k (by omega))
                have CY := Aside0.mk (by have h := HCY.out k (by omega); rw [STAY.out k HKL.out (by omega)] at h; exact h)
                obtain ⟨p, hp⟩ : ∃ p, p = X.getD k 0 := ⟨_, rfl⟩
                rw [← hp] at CX CY
                clear h1 h2 hk hp
                go_wp2
                refine wp_region_noPanic ?_
                refine wp_region_held_drew (S := (fun w' => Below w6.heap.size w6 w')) (by kernel_rfl) ?_ (fun hHeld => ?_)
                · (try dsimp only); exact below_drew HBl.out
                refine wpAnyH_take (i := 0) (v := ?_) (by simp only [List.getElem?_toArray, List.getElem?_cons_succ, List.getElem?_cons_zero]; rfl) (by kernel_rfl) (by kernel_rfl) (by kernel_rfl) (fun _ _ _ h => h) (Or.inl ⟨by rfl, ?_⟩) (by assumption) ?_
                rotate_left
                · (intro wS hSw; (try dsimp only at hSw); go_simp; try with_reducible rfl)
                try simp only [Act.put, List.setIfInBounds_toArray, List.set_cons_zero, List.set_cons_succ]
                refine wpAnyH_take (i := 1) (v := ?_) (by simp only [List.getElem?_toArray, List.getElem?_cons_succ, List.getElem?_cons_zero]; rfl) (by kernel_rfl) (by kernel_rfl) (by kernel_rfl) (fun _ _ _ h => h) (Or.inl ⟨by rfl, ?_⟩) (by assumption) ?_
                rotate_left
                · (intro wS hSw; (try dsimp only at hSw); go_simp; try with_reducible rfl)
                try simp only [Act.put, List.setIfInBounds_toArray, List.set_cons_zero, List.set_cons_succ]
                refine wpAnyH_take (i := 2) (v := ?_) (by simp only [List.getElem?_toArray, List.getElem?_cons_succ, List.getElem?_cons_zero]; rfl) (by kernel_rfl) (by kernel_rfl) (by kernel_rfl) (fun _ _ _ h => h) (Or.inl ⟨by rfl, ?_⟩) (by assumption) ?_
                rotate_left
                · (intro wS hSw; (try dsimp only at hSw); go_simp; try with_reducible rfl)
                try simp only [Act.put, List.setIfInBounds_toArray, List.set_cons_zero, List.set_cons_succ]
                refine wpAnyH_take (i := 3) (v := ?_) (by simp only [List.getElem?_toArray, List.getElem?_cons_succ, List.getElem?_cons_zero]; rfl) (by kernel_rfl) (by kernel_rfl) (by kernel_rfl) (fun _ _ _ h => h) (Or.inl ⟨by rfl, ?_⟩) (by assumption) ?_
                rotate_left
                · (intro wS hSw; (try dsimp only at hSw); go_simp; try with_reducible rfl)
                try simp only [Act.put, List.setIfInBounds_toArray, List.set_cons_zero, List.set_cons_succ]
                refine wpAnyH_take (i := 4) (v := ?_) (by simp only [List.getElem?_toArray, List.getElem?_cons_succ, List.getElem?_cons_zero]; rfl) (by kernel_rfl) (by kernel_rfl) (by kernel_rfl) (fun _ _ _ h => h) (Or.inl ⟨by rfl, ?_⟩) (by assumption) ?_
                rotate_left
                · (intro wS hSw; (try dsimp only at hSw); go_simp; try with_reducible rfl)
                try simp only [Act.put, List.setIfInBounds_toArray, List.set_cons_zero, List.set_cons_succ]
                refine wpAnyH_take (i := 5) (v := ?_) (by simp only [List.getElem?_toArray, List.getElem?_cons_succ, List.getElem?_cons_zero]; rfl) (by kernel_rfl) (by kernel_rfl) (by kernel_rfl) (fun _ _ _ h => h) (Or.inl ⟨by rfl, ?_⟩) (by assumption) ?_
                rotate_left
                · (intro wS hSw; (try dsimp only at hSw); go_simp; try with_reducible rfl)
                try simp only [Act.put, List.setIfInBounds_toArray, List.set_cons_zero, List.set_cons_succ]
                refine wpAnyH_take (i := 6) (v := ?_) (by simp only [List.getElem?_toArray, List.getElem?_cons_succ, List.getElem?_cons_zero]; rfl) (by kernel_rfl) (by kernel_rfl) (by kernel_rfl) (fun _ _ _ h => h) (Or.inl ⟨by rfl, ?_⟩) (by assumption) ?_
                rotate_left
                · (intro wS hSw; (try dsimp only at hSw); have hc := pw_cell hSw CX.out GX.out; go_simp; try with_reducible rfl)
                try simp only [Act.put, List.setIfInBounds_toArray, List.set_cons_zero, List.set_cons_succ]
                refine wpAnyH_take (i := 7) (v := ?_) (by simp only [List.getElem?_toArray, List.getElem?_cons_succ, List.getElem?_cons_zero]; rfl) (by kernel_rfl) (by kernel_rfl) (by kernel_rfl) (fun _ _ _ h => h) (Or.inl ⟨by rfl, ?_⟩) (by assumption) ?_
                rotate_left
                · (intro wS hSw; (try dsimp only at hSw); go_simp; try with_reducible rfl)
                try simp only [Act.put, List.setIfInBounds_toArray, List.set_cons_zero, List.set_cons_succ]
                refine wpAnyH_take (i := 8) (v := ?_) (by simp only [List.getElem?_toArray, List.getElem?_cons_succ, List.getElem?_cons_zero]; rfl) (by kernel_rfl) (by kernel_rfl) (by kernel_rfl) (fun _ _ _ h => h) (Or.inl ⟨by rfl, ?_⟩) (by assumption) ?_
                rotate_left
                · (intro wS hSw; (try dsimp only at hSw); go_simp; try with_reducible rfl)
                try simp only [Act.put, List.setIfInBounds_toArray, List.set_cons_zero, List.set_cons_succ]
                refine wpAnyH_take (i := 9) (v := ?_) (by simp only [List.getElem?_toArray, List.getElem?_cons_succ, List.getElem?_cons_zero]; rfl) (by kernel_rfl) (by kernel_rfl) (by kernel_rfl) (fun _ _ _ h => h) (Or.inl ⟨by rfl, ?_⟩) (by assumption) ?_
                rotate_left
                · (intro wS hSw; (try dsimp only at hSw); go_simp; try with_reducible rfl)
                try simp only [Act.put, List.setIfInBounds_toArray, List.set_cons_zero, List.set_cons_succ]
                refine wpAnyH_take (i := 10) (v := ?_) (by simp only [List.getElem?_toArray, List.getElem?_cons_succ, List.getElem?_cons_zero]; rfl) (by kernel_rfl) (by kernel_rfl) (by kernel_rfl) (fun _ _ _ h => h) (Or.inl ⟨by rfl, ?_⟩) (by assumption) ?_
                rotate_left
                · (intro wS hSw; (try dsimp only at hSw); have hc := pw_cell hSw CY.out GY.out; go_simp; try with_reducible rfl)
                try simp only [Act.put, List.setIfInBounds_toArray, List.set_cons_zero, List.set_cons_succ]
                refine wpAnyH_take (i := 11) (v := ?_) (by simp only [List.getElem?_toArray, List.getElem?_cons_succ, List.getElem?_cons_zero]; rfl) (by kernel_rfl) (by kernel_rfl) (by kernel_rfl) (fun _ _ _ h => h) (Or.inl ⟨by rfl, ?_⟩) (by assumption) ?_
                rotate_left
                · (intro wS hSw; (try dsimp only at hSw); go_simp; try with_reducible rfl)
                try simp only [Act.put, List.setIfInBounds_toArray, List.set_cons_zero, List.set_cons_succ]
                refine wpAnyH_take (i := 12) (v := ?_) (by simp only [List.getElem?_toArray, List.getElem?_cons_succ, List.getElem?_cons_zero]; rfl) (by kernel_rfl) (by kernel_rfl) (by kernel_rfl) (fun _ _ _ h => h) (Or.inl ⟨by rfl, ?_⟩) (by assumption) ?_
                rotate_left
                · (intro wS hSw; (try dsimp only at hSw); go_simp; try with_reducible rfl)
                try simp only [Act.put, List.setIfInBounds_toArray, List.set_cons_zero, List.set_cons_succ]
                refine wpAnyH_done (by kernel_rfl) ?_ _
                refine NoPanic.normal ?_
                go_wp2
                go_roundg m
                case measure => have := HK.out; omega
                case rel => exact ⟨k + 1, by first | rfl | go_num, ⟨by have := HK.out; omega⟩, ⟨hHeld⟩⟩
            · have e1 : decide (1 + 23 * (q : Int) ≤ (k : Int)) = false := decide_eq_false (by omega)
              have CX := Aside0.mk (HCX.out k (by omega))
              have CY := Aside0.mk (by have h := HCY.out k (by omega); rw [STAY.out k HKL.out (by omega)] at h; exact h)
              obtain ⟨p, hp⟩ : ∃ p, p = X.getD k 0 := ⟨_, rfl⟩
              rw [← hp] at CX CY
              clear h1 hk hp
              go_wp2
              refine wp_region_noPanic ?_
              refine wp_region_held_drew (S := (fun w' => Below w6.heap.size w6 w')) (by kernel_rfl) ?_ (fun hHeld => ?_)
              · (try dsimp only); exact below_drew HBl.out
              refine wpAnyH_take (i := 0) (v := ?_) (by simp only [List.getElem?_toArray, List.getElem?_cons_succ, List.getElem?_cons_zero]; rfl) (by kernel_rfl) (by kernel_rfl) (by kernel_rfl) (fun _ _ _ h => h) (Or.inl ⟨by rfl, ?_⟩) (by assumption) ?_
              rotate_left
              · (intro wS hSw; (try dsimp only at hSw); go_simp; try with_reducible rfl)
              try simp only [Act.put, List.setIfInBounds_toArray, List.set_cons_zero, List.set_cons_succ]
              refine wpAnyH_take (i := 1) (v := ?_) (by simp only [List.getElem?_toArray, List.getElem?_cons_succ, List.getElem?_cons_zero]; rfl) (by kernel_rfl) (by kernel_rfl) (by kernel_rfl) (fun _ _ _ h => h) (Or.inl ⟨by rfl, ?_⟩) (by assumption) ?_
              rotate_left
              · (intro wS hSw; (try dsimp only at hSw); go_simp; try with_reducible rfl)
              try simp only [Act.put, List.setIfInBounds_toArray, List.set_cons_zero, List.set_cons_succ]
              refine wpAnyH_take (i := 2) (v := ?_) (by simp only [List.getElem?_toArray, List.getElem?_cons_succ, List.getElem?_cons_zero]; rfl) (by kernel_rfl) (by kernel_rfl) (by kernel_rfl) (fun _ _ _ h => h) (Or.inl ⟨by rfl, ?_⟩) (by assumption) ?_
              rotate_left
              · (intro wS hSw; (try dsimp only at hSw); go_simp; try with_reducible rfl)
              try simp only [Act.put, List.setIfInBounds_toArray, List.set_cons_zero, List.set_cons_succ]
              refine wpAnyH_take (i := 3) (v := ?_) (by simp only [List.getElem?_toArray, List.getElem?_cons_succ, List.getElem?_cons_zero]; rfl) (by kernel_rfl) (by kernel_rfl) (by kernel_rfl) (fun _ _ _ h => h) (Or.inl ⟨by rfl, ?_⟩) (by assumption) ?_
              rotate_left
              · (intro wS hSw; (try dsimp only at hSw); go_simp; try with_reducible rfl)
              try simp only [Act.put, List.setIfInBounds_toArray, List.set_cons_zero, List.set_cons_succ]
              refine wpAnyH_take (i := 4) (v := ?_) (by simp only [List.getElem?_toArray, List.getElem?_cons_succ, List.getElem?_cons_zero]; rfl) (by kernel_rfl) (by kernel_rfl) (by kernel_rfl) (fun _ _ _ h => h) (Or.inl ⟨by rfl, ?_⟩) (by assumption) ?_
              rotate_left
              · (intro wS hSw; (try dsimp only at hSw); go_simp; try with_reducible rfl)
              try simp only [Act.put, List.setIfInBounds_toArray, List.set_cons_zero, List.set_cons_succ]
              refine wpAnyH_take (i := 5) (v := ?_) (by simp only [List.getElem?_toArray, List.getElem?_cons_succ, List.getElem?_cons_zero]; rfl) (by kernel_rfl) (by kernel_rfl) (by kernel_rfl) (fun _ _ _ h => h) (Or.inl ⟨by rfl, ?_⟩) (by assumption) ?_
              rotate_left
              · (intro wS hSw; (try dsimp only at hSw); go_simp; try with_reducible rfl)
              try simp only [Act.put, List.setIfInBounds_toArray, List.set_cons_zero, List.set_cons_succ]
              refine wpAnyH_take (i := 6) (v := ?_) (by simp only [List.getElem?_toArray, List.getElem?_cons_succ, List.getElem?_cons_zero]; rfl) (by kernel_rfl) (by kernel_rfl) (by kernel_rfl) (fun _ _ _ h => h) (Or.inl ⟨by rfl, ?_⟩) (by assumption) ?_
              rotate_left
              · (intro wS hSw; (try dsimp only at hSw); have hc := pw_cell hSw CX.out GX.out; go_simp; try with_reducible rfl)
              try simp only [Act.put, List.setIfInBounds_toArray, List.set_cons_zero, List.set_cons_succ]
              refine wpAnyH_take (i := 7) (v := ?_) (by simp only [List.getElem?_toArray, List.getElem?_cons_succ, List.getElem?_cons_zero]; rfl) (by kernel_rfl) (by kernel_rfl) (by kernel_rfl) (fun _ _ _ h => h) (Or.inl ⟨by rfl, ?_⟩) (by assumption) ?_
              rotate_left
              · (intro wS hSw; (try dsimp only at hSw); go_simp; try with_reducible rfl)
              try simp only [Act.put, List.setIfInBounds_toArray, List.set_cons_zero, List.set_cons_succ]
              refine wpAnyH_take (i := 8) (v := ?_) (by simp only [List.getElem?_toArray, List.getElem?_cons_succ, List.getElem?_cons_zero]; rfl) (by kernel_rfl) (by kernel_rfl) (by kernel_rfl) (fun _ _ _ h => h) (Or.inl ⟨by rfl, ?_⟩) (by assumption) ?_
              rotate_left
              · (intro wS hSw; (try dsimp only at hSw); go_simp; try with_reducible rfl)
              try simp only [Act.put, List.setIfInBounds_toArray, List.set_cons_zero, List.set_cons_succ]
              refine wpAnyH_take (i := 9) (v := ?_) (by simp only [List.getElem?_toArray, List.getElem?_cons_succ, List.getElem?_cons_zero]; rfl) (by kernel_rfl) (by kernel_rfl) (by kernel_rfl) (fun _ _ _ h => h) (Or.inl ⟨by rfl, ?_⟩) (by assumption) ?_
              rotate_left
              · (intro wS hSw; (try dsimp only at hSw); go_simp; try with_reducible rfl)
              try simp only [Act.put, List.setIfInBounds_toArray, List.set_cons_zero, List.set_cons_succ]
              refine wpAnyH_take (i := 10) (v := ?_) (by simp only [List.getElem?_toArray, List.getElem?_cons_succ, List.getElem?_cons_zero]; rfl) (by kernel_rfl) (by kernel_rfl) (by kernel_rfl) (fun _ _ _ h => h) (Or.inl ⟨by rfl, ?_⟩) (by assumption) ?_
              rotate_left
              · (intro wS hSw; (try dsimp only at hSw); have hc := pw_cell hSw CY.out GY.out; go_simp; try with_reducible rfl)
              try simp only [Act.put, List.setIfInBounds_toArray, List.set_cons_zero, List.set_cons_succ]
              refine wpAnyH_take (i := 11) (v := ?_) (by simp only [List.getElem?_toArray, List.getElem?_cons_succ, List.getElem?_cons_zero]; rfl) (by kernel_rfl) (by kernel_rfl) (by kernel_rfl) (fun _ _ _ h => h) (Or.inl ⟨by rfl, ?_⟩) (by assumption) ?_
              rotate_left
              · (intro wS hSw; (try dsimp only at hSw); go_simp; try with_reducible rfl)
              try simp only [Act.put, List.setIfInBounds_toArray, List.set_cons_zero, List.set_cons_succ]
              refine wpAnyH_take (i := 12) (v := ?_) (by simp only [List.getElem?_toArray, List.getElem?_cons_succ, List.getElem?_cons_zero]; rfl) (by kernel_rfl) (by kernel_rfl) (by kernel_rfl) (fun _ _ _ h => h) (Or.inl ⟨by rfl, ?_⟩) (by assumption) ?_
              rotate_left
              · (intro wS hSw; (try dsimp only at hSw); go_simp; try with_reducible rfl)
              try simp only [Act.put, List.setIfInBounds_toArray, List.set_cons_zero, List.set_cons_succ]
              refine wpAnyH_done (by kernel_rfl) ?_ _
              refine NoPanic.normal ?_
              go_wp2
              go_roundg m
              case measure => have := HK.out; omega
              case rel => exact ⟨k + 1, by first | rfl | go_num, ⟨by have := HK.out; omega⟩, ⟨hHeld⟩⟩
    · have HLP := Aside0.mk (show layIZ is = (sealZ 73 (bodyTo is 4), 0) from by rw [layIZ, if_pos h1])
      have HLQ := Aside0.mk (show layIZ now = ([], 2) from by rw [layIZ, if_neg h2])
      clear h1 h2 hl hi hq hlow hnow
      go_enter Try.func22, Try.ntmps22
      go_wp2_with (first | ((with_reducible refine gate_dst (N := 3) rfl ?_); refine box_event ?hg3 (N := 3) ?hd3 (cs := (nums .i64 is).toArray) (t := 74) ?hr3 ?_; (case hd3 => rfl); (case hg3 => rfl); (case hr3 => first | (go_simp; done) | (go_simp; rfl)); intro g3 hg w0a hbox hb; have Ba := Aside0.mk (below_step HB0.out hb); have Ka := Aside0.mk (show HA w0a g3 74 .i64 is from hbox); clear hg hbox hb) | ((with_reducible refine gate_dst (N := 4) rfl ?_); refine box_event ?hg4 (N := 4) ?hd4 (cs := (nums .i64 i).toArray) (t := 73) ?hr4 ?_; (case hd4 => rfl); (case hg4 => rfl); (case hr4 => first | (go_simp; done) | (go_simp; rfl)); intro g4 hg w0 hbox hb; have B0 := Aside0.mk (below_step Ba.out hb); have KI0 := Aside0.mk (show HA w0 g4 73 .i64 i from hbox); have KS0 := Aside0.mk (Ka.out.below hb); clear hg hbox hb))
      refine (purlinlaw0_Low.calls at_ 4 (q : Int) w0 FL.out).mono ?_
      rintro e1 w1 ⟨rfl, hB⟩
      have B1 := Aside0.mk (below_step B0.out hB)
      have KI1 := Aside0.mk (KI0.out.below hB)
      have KS1 := Aside0.mk (KS0.out.below hB)
      clear hB
      have q0 : (0 : Int) ≤ (q : Int) := by omega
      have q1 : (q : Int) < 4 := by have := HQ.out; omega
      go_wp2_with (first | ((with_reducible refine gate_dst (N := 16) rfl ?_); (try (refine gate_guard (by rfl) ?_; dsimp only)); refine load_row_event rfl _ rfl KS1.out rfl (by rw [HL.out]; exact row74) ?_) | ((with_reducible refine gate_dst (N := 7) rfl ?_); refine box_event ?hg7 (N := 7) ?hd7 (cs := (nums .i64 zero44).toArray) (t := 74) ?hr7 ?_; (case hd7 => rfl); (case hg7 => rfl); (case hr7 => first | (go_simp; done) | (go_simp; rfl)); intro g7 hg w2 hbox hb; have B2 := Aside0.mk (below_step B1.out hb); have K7 := Aside0.mk (show HA w2 g7 74 .i64 zero44 from hbox); have KI2 := Aside0.mk (KI1.out.below hb); have KS2 := Aside0.mk (KS1.out.below hb); have G7 := Aside0.mk (show w1.heap.size ≤ g7 from by omega); have N37 := Aside0.mk (show some g3 ≠ some g7 from by have := KS1.out.lt; intro h; injection h with h; omega); have N47 := Aside0.mk (show some g4 ≠ some g7 from by have := KI1.out.lt; intro h; injection h with h; omega); clear hg hbox hb) | ((with_reducible refine gate_store (t := 74) (p := 7) rfl ?_); refine store_row_event (w0 := w) rfl rfl 7 _ rfl (new := is) K7.out rfl rfl (by rw [HL.out]; exact row74) HL.out.symm (by have := G7.out; have := B1.out.size; omega) B2.out ?_; intro w3 hk hgr hb; have K73 := Aside0.mk (show HA w3 g7 74 .i64 is from hk); have B3 := Aside0.mk hb; have KI3 := Aside0.mk (KI2.out.grown hgr N47.out); have KS3 := Aside0.mk (KS2.out.grown hgr N37.out); clear hk hgr hb) | ((with_reducible refine gate_dst (N := 18) rfl ?_); (try (refine gate_guard (by rfl) ?_; dsimp only)); refine load_row_event rfl _ rfl KI3.out rfl (by rw [HI.out]; exact row73) ?_) | ((with_reducible refine gate_store (t := 73) (p := 19) rfl ?_); refine store_mid_event (w0 := w) (lo := q * 11) rfl rfl 19 _ rfl (new := i) K73.out rfl rfl row73 HI.out (by rw [HL.out]; have := HQ.out; omega) (by have := G7.out; have := B1.out.size; omega) B3.out ?_; intro w4 hk hgr hb; have K74 := Aside0.mk (show HA w4 g7 74 .i64 now from by rw [Nat.mul_comm q 11] at hk; rw [HNOW.out]; exact hk); have B4 := Aside0.mk hb; have KI4 := Aside0.mk (KI3.out.grown hgr N47.out); have KS4 := Aside0.mk (KS3.out.grown hgr N37.out); clear hk hgr hb) | ((with_reducible refine gate_dst (N := 21) rfl ?_); (try (refine gate_guard (by rfl) ?_; dsimp only)); refine load_row_event rfl _ rfl KS4.out rfl (by rw [HL.out]; exact row74) ?_))
      refine (inode_Lay.calls is HL.out w4).mono ?_
      rintro e5 w5 ⟨vx, rfl, hx, hB⟩
      rw [HLP.out] at hx
      rw [HLP.out]
      have HX5 := Aside0.mk (Kd.R_bound hx)
      have B5 := Aside0.mk (below_step B4.out hB)
      have KI5 := Aside0.mk (KI4.out.below hB)
      have KS5 := Aside0.mk (KS4.out.below hB)
      have K75 := Aside0.mk (K74.out.below hB)
      clear hx hB
      go_wp2_with (first | ((with_reducible refine gate_dst (N := 26) rfl ?_); (try (refine gate_guard (by rfl) ?_; dsimp only)); refine load_row_event rfl _ rfl K75.out rfl (by rw [HNL.out]; exact row74) ?_))
      refine (inode_Lay.calls now HNL.out w5).mono ?_
      rintro e6 w6 ⟨vy, rfl, hy, hB⟩
      rw [HLQ.out] at hy
      rw [HLQ.out]
      have HY6 := Aside0.mk (Kd.R_bound hy)
      have HX6 := Aside0.mk (Kd.R_below HX5.out hB)
      have B6 := Aside0.mk (below_step B5.out hB)
      have KI6 := Aside0.mk (KI5.out.below hB)
      have KS6 := Aside0.mk (KS5.out.below hB)
      clear hy hB
      obtain ⟨Ax, cx, rfl⟩ := Kd.R_slice HX6.out
      obtain ⟨Ay, cy, rfl⟩ := Kd.R_slice HY6.out
      go_wp2_with fail
      refine (purlinlaw7_awake.calls w6).mono ?_
      rintro e17 w17 ⟨rfl, hD⟩
      have B17 := Aside0.mk (below_step B6.out hD)
      clear hD
      go_wp2
      go_ret
      exact ⟨rfl, B17.out⟩
  · have HLP := Aside0.mk (show layIZ is = ([], 2) from by rw [layIZ, if_neg h1])
    by_cases h2 : okTo now 4 = true
    · have HLQ := Aside0.mk (show layIZ now = (sealZ 73 (bodyTo now 4), 0) from by rw [layIZ, if_pos h2])
      clear h1 h2 hl hi hq hlow hnow
      go_enter Try.func22, Try.ntmps22
      go_wp2_with (first | ((with_reducible refine gate_dst (N := 3) rfl ?_); refine box_event ?hg3 (N := 3) ?hd3 (cs := (nums .i64 is).toArray) (t := 74) ?hr3 ?_; (case hd3 => rfl); (case hg3 => rfl); (case hr3 => first | (go_simp; done) | (go_simp; rfl)); intro g3 hg w0a hbox hb; have Ba := Aside0.mk (below_step HB0.out hb); have Ka := Aside0.mk (show HA w0a g3 74 .i64 is from hbox); clear hg hbox hb) | ((with_reducible refine gate_dst (N := 4) rfl ?_); refine box_event ?hg4 (N := 4) ?hd4 (cs := (nums .i64 i).toArray) (t := 73) ?hr4 ?_; (case hd4 => rfl); (case hg4 => rfl); (case hr4 => first | (go_simp; done) | (go_simp; rfl)); intro g4 hg w0 hbox hb; have B0 := Aside0.mk (below_step Ba.out hb); have KI0 := Aside0.mk (show HA w0 g4 73 .i64 i from hbox); have KS0 := Aside0.mk (Ka.out.below hb); clear hg hbox hb))
      refine (purlinlaw0_Low.calls at_ 4 (q : Int) w0 FL.out).mono ?_
      rintro e1 w1 ⟨rfl, hB⟩
      have B1 := Aside0.mk (below_step B0.out hB)
      have KI1 := Aside0.mk (KI0.out.below hB)
      have KS1 := Aside0.mk (KS0.out.below hB)
      clear hB
      have q0 : (0 : Int) ≤ (q : Int) := by omega
      have q1 : (q : Int) < 4 := by have := HQ.out; omega
      go_wp2_with (first | ((with_reducible refine gate_dst (N := 16) rfl ?_); (try (refine gate_guard (by rfl) ?_; dsimp only)); refine load_row_event rfl _ rfl KS1.out rfl (by rw [HL.out]; exact row74) ?_) | ((with_reducible refine gate_dst (N := 7) rfl ?_); refine box_event ?hg7 (N := 7) ?hd7 (cs := (nums .i64 zero44).toArray) (t := 74) ?hr7 ?_; (case hd7 => rfl); (case hg7 => rfl); (case hr7 => first | (go_simp; done) | (go_simp; rfl)); intro g7 hg w2 hbox hb; have B2 := Aside0.mk (below_step B1.out hb); have K7 := Aside0.mk (show HA w2 g7 74 .i64 zero44 from hbox); have KI2 := Aside0.mk (KI1.out.below hb); have KS2 := Aside0.mk (KS1.out.below hb); have G7 := Aside0.mk (show w1.heap.size ≤ g7 from by omega); have N37 := Aside0.mk (show some g3 ≠ some g7 from by have := KS1.out.lt; intro h; injection h with h; omega); have N47 := Aside0.mk (show some g4 ≠ some g7 from by have := KI1.out.lt; intro h; injection h with h; omega); clear hg hbox hb) | ((with_reducible refine gate_store (t := 74) (p := 7) rfl ?_); refine store_row_event (w0 := w) rfl rfl 7 _ rfl (new := is) K7.out rfl rfl (by rw [HL.out]; exact row74) HL.out.symm (by have := G7.out; have := B1.out.size; omega) B2.out ?_; intro w3 hk hgr hb; have K73 := Aside0.mk (show HA w3 g7 74 .i64 is from hk); have B3 := Aside0.mk hb; have KI3 := Aside0.mk (KI2.out.grown hgr N47.out); have KS3 := Aside0.mk (KS2.out.grown hgr N37.out); clear hk hgr hb) | ((with_reducible refine gate_dst (N := 18) rfl ?_); (try (refine gate_guard (by rfl) ?_; dsimp only)); refine load_row_event rfl _ rfl KI3.out rfl (by rw [HI.out]; exact row73) ?_) | ((with_reducible refine gate_store (t := 73) (p := 19) rfl ?_); refine store_mid_event (w0 := w) (lo := q * 11) rfl rfl 19 _ rfl (new := i) K73.out rfl rfl row73 HI.out (by rw [HL.out]; have := HQ.out; omega) (by have := G7.out; have := B1.out.size; omega) B3.out ?_; intro w4 hk hgr hb; have K74 := Aside0.mk (show HA w4 g7 74 .i64 now from by rw [Nat.mul_comm q 11] at hk; rw [HNOW.out]; exact hk); have B4 := Aside0.mk hb; have KI4 := Aside0.mk (KI3.out.grown hgr N47.out); have KS4 := Aside0.mk (KS3.out.grown hgr N37.out); clear hk hgr hb) | ((with_reducible refine gate_dst (N := 21) rfl ?_); (try (refine gate_guard (by rfl) ?_; dsimp only)); refine load_row_event rfl _ rfl KS4.out rfl (by rw [HL.out]; exact row74) ?_))
      refine (inode_Lay.calls is HL.out w4).mono ?_
      rintro e5 w5 ⟨vx, rfl, hx, hB⟩
      rw [HLP.out] at hx
      rw [HLP.out]
      have HX5 := Aside0.mk (Kd.R_bound hx)
      have B5 := Aside0.mk (below_step B4.out hB)
      have KI5 := Aside0.mk (KI4.out.below hB)
      have KS5 := Aside0.mk (KS4.out.below hB)
      have K75 := Aside0.mk (K74.out.below hB)
      clear hx hB
      go_wp2_with (first | ((with_reducible refine gate_dst (N := 26) rfl ?_); (try (refine gate_guard (by rfl) ?_; dsimp only)); refine load_row_event rfl _ rfl K75.out rfl (by rw [HNL.out]; exact row74) ?_))
      refine (inode_Lay.calls now HNL.out w5).mono ?_
      rintro e6 w6 ⟨vy, rfl, hy, hB⟩
      rw [HLQ.out] at hy
      rw [HLQ.out]
      have HY6 := Aside0.mk (Kd.R_bound hy)
      have HX6 := Aside0.mk (Kd.R_below HX5.out hB)
      have B6 := Aside0.mk (below_step B5.out hB)
      have KI6 := Aside0.mk (KI5.out.below hB)
      have KS6 := Aside0.mk (KS5.out.below hB)
      clear hy hB
      obtain ⟨Ax, cx, rfl⟩ := Kd.R_slice HX6.out
      obtain ⟨Ay, cy, rfl⟩ := Kd.R_slice HY6.out
      go_wp2_with fail
      refine (purlinlaw7_awake.calls w6).mono ?_
      rintro e17 w17 ⟨rfl, hD⟩
      have B17 := Aside0.mk (below_step B6.out hD)
      clear hD
      go_wp2
      go_ret
      exact ⟨rfl, B17.out⟩
    · have HLQ := Aside0.mk (show layIZ now = ([], 2) from by rw [layIZ, if_neg h2])
      clear h1 h2 hl hi hq hlow hnow
      go_enter Try.func22, Try.ntmps22
      go_wp2_with (first | ((with_reducible refine gate_dst (N := 3) rfl ?_); refine box_event ?hg3 (N := 3) ?hd3 (cs := (nums .i64 is).toArray) (t := 74) ?hr3 ?_; (case hd3 => rfl); (case hg3 => rfl); (case hr3 => first | (go_simp; done) | (go_simp; rfl)); intro g3 hg w0a hbox hb; have Ba := Aside0.mk (below_step HB0.out hb); have Ka := Aside0.mk (show HA w0a g3 74 .i64 is from hbox); clear hg hbox hb) | ((with_reducible refine gate_dst (N := 4) rfl ?_); refine box_event ?hg4 (N := 4) ?hd4 (cs := (nums .i64 i).toArray) (t := 73) ?hr4 ?_; (case hd4 => rfl); (case hg4 => rfl); (case hr4 => first | (go_simp; done) | (go_simp; rfl)); intro g4 hg w0 hbox hb; have B0 := Aside0.mk (below_step Ba.out hb); have KI0 := Aside0.mk (show HA w0 g4 73 .i64 i from hbox); have KS0 := Aside0.mk (Ka.out.below hb); clear hg hbox hb))
      refine (purlinlaw0_Low.calls at_ 4 (q : Int) w0 FL.out).mono ?_
      rintro e1 w1 ⟨rfl, hB⟩
      have B1 := Aside0.mk (below_step B0.out hB)
      have KI1 := Aside0.mk (KI0.out.below hB)
      have KS1 := Aside0.mk (KS0.out.below hB)
      clear hB
      have q0 : (0 : Int) ≤ (q : Int) := by omega
      have q1 : (q : Int) < 4 := by have := HQ.out; omega
      go_wp2_with (first | ((with_reducible refine gate_dst (N := 16) rfl ?_); (try (refine gate_guard (by rfl) ?_; dsimp only)); refine load_row_event rfl _ rfl KS1.out rfl (by rw [HL.out]; exact row74) ?_) | ((with_reducible refine gate_dst (N := 7) rfl ?_); refine box_event ?hg7 (N := 7) ?hd7 (cs := (nums .i64 zero44).toArray) (t := 74) ?hr7 ?_; (case hd7 => rfl); (case hg7 => rfl); (case hr7 => first | (go_simp; done) | (go_simp; rfl)); intro g7 hg w2 hbox hb; have B2 := Aside0.mk (below_step B1.out hb); have K7 := Aside0.mk (show HA w2 g7 74 .i64 zero44 from hbox); have KI2 := Aside0.mk (KI1.out.below hb); have KS2 := Aside0.mk (KS1.out.below hb); have G7 := Aside0.mk (show w1.heap.size ≤ g7 from by omega); have N37 := Aside0.mk (show some g3 ≠ some g7 from by have := KS1.out.lt; intro h; injection h with h; omega); have N47 := Aside0.mk (show some g4 ≠ some g7 from by have := KI1.out.lt; intro h; injection h with h; omega); clear hg hbox hb) | ((with_reducible refine gate_store (t := 74) (p := 7) rfl ?_); refine store_row_event (w0 := w) rfl rfl 7 _ rfl (new := is) K7.out rfl rfl (by rw [HL.out]; exact row74) HL.out.symm (by have := G7.out; have := B1.out.size; omega) B2.out ?_; intro w3 hk hgr hb; have K73 := Aside0.mk (show HA w3 g7 74 .i64 is from hk); have B3 := Aside0.mk hb; have KI3 := Aside0.mk (KI2.out.grown hgr N47.out); have KS3 := Aside0.mk (KS2.out.grown hgr N37.out); clear hk hgr hb) | ((with_reducible refine gate_dst (N := 18) rfl ?_); (try (refine gate_guard (by rfl) ?_; dsimp only)); refine load_row_event rfl _ rfl KI3.out rfl (by rw [HI.out]; exact row73) ?_) | ((with_reducible refine gate_store (t := 73) (p := 19) rfl ?_); refine store_mid_event (w0 := w) (lo := q * 11) rfl rfl 19 _ rfl (new := i) K73.out rfl rfl row73 HI.out (by rw [HL.out]; have := HQ.out; omega) (by have := G7.out; have := B1.out.size; omega) B3.out ?_; intro w4 hk hgr hb; have K74 := Aside0.mk (show HA w4 g7 74 .i64 now from by rw [Nat.mul_comm q 11] at hk; rw [HNOW.out]; exact hk); have B4 := Aside0.mk hb; have KI4 := Aside0.mk (KI3.out.grown hgr N47.out); have KS4 := Aside0.mk (KS3.out.grown hgr N37.out); clear hk hgr hb) | ((with_reducible refine gate_dst (N := 21) rfl ?_); (try (refine gate_guard (by rfl) ?_; dsimp only)); refine load_row_event rfl _ rfl KS4.out rfl (by rw [HL.out]; exact row74) ?_))
      refine (inode_Lay.calls is HL.out w4).mono ?_
      rintro e5 w5 ⟨vx, rfl, hx, hB⟩
      rw [HLP.out] at hx
      rw [HLP.out]
      have HX5 := Aside0.mk (Kd.R_bound hx)
      have B5 := Aside0.mk (below_step B4.out hB)
      have KI5 := Aside0.mk (KI4.out.below hB)
      have KS5 := Aside0.mk (KS4.out.below hB)
      have K75 := Aside0.mk (K74.out.below hB)
      clear hx hB
      go_wp2_with (first | ((with_reducible refine gate_dst (N := 26) rfl ?_); (try (refine gate_guard (by rfl) ?_; dsimp only)); refine load_row_event rfl _ rfl K75.out rfl (by rw [HNL.out]; exact row74) ?_))
      refine (inode_Lay.calls now HNL.out w5).mono ?_
      rintro e6 w6 ⟨vy, rfl, hy, hB⟩
      rw [HLQ.out] at hy
      rw [HLQ.out]
      have HY6 := Aside0.mk (Kd.R_bound hy)
      have HX6 := Aside0.mk (Kd.R_below HX5.out hB)
      have B6 := Aside0.mk (below_step B5.out hB)
      have KI6 := Aside0.mk (KI5.out.below hB)
      have KS6 := Aside0.mk (KS5.out.below hB)
      clear hy hB
      obtain ⟨Ax, cx, rfl⟩ := Kd.R_slice HX6.out
      obtain ⟨Ay, cy, rfl⟩ := Kd.R_slice HY6.out
      go_wp2_with fail
      refine (purlinlaw7_awake.calls w6).mono ?_
      rintro e17 w17 ⟨rfl, hD⟩
      have B17 := Aside0.mk (below_step B6.out hD)
      clear hD
      go_wp2
      go_ret
      exact ⟨rfl, B17.out⟩
theorem purlinlaw7_InodeSlots.walk (is i : List Int) (at_ : Int) (w : World) (hl : is.length = 44) (hw : ∀ x ∈ is, (Lit.int .i64 x).wf = true) (hi : i.length = 11) (hw2 : ∀ x ∈ i, (Lit.int .i64 x).wf = true) (w2 : (Lit.int .i64 at_).wf = true) :
    Calls Try.prog 22 #[.agg (nums .i64 is).toArray, .agg (nums .i64 i).toArray, .int .i64 at_] w fun e w' => e = .returned (.bool true) ∧ Below w.heap.size w w' := purlinlaw7_InodeSlots.calls is i at_ w hl hi
end Go.Proofs.Ytnhpmmmkcemnmaa.Pc
