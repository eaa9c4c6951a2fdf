/- The walk of PtrApart, by hand: it answers true whatever it is given. -/
import Derived.Test.YtnhpmmmkcemnmaaHpd
import Derived.Test.YtnhpmmmkcemnmaaPcx5
import Derived.Deep.RegionHeld3
namespace Go.Proofs.Ytnhpmmmkcemnmaa.Pc
open Go.RowKit Go.Proofs.YtnhpmmmkcemnmaaW.PrintWords Go.Proofs.YtnhpmmmkcemnmaaW.PrintLast Go.Proofs.YtnhpmmmkcemnmaaW.PrintMore
set_option linter.unusedVariables false
set_option linter.unusedSimpArgs false

theorem R_C' {w : World} {base : Nat} {ok : Nat → Prop} {A : Option Addr} {n c : Nat} {xs : List Int} (h : Kd.R (Kd.int .u8) 5 w base ok (.slice A n c) xs) : Kd.C (Kd.int .u8) w A xs.length xs ∧ xs.length ≤ c := by
  obtain ⟨hn, hc, hC⟩ := Kd.R_reads' h
  subst hn
  exact ⟨hC, hc⟩
theorem Low_at (x : Int) : ∃ q : Nat, q < 128 ∧ purlinlaw0_Low.f x 128 = some (q : Int) := by
  obtain ⟨r, h, h0, h1⟩ := Low_is x 128 (by omega) (by omega)
  exact ⟨r.toNat, by omega, by rw [h, Int.toNat_of_nonneg h0]⟩

set_option maxHeartbeats 12800000 in
set_option maxRecDepth 100000 in
theorem purlinlaw8_PtrApart.calls (ps qs : List Int) (at_ by_ : Int) (w : World) (hl : ps.length = 12) (hm : qs.length = 12) (bb : 0 ≤ by_ ∧ by_ < 256) :
    Calls Try.prog 11 #[.agg (nums .i64 ps).toArray, .agg (nums .i64 qs).toArray, .int .i64 at_, .int .u8 by_] w fun e w' => e = .returned (.bool true) ∧ Below w.heap.size w w' := by
  have HL := Aside0.mk hl
  have HM := Aside0.mk hm
  have BB := Aside0.mk bb
  have HB0 := Aside0.mk (Below.refl w.heap.size w)
  obtain ⟨q, hq, hlow⟩ := Low_at at_
  have HQ := Aside0.mk hq
  have FL := Aside0.mk hlow
  clear hl hm bb hq hlow
  by_cases h1 : ptrOk ps = true
  · by_cases h2 : ptrOk qs = true
    · have HRT0 := ptrRead_turned HL.out h1 q HQ.out by_ BB.out
      have hinj := ptrLay_inj HL.out HM.out h1 h2
      have hsb := sealZ_by (k := 80) (by omega) (by omega) (ptrBody_by h1)
      obtain ⟨X, hX⟩ : ∃ X, X = sealZ 80 (ptrBody ps) := ⟨_, rfl⟩
      have HLP := Aside0.mk (show ptrLayZ ps = (X, 0) from by rw [ptrLayZ, if_pos h1, hX])
      have HXL := Aside0.mk (show X.length = 128 from by rw [hX]; exact sealZ_len 80 _ (by rw [ptrBody_len, HL.out]; omega))
      obtain ⟨Z, hZ⟩ : ∃ Z, Z = sealZ 80 (ptrBody qs) := ⟨_, rfl⟩
      have HLQ := Aside0.mk (show ptrLayZ qs = (Z, 0) from by rw [ptrLayZ, if_pos h2, hZ])
      have HZL := Aside0.mk (show Z.length = 128 from by rw [hZ]; exact sealZ_len 80 _ (by rw [ptrBody_len, HM.out]; omega))
      rw [← hX] at HRT0 hinj hsb
      rw [← hZ] at hinj
      have hx8 := xor8 (X.getD q 0) by_ (hsb.getD q) BB.out
      have HYB := Aside0.mk (show By (X.set q (Go.bits .xor .u8 (X.getD q 0) by_)) from hsb.set_ q _ hx8.1 hx8.2.1)
      have F50 := same_is X Z (by rw [HXL.out]; omega) 400 (by rw [HXL.out]; omega)
      rw [hinj] at F50
      clear hX hZ hinj hsb hx8 h1 h2
      by_cases b0 : by_ = 0
      · rw [if_pos b0] at HRT0
        have HRT := Aside0.mk HRT0
        have d0 : (by_ == 0) = true := beq_iff_eq.mpr b0
        clear HRT0 b0
        cases hsm : (ps == qs) with
        | true =>
          rw [hsm] at F50
          have F5 := Aside0.mk F50
          have HSM := Aside0.mk hsm
          clear F50 hsm
          go_enter Try.func11, Try.ntmps11
          go_wp2_with (first | ((with_reducible refine gate_dst (N := 4) rfl ?_); refine box_event ?hg4 (N := 4) ?hd4 (cs := (nums .i64 ps).toArray) (t := 49) ?hr4 ?_; (case hd4 => rfl); (case hg4 => rfl); (case hr4 => first | (go_simp; done) | (go_simp; rfl)); intro g4 hg w0a hbox hb; have Ba := Aside0.mk (below_step HB0.out hb); have Ka := Aside0.mk (show HA w0a g4 49 .i64 ps from hbox); clear hg hbox hb) | ((with_reducible refine gate_dst (N := 5) rfl ?_); refine box_event ?hg5 (N := 5) ?hd5 (cs := (nums .i64 qs).toArray) (t := 49) ?hr5 ?_; (case hd5 => rfl); (case hg5 => rfl); (case hr5 => first | (go_simp; done) | (go_simp; rfl)); intro g5 hg w0 hbox hb; have B0 := Aside0.mk (below_step Ba.out hb); have K0 := Aside0.mk (show HA w0 g5 49 .i64 qs from hbox); have KP0 := Aside0.mk (Ka.out.below hb); clear hg hbox hb) | ((with_reducible refine gate_dst (N := 17) rfl ?_); refine load_row_event rfl _ rfl KP0.out rfl (by rw [HL.out]; exact row49) ?_))
          refine (ptr_Lay.calls ps HL.out w0).mono ?_
          rintro e1 w1 ⟨vx, rfl, hx, hB⟩
          rw [HLP.out] at hx
          rw [HLP.out]
          have HX1 := Aside0.mk (Kd.R_bound hx)
          have B1 := Aside0.mk (below_step B0.out hB)
          have KP1 := Aside0.mk (KP0.out.below hB)
          have KQ1 := Aside0.mk (K0.out.below hB)
          clear hx hB
          go_wp2_with (first | ((with_reducible refine gate_dst (N := 22) rfl ?_); refine load_row_event rfl _ rfl KQ1.out rfl (by rw [HM.out]; exact row49) ?_))
          refine (ptr_Lay.calls qs HM.out w1).mono ?_
          rintro e2 w2 ⟨vy, rfl, hy, hB⟩
          rw [HLQ.out] at hy
          rw [HLQ.out]
          have HY2 := Aside0.mk (Kd.R_bound hy)
          have HX2 := Aside0.mk (Kd.R_below HX1.out hB)
          have B2 := Aside0.mk (below_step B1.out hB)
          have KP2 := Aside0.mk (KP1.out.below hB)
          have KQ2 := Aside0.mk (KQ1.out.below hB)
          have S12 := Aside0.mk hB.size
          clear hy hB
          obtain ⟨gx, cx, hv, hgl, hgx, hcx, hcell⟩ := R_at HX2.out (by rw [HXL.out]; omega)
          subst hv
          have GX := Aside0.mk (show w1.heap.size ≤ gx ∨ w.heap.size ≤ gx from by have := B1.out.size; right; have := B0.out.size; omega)
          have GW := Aside0.mk (show w.heap.size ≤ gx from by have := B0.out.size; omega)
          have NP := Aside0.mk (show g4 ≠ gx from by have := KP0.out.lt; omega)
          have NQ := Aside0.mk (show g5 ≠ gx from by have := K0.out.lt; omega)
          obtain ⟨Ay, cy, rfl⟩ := Kd.R_slice HY2.out
          have HXC := Aside0.mk (R_C' HX2.out).1
          have HXC2 := Aside0.mk (R_C' HX2.out).2
          have HYC := Aside0.mk (R_C' HY2.out).1
          have HYC2 := Aside0.mk (R_C' HY2.out).2
          have hxl : ((X.length : Int) == 128) = true := (by rw [HXL.out]; rfl)
          have hxl2 : ((X.length : Int) != 128) = false := (by rw [HXL.out]; rfl)
          have hzl : ((Z.length : Int) == 128) = true := (by rw [HZL.out]; rfl)
          have hzl2 : ((Z.length : Int) != 128) = false := (by rw [HZL.out]; rfl)
          clear hgl hgx hcx hcell
          go_wp2
          refine wp_region_noPanic ?_
          refine wp_region_held_drew (S := (fun w' => Below w2.heap.size w2 w')) (by kernel_rfl) ?_ (fun hHeld => ?_)
          · (try dsimp only); exact below_drew (Below.refl _ _)
          refine wpAnyH_take (i := 0) (v := ?_) (by simp only [List.getElem?_toArray, List.getElem?_cons_succ, List.getElem?_cons_zero]; rfl) (by kernel_rfl) (by kernel_rfl) (by kernel_rfl) (fun _ _ _ h => h) (Or.inl ⟨by rfl, ?_⟩) (by assumption) ?_
          rotate_left
          · (intro wS hSw; (try dsimp only at hSw); go_simp; try with_reducible rfl)
          try simp only [Act.put, List.setIfInBounds_toArray, List.set_cons_zero, List.set_cons_succ]
          refine wpAnyH_take (i := 1) (v := ?_) (by simp only [List.getElem?_toArray, List.getElem?_cons_succ, List.getElem?_cons_zero]; rfl) (by kernel_rfl) (by kernel_rfl) (by kernel_rfl) (fun _ _ _ h => h) (Or.inl ⟨by rfl, ?_⟩) (by assumption) ?_
          rotate_left
          · (intro wS hSw; (try dsimp only at hSw); go_simp; try with_reducible rfl)
          try simp only [Act.put, List.setIfInBounds_toArray, List.set_cons_zero, List.set_cons_succ]
          refine wpAnyH_take (i := 3) (v := .agg (nums .i64 ps).toArray) (by simp only [List.getElem?_toArray, List.getElem?_cons_succ, List.getElem?_cons_zero]; rfl) (by kernel_rfl) (by kernel_rfl) (by kernel_rfl) (fun _ _ _ h => h) (Or.inl ⟨by rfl, ?_⟩) (by assumption) ?_
          · (intro wS hSw; (try dsimp only at hSw); exact load_row_exec (by rfl) (KP2.out.below hSw) (by rfl) (by rw [HL.out]; exact row49))
          try simp only [Act.put, List.setIfInBounds_toArray, List.set_cons_zero, List.set_cons_succ]
          refine wpAnyH_take (i := 4) (v := .agg (nums .i64 qs).toArray) (by simp only [List.getElem?_toArray, List.getElem?_cons_succ, List.getElem?_cons_zero]; rfl) (by kernel_rfl) (by kernel_rfl) (by kernel_rfl) (fun _ _ _ h => h) (Or.inl ⟨by rfl, ?_⟩) (by assumption) ?_
          · (intro wS hSw; (try dsimp only at hSw); exact load_row_exec (by rfl) (KQ2.out.below hSw) (by rfl) (by rw [HM.out]; exact row49))
          try simp only [Act.put, List.setIfInBounds_toArray, List.set_cons_zero, List.set_cons_succ]
          refine wpAnyH_take (i := 5) (v := .bool true) (by simp only [List.getElem?_toArray, List.getElem?_cons_succ, List.getElem?_cons_zero]; rfl) (by kernel_rfl) (by kernel_rfl) (by kernel_rfl) (fun _ _ _ h => h) (Or.inl ⟨by rfl, ?_⟩) (by assumption) ?_
          · (intro wS hSw; (try dsimp only at hSw); exact eq_row_exec (by rfl) eqrow49 ps qs HL.out HM.out true HSM.out (by rfl) (by rfl))
          try simp only [Act.put, List.setIfInBounds_toArray, List.set_cons_zero, List.set_cons_succ]
          refine wpAnyH_ready (rs := [2]) (by kernel_rfl) (by simp) ?_
          refine AllReadyH.cons (by simp only [List.getElem?_toArray, List.getElem?_cons_succ, List.getElem?_cons_zero]; rfl) (fun K hK => ?_) AllReadyH.nil
          go_simp
          refine (purlinlaw0_SameBytes.calls 400 _ _ X _ _ Z true _ (Kd.C_below HXC.out (below_drew (Below.refl _ _))) HXC2.out (Kd.C_below HYC.out (below_drew (Below.refl _ _))) HYC2.out F5.out).mono ?_
          rintro e3 w3 ⟨rfl, hD⟩
          have B3 := Aside0.mk (below_step (below_drew (Below.refl w2.heap.size w2)) hD.below)
          clear hD
          go_wp2_with fail
          refine hK.out _ _ ?_ (fun hHeld => ?_)
          · (try dsimp only); exact B3.out
          clear hK K
          try simp only [Act.put, List.setIfInBounds_toArray, List.set_cons_zero, List.set_cons_succ]
          refine wpAnyH_take (i := 6) (v := ?_) (by simp only [List.getElem?_toArray, List.getElem?_cons_succ, List.getElem?_cons_zero]; rfl) (by kernel_rfl) (by kernel_rfl) (by kernel_rfl) (fun _ _ _ h => h) (Or.inl ⟨by rfl, ?_⟩) (by assumption) ?_
          rotate_left
          · (intro wS hSw; (try dsimp only at hSw); go_simp; try with_reducible rfl)
          try simp only [Act.put, List.setIfInBounds_toArray, List.set_cons_zero, List.set_cons_succ]
          refine wpAnyH_take (i := 7) (v := ?_) (by simp only [List.getElem?_toArray, List.getElem?_cons_succ, List.getElem?_cons_zero]; rfl) (by kernel_rfl) (by kernel_rfl) (by kernel_rfl) (fun _ _ _ h => h) (Or.inl ⟨by rfl, ?_⟩) (by assumption) ?_
          rotate_left
          · (intro wS hSw; (try dsimp only at hSw); go_simp; try with_reducible rfl)
          try simp only [Act.put, List.setIfInBounds_toArray, List.set_cons_zero, List.set_cons_succ]
          refine wpAnyH_done (by kernel_rfl) ?_ _
          refine NoPanic.normal ?_
          have HX3 := Aside0.mk (Kd.R_below HX2.out hHeld)
          have B3w := Aside0.mk (below_step B2.out hHeld)
          have KP3 := Aside0.mk (KP2.out.below hHeld)
          have KQ3 := Aside0.mk (KQ2.out.below hHeld)
          clear hHeld hxl hxl2 hzl hzl2
          rw [HXL.out] at HX3
          rw [HXL.out]
          go_wp2_with fail
          refine (purlinlaw0_Low.calls at_ 128 (q : Int) _ FL.out).mono ?_
          rintro e4 w4 ⟨rfl, hB⟩
          have HX4 := Aside0.mk (Kd.R_below HX3.out hB)
          have B4 := Aside0.mk (below_step B3w.out hB)
          have KP4 := Aside0.mk (KP3.out.below hB)
          have KQ4 := Aside0.mk (KQ3.out.below hB)
          clear hB
          have q0 : (0 : Int) ≤ (q : Int) := by omega
          have q1 : (q : Int) < 128 := by have := HQ.out; omega
          have hc := (show w4.cell? ⟨gx, q, none⟩ = some (.int .u8 (X.getD q 0)) from by
            have h := (Kd.R_celln (enc := Value.int .u8) (h1 := fun _ => rfl) (0 : Int) HX4.out (q : Int) (by omega) (by have := HQ.out; omega)).1
            rw [Int.toNat_natCast] at h
            exact h)
          go_wp2_with (first | ((with_reducible refine gate_store (t := 5) (p := 83) rfl ?_); refine store_own_event (w0 := w) rfl rfl 83 _ rfl HX4.out q HQ.out (Go.bits .xor .u8 (X.getD q 0) by_) rfl rfl GW.out B4.out ?_; intro w5 hR hgr hb; have HX5 := Aside0.mk hR; have B5 := Aside0.mk hb; have KP5 := Aside0.mk (show HA w5 g4 49 .i64 ps from KP4.out.grown hgr (fun e => by cases e; exact NP.out rfl)); have KQ5 := Aside0.mk (show HA w5 g5 49 .i64 qs from KQ4.out.grown hgr (fun e => by cases e; exact NQ.out rfl)); clear hR hgr hb hc))
          have HYl : (X.set q (Go.bits .xor .u8 (X.getD q 0) by_)).length = 128 := by rw [List.length_set]; exact HXL.out
          have hr := ptr_Read.calls (some ⟨gx, 0, none⟩) cx (X.set q (Go.bits .xor .u8 (X.getD q 0) by_)) w5 (R_C' HX5.out).1 (R_C' HX5.out).2 HYB.out
          rw [HYl, HRT.out] at hr
          refine hr.mono ?_
          clear hr HYl
          rintro e6 w6 ⟨rfl, hB⟩
          have B6 := Aside0.mk (below_step B5.out hB)
          have KP6 := Aside0.mk (KP5.out.below hB)
          have KQ6 := Aside0.mk (KQ5.out.below hB)
          clear hB
          go_wp2_with (first | ((with_reducible refine gate_dst (N := 14) rfl ?_); refine box_event ?hg14 (N := 14) ?hd14 (cs := (nums .i64 zero12).toArray) (t := 49) ?hr14 ?_; (case hd14 => rfl); (case hg14 => rfl); (case hr14 => first | (go_simp; done) | (go_simp; rfl)); intro gv hg w7 hbox hb; have Gv := Aside0.mk (show w6.heap.size ≤ gv from by omega); have B7 := Aside0.mk (below_step B6.out hb); have Kv := Aside0.mk (show HA w7 gv 49 .i64 zero12 from hbox); have KP7 := Aside0.mk (KP6.out.below hb); have KQ7 := Aside0.mk (KQ6.out.below hb); clear hg hbox hb) | ((with_reducible refine gate_store (t := 49) (p := 14) rfl ?_); refine store_row_event (w0 := w) rfl rfl 14 _ rfl (new := ps) Kv.out rfl rfl (by rw [HL.out]; exact row49) HL.out.symm (by have := Gv.out; have := B6.out.size; omega) B7.out ?_; intro w8 hk hgr hb; have KV := Aside0.mk (show HA w8 gv 49 .i64 ps from hk); have B8 := Aside0.mk hb; have KP8 := Aside0.mk (show HA w8 g4 49 .i64 ps from KP7.out.grown hgr (fun e => by cases e; have := KP6.out.lt; have := Gv.out; omega)); have KQ8 := Aside0.mk (show HA w8 g5 49 .i64 qs from KQ7.out.grown hgr (fun e => by cases e; have := KQ6.out.lt; have := Gv.out; omega)); clear hk hgr hb))
          refine wp_region_noPanic ?_
          refine wp_region_held_drew (S := (fun w' => Below w8.heap.size w8 w')) (by kernel_rfl) ?_ (fun hHeld => ?_)
          · (try dsimp only); exact below_drew (Below.refl _ _)
          refine wpAnyH_take (i := 0) (v := ?_) (by simp only [List.getElem?_toArray, List.getElem?_cons_succ, List.getElem?_cons_zero]; rfl) (by kernel_rfl) (by kernel_rfl) (by kernel_rfl) (fun _ _ _ h => h) (Or.inl ⟨by rfl, ?_⟩) (by assumption) ?_
          rotate_left
          · (intro wS hSw; (try dsimp only at hSw); go_simp; try with_reducible rfl)
          try simp only [Act.put, List.setIfInBounds_toArray, List.set_cons_zero, List.set_cons_succ]
          refine wpAnyH_take (i := 1) (v := ?_) (by simp only [List.getElem?_toArray, List.getElem?_cons_succ, List.getElem?_cons_zero]; rfl) (by kernel_rfl) (by kernel_rfl) (by kernel_rfl) (fun _ _ _ h => h) (Or.inl ⟨by rfl, ?_⟩) (by assumption) ?_
          rotate_left
          · (intro wS hSw; (try dsimp only at hSw); go_simp; try with_reducible rfl)
          try simp only [Act.put, List.setIfInBounds_toArray, List.set_cons_zero, List.set_cons_succ]
          refine wpAnyH_take (i := 2) (v := ?_) (by simp only [List.getElem?_toArray, List.getElem?_cons_succ, List.getElem?_cons_zero]; rfl) (by kernel_rfl) (by kernel_rfl) (by kernel_rfl) (fun _ _ _ h => h) (Or.inl ⟨by rfl, ?_⟩) (by assumption) ?_
          rotate_left
          · (intro wS hSw; (try dsimp only at hSw); go_simp; try with_reducible rfl)
          try simp only [Act.put, List.setIfInBounds_toArray, List.set_cons_zero, List.set_cons_succ]
          refine wpAnyH_take (i := 3) (v := ?_) (by simp only [List.getElem?_toArray, List.getElem?_cons_succ, List.getElem?_cons_zero]; rfl) (by kernel_rfl) (by kernel_rfl) (by kernel_rfl) (fun _ _ _ h => h) (Or.inl ⟨by rfl, ?_⟩) (by assumption) ?_
          rotate_left
          · (intro wS hSw; (try dsimp only at hSw); go_simp; try with_reducible rfl)
          try simp only [Act.put, List.setIfInBounds_toArray, List.set_cons_zero, List.set_cons_succ]
          refine wpAnyH_take (i := 4) (v := ?_) (by simp only [List.getElem?_toArray, List.getElem?_cons_succ, List.getElem?_cons_zero]; rfl) (by kernel_rfl) (by kernel_rfl) (by kernel_rfl) (fun _ _ _ h => h) (Or.inl ⟨by rfl, ?_⟩) (by assumption) ?_
          rotate_left
          · (intro wS hSw; (try dsimp only at hSw); go_simp; try with_reducible rfl)
          try simp only [Act.put, List.setIfInBounds_toArray, List.set_cons_zero, List.set_cons_succ]
          refine wpAnyH_take (i := 5) (v := ?_) (by simp only [List.getElem?_toArray, List.getElem?_cons_succ, List.getElem?_cons_zero]; rfl) (by kernel_rfl) (by kernel_rfl) (by kernel_rfl) (fun _ _ _ h => h) (Or.inl ⟨by rfl, ?_⟩) (by assumption) ?_
          rotate_left
          · (intro wS hSw; (try dsimp only at hSw); go_simp; try with_reducible rfl)
          try simp only [Act.put, List.setIfInBounds_toArray, List.set_cons_zero, List.set_cons_succ]
          refine wpAnyH_take (i := 6) (v := ?_) (by simp only [List.getElem?_toArray, List.getElem?_cons_succ, List.getElem?_cons_zero]; rfl) (by kernel_rfl) (by kernel_rfl) (by kernel_rfl) (fun _ _ _ h => h) (Or.inl ⟨by rfl, ?_⟩) (by assumption) ?_
          rotate_left
          · (intro wS hSw; (try dsimp only at hSw); go_simp; try with_reducible rfl)
          try simp only [Act.put, List.setIfInBounds_toArray, List.set_cons_zero, List.set_cons_succ]
          refine wpAnyH_take (i := 7) (v := ?_) (by simp only [List.getElem?_toArray, List.getElem?_cons_succ, List.getElem?_cons_zero]; rfl) (by kernel_rfl) (by kernel_rfl) (by kernel_rfl) (fun _ _ _ h => h) (Or.inl ⟨by rfl, ?_⟩) (by assumption) ?_
          rotate_left
          · (intro wS hSw; (try dsimp only at hSw); go_simp; try with_reducible rfl)
          try simp only [Act.put, List.setIfInBounds_toArray, List.set_cons_zero, List.set_cons_succ]
          refine wpAnyH_take (i := 8) (v := ?_) (by simp only [List.getElem?_toArray, List.getElem?_cons_succ, List.getElem?_cons_zero]; rfl) (by kernel_rfl) (by kernel_rfl) (by kernel_rfl) (fun _ _ _ h => h) (Or.inl ⟨by rfl, ?_⟩) (by assumption) ?_
          rotate_left
          · (intro wS hSw; (try dsimp only at hSw); go_simp; try with_reducible rfl)
          try simp only [Act.put, List.setIfInBounds_toArray, List.set_cons_zero, List.set_cons_succ]
          refine wpAnyH_take (i := 9) (v := ?_) (by simp only [List.getElem?_toArray, List.getElem?_cons_succ, List.getElem?_cons_zero]; rfl) (by kernel_rfl) (by kernel_rfl) (by kernel_rfl) (fun _ _ _ h => h) (Or.inl ⟨by rfl, ?_⟩) (by assumption) ?_
          rotate_left
          · (intro wS hSw; (try dsimp only at hSw); go_simp; try with_reducible rfl)
          try simp only [Act.put, List.setIfInBounds_toArray, List.set_cons_zero, List.set_cons_succ]
          refine wpAnyH_take (i := 10) (v := ?_) (by simp only [List.getElem?_toArray, List.getElem?_cons_succ, List.getElem?_cons_zero]; rfl) (by kernel_rfl) (by kernel_rfl) (by kernel_rfl) (fun _ _ _ h => h) (Or.inl ⟨by rfl, ?_⟩) (by assumption) ?_
          rotate_left
          · (intro wS hSw; (try dsimp only at hSw); go_simp; try with_reducible rfl)
          try simp only [Act.put, List.setIfInBounds_toArray, List.set_cons_zero, List.set_cons_succ]
          refine wpAnyH_take (i := 11) (v := ?_) (by simp only [List.getElem?_toArray, List.getElem?_cons_succ, List.getElem?_cons_zero]; rfl) (by kernel_rfl) (by kernel_rfl) (by kernel_rfl) (fun _ _ _ h => h) (Or.inl ⟨by rfl, ?_⟩) (by assumption) ?_
          rotate_left
          · (intro wS hSw; (try dsimp only at hSw); go_simp; try with_reducible rfl)
          try simp only [Act.put, List.setIfInBounds_toArray, List.set_cons_zero, List.set_cons_succ]
          refine wpAnyH_take (i := 12) (v := .agg (nums .i64 ps).toArray) (by simp only [List.getElem?_toArray, List.getElem?_cons_succ, List.getElem?_cons_zero]; rfl) (by kernel_rfl) (by kernel_rfl) (by kernel_rfl) (fun _ _ _ h => h) (Or.inl ⟨by rfl, ?_⟩) (by assumption) ?_
          · (intro wS hSw; (try dsimp only at hSw); exact load_row_exec (by rfl) (KV.out.below hSw) (by rfl) (by rw [HL.out]; exact row49))
          try simp only [Act.put, List.setIfInBounds_toArray, List.set_cons_zero, List.set_cons_succ]
          refine wpAnyH_take (i := 13) (v := .agg (nums .i64 ps).toArray) (by simp only [List.getElem?_toArray, List.getElem?_cons_succ, List.getElem?_cons_zero]; rfl) (by kernel_rfl) (by kernel_rfl) (by kernel_rfl) (fun _ _ _ h => h) (Or.inl ⟨by rfl, ?_⟩) (by assumption) ?_
          · (intro wS hSw; (try dsimp only at hSw); exact load_row_exec (by rfl) (KP8.out.below hSw) (by rfl) (by rw [HL.out]; exact row49))
          try simp only [Act.put, List.setIfInBounds_toArray, List.set_cons_zero, List.set_cons_succ]
          refine wpAnyH_take (i := 14) (v := .bool true) (by simp only [List.getElem?_toArray, List.getElem?_cons_succ, List.getElem?_cons_zero]; rfl) (by kernel_rfl) (by kernel_rfl) (by kernel_rfl) (fun _ _ _ h => h) (Or.inl ⟨by rfl, ?_⟩) (by assumption) ?_
          · (intro wS hSw; (try dsimp only at hSw); exact eq_row_exec (by rfl) eqrow49 ps ps HL.out HL.out true (beq_self_eq_true ps) (by rfl) (by rfl))
          try simp only [Act.put, List.setIfInBounds_toArray, List.set_cons_zero, List.set_cons_succ]
          refine wpAnyH_take (i := 15) (v := ?_) (by simp only [List.getElem?_toArray, List.getElem?_cons_succ, List.getElem?_cons_zero]; rfl) (by kernel_rfl) (by kernel_rfl) (by kernel_rfl) (fun _ _ _ h => h) (Or.inl ⟨by rfl, ?_⟩) (by assumption) ?_
          rotate_left
          · (intro wS hSw; (try dsimp only at hSw); go_simp; try with_reducible rfl)
          try simp only [Act.put, List.setIfInBounds_toArray, List.set_cons_zero, List.set_cons_succ]
          refine wpAnyH_take (i := 16) (v := ?_) (by simp only [List.getElem?_toArray, List.getElem?_cons_succ, List.getElem?_cons_zero]; rfl) (by kernel_rfl) (by kernel_rfl) (by kernel_rfl) (fun _ _ _ h => h) (Or.inl ⟨by rfl, ?_⟩) (by assumption) ?_
          rotate_left
          · (intro wS hSw; (try dsimp only at hSw); go_simp; try with_reducible rfl)
          try simp only [Act.put, List.setIfInBounds_toArray, List.set_cons_zero, List.set_cons_succ]
          refine wpAnyH_take (i := 17) (v := ?_) (by simp only [List.getElem?_toArray, List.getElem?_cons_succ, List.getElem?_cons_zero]; rfl) (by kernel_rfl) (by kernel_rfl) (by kernel_rfl) (fun _ _ _ h => h) (Or.inl ⟨by rfl, ?_⟩) (by assumption) ?_
          rotate_left
          · (intro wS hSw; (try dsimp only at hSw); go_simp; try with_reducible rfl)
          try simp only [Act.put, List.setIfInBounds_toArray, List.set_cons_zero, List.set_cons_succ]
          refine wpAnyH_take (i := 18) (v := .agg (nums .i64 qs).toArray) (by simp only [List.getElem?_toArray, List.getElem?_cons_succ, List.getElem?_cons_zero]; rfl) (by kernel_rfl) (by kernel_rfl) (by kernel_rfl) (fun _ _ _ h => h) (Or.inl ⟨by rfl, ?_⟩) (by assumption) ?_
          · (intro wS hSw; (try dsimp only at hSw); exact load_row_exec (by rfl) (KQ8.out.below hSw) (by rfl) (by rw [HM.out]; exact row49))
          try simp only [Act.put, List.setIfInBounds_toArray, List.set_cons_zero, List.set_cons_succ]
          refine wpAnyH_take (i := 20) (v := .agg (nums .i64 qs).toArray) (by simp only [List.getElem?_toArray, List.getElem?_cons_succ, List.getElem?_cons_zero]; rfl) (by kernel_rfl) (by kernel_rfl) (by kernel_rfl) (fun _ _ _ h => h) (Or.inl ⟨by rfl, ?_⟩) (by assumption) ?_
          · (intro wS hSw; (try dsimp only at hSw); exact load_row_exec (by rfl) (KQ8.out.below hSw) (by rfl) (by rw [HM.out]; exact row49))
          try simp only [Act.put, List.setIfInBounds_toArray, List.set_cons_zero, List.set_cons_succ]
          refine wpAnyH_take (i := 21) (v := ?_) (by simp only [List.getElem?_toArray, List.getElem?_cons_succ, List.getElem?_cons_zero]; rfl) (by kernel_rfl) (by kernel_rfl) (by kernel_rfl) (fun _ _ _ h => h) (Or.inl ⟨by rfl, ?_⟩) (by assumption) ?_
          rotate_left
          · (intro wS hSw; (try dsimp only at hSw); go_simp; try with_reducible rfl)
          try simp only [Act.put, List.setIfInBounds_toArray, List.set_cons_zero, List.set_cons_succ]
          refine wpAnyH_take (i := 22) (v := .bool (qs == zero12)) (by simp only [List.getElem?_toArray, List.getElem?_cons_succ, List.getElem?_cons_zero]; rfl) (by kernel_rfl) (by kernel_rfl) (by kernel_rfl) (fun _ _ _ h => h) (Or.inl ⟨by rfl, ?_⟩) (by assumption) ?_
          · (intro wS hSw; (try dsimp only at hSw); exact eq_row_exec (by rfl) eqrow49 qs zero12 HM.out rfl (qs == zero12) rfl (by rfl) (by rfl))
          try simp only [Act.put, List.setIfInBounds_toArray, List.set_cons_zero, List.set_cons_succ]
          refine wpAnyH_ready (rs := [19]) (by kernel_rfl) (by simp) ?_
          refine AllReadyH.cons (by simp only [List.getElem?_toArray, List.getElem?_cons_succ, List.getElem?_cons_zero]; rfl) (fun K hK => ?_) AllReadyH.nil
          go_simp
          refine (ptr_Empty.calls qs HM.out _).mono ?_
          rintro e9 w9 ⟨rfl, hB⟩
          have B9 := Aside0.mk (below_step hHeld hB)
          clear hB
          go_wp2_with fail
          refine hK.out _ _ ?_ (fun hHeld => ?_)
          · (try dsimp only); exact B9.out
          clear hK K
          try simp only [Act.put, List.setIfInBounds_toArray, List.set_cons_zero, List.set_cons_succ]
          refine wpAnyH_take (i := 23) (v := ?_) (by simp only [List.getElem?_toArray, List.getElem?_cons_succ, List.getElem?_cons_zero]; rfl) (by kernel_rfl) (by kernel_rfl) (by kernel_rfl) (fun _ _ _ h => h) (Or.inl ⟨by rfl, ?_⟩) (by assumption) ?_
          rotate_left
          · (intro wS hSw; (try dsimp only at hSw); go_simp; try with_reducible rfl)
          try simp only [Act.put, List.setIfInBounds_toArray, List.set_cons_zero, List.set_cons_succ]
          refine wpAnyH_take (i := 24) (v := ?_) (by simp only [List.getElem?_toArray, List.getElem?_cons_succ, List.getElem?_cons_zero]; rfl) (by kernel_rfl) (by kernel_rfl) (by kernel_rfl) (fun _ _ _ h => h) (Or.inl ⟨by rfl, ?_⟩) (by assumption) ?_
          rotate_left
          · (intro wS hSw; (try dsimp only at hSw); go_simp; try with_reducible rfl)
          try simp only [Act.put, List.setIfInBounds_toArray, List.set_cons_zero, List.set_cons_succ]
          refine wpAnyH_take (i := 25) (v := ?_) (by simp only [List.getElem?_toArray, List.getElem?_cons_succ, List.getElem?_cons_zero]; rfl) (by kernel_rfl) (by kernel_rfl) (by kernel_rfl) (fun _ _ _ h => h) (Or.inl ⟨by rfl, ?_⟩) (by assumption) ?_
          rotate_left
          · (intro wS hSw; (try dsimp only at hSw); go_simp; try with_reducible rfl)
          try simp only [Act.put, List.setIfInBounds_toArray, List.set_cons_zero, List.set_cons_succ]
          refine wpAnyH_ready (rs := [26]) (by kernel_rfl) (by simp) ?_
          refine AllReadyH.cons (by simp only [List.getElem?_toArray, List.getElem?_cons_succ, List.getElem?_cons_zero]; rfl) (fun K hK => ?_) AllReadyH.nil
          go_simp
          refine (purlinlaw8_awake.calls _).mono ?_
          rintro e10 w10 ⟨rfl, hB⟩
          have B10 := Aside0.mk (below_step hHeld hB)
          clear hB
          go_wp2_with fail
          refine hK.out _ _ ?_ (fun hHeld => ?_)
          · (try dsimp only); exact B10.out
          clear hK K
          try simp only [Act.put, List.setIfInBounds_toArray, List.set_cons_zero, List.set_cons_succ]
          refine wpAnyH_take (i := 27) (v := ?_) (by simp only [List.getElem?_toArray, List.getElem?_cons_succ, List.getElem?_cons_zero]; rfl) (by kernel_rfl) (by kernel_rfl) (by kernel_rfl) (fun _ _ _ h => h) (Or.inl ⟨by rfl, ?_⟩) (by assumption) ?_
          rotate_left
          · (intro wS hSw; (try dsimp only at hSw); go_simp; try with_reducible rfl)
          try simp only [Act.put, List.setIfInBounds_toArray, List.set_cons_zero, List.set_cons_succ]
          refine wpAnyH_take (i := 28) (v := ?_) (by simp only [List.getElem?_toArray, List.getElem?_cons_succ, List.getElem?_cons_zero]; rfl) (by kernel_rfl) (by kernel_rfl) (by kernel_rfl) (fun _ _ _ h => h) (Or.inl ⟨by rfl, ?_⟩) (by assumption) ?_
          rotate_left
          · (intro wS hSw; (try dsimp only at hSw); go_simp; try with_reducible rfl)
          try simp only [Act.put, List.setIfInBounds_toArray, List.set_cons_zero, List.set_cons_succ]
          refine wpAnyH_done (by kernel_rfl) ?_ _
          refine NoPanic.normal ?_
          go_wp2
          go_ret
          exact ⟨rfl, below_step B8.out hHeld⟩
        | false =>
          rw [hsm] at F50
          have F5 := Aside0.mk F50
          have HSM := Aside0.mk hsm
          clear F50 hsm
          go_enter Try.func11, Try.ntmps11
          go_wp2_with (first | ((with_reducible refine gate_dst (N := 4) rfl ?_); refine box_event ?hg4 (N := 4) ?hd4 (cs := (nums .i64 ps).toArray) (t := 49) ?hr4 ?_; (case hd4 => rfl); (case hg4 => rfl); (case hr4 => first | (go_simp; done) | (go_simp; rfl)); intro g4 hg w0a hbox hb; have Ba := Aside0.mk (below_step HB0.out hb); have Ka := Aside0.mk (show HA w0a g4 49 .i64 ps from hbox); clear hg hbox hb) | ((with_reducible refine gate_dst (N := 5) rfl ?_); refine box_event ?hg5 (N := 5) ?hd5 (cs := (nums .i64 qs).toArray) (t := 49) ?hr5 ?_; (case hd5 => rfl); (case hg5 => rfl); (case hr5 => first | (go_simp; done) | (go_simp; rfl)); intro g5 hg w0 hbox hb; have B0 := Aside0.mk (below_step Ba.out hb); have K0 := Aside0.mk (show HA w0 g5 49 .i64 qs from hbox); have KP0 := Aside0.mk (Ka.out.below hb); clear hg hbox hb) | ((with_reducible refine gate_dst (N := 17) rfl ?_); refine load_row_event rfl _ rfl KP0.out rfl (by rw [HL.out]; exact row49) ?_))
          refine (ptr_Lay.calls ps HL.out w0).mono ?_
          rintro e1 w1 ⟨vx, rfl, hx, hB⟩
          rw [HLP.out] at hx
          rw [HLP.out]
          have HX1 := Aside0.mk (Kd.R_bound hx)
          have B1 := Aside0.mk (below_step B0.out hB)
          have KP1 := Aside0.mk (KP0.out.below hB)
          have KQ1 := Aside0.mk (K0.out.below hB)
          clear hx hB
          go_wp2_with (first | ((with_reducible refine gate_dst (N := 22) rfl ?_); refine load_row_event rfl _ rfl KQ1.out rfl (by rw [HM.out]; exact row49) ?_))
          refine (ptr_Lay.calls qs HM.out w1).mono ?_
          rintro e2 w2 ⟨vy, rfl, hy, hB⟩
          rw [HLQ.out] at hy
          rw [HLQ.out]
          have HY2 := Aside0.mk (Kd.R_bound hy)
          have HX2 := Aside0.mk (Kd.R_below HX1.out hB)
          have B2 := Aside0.mk (below_step B1.out hB)
          have KP2 := Aside0.mk (KP1.out.below hB)
          have KQ2 := Aside0.mk (KQ1.out.below hB)
          have S12 := Aside0.mk hB.size
          clear hy hB
          obtain ⟨gx, cx, hv, hgl, hgx, hcx, hcell⟩ := R_at HX2.out (by rw [HXL.out]; omega)
          subst hv
          have GX := Aside0.mk (show w1.heap.size ≤ gx ∨ w.heap.size ≤ gx from by have := B1.out.size; right; have := B0.out.size; omega)
          have GW := Aside0.mk (show w.heap.size ≤ gx from by have := B0.out.size; omega)
          have NP := Aside0.mk (show g4 ≠ gx from by have := KP0.out.lt; omega)
          have NQ := Aside0.mk (show g5 ≠ gx from by have := K0.out.lt; omega)
          obtain ⟨Ay, cy, rfl⟩ := Kd.R_slice HY2.out
          have HXC := Aside0.mk (R_C' HX2.out).1
          have HXC2 := Aside0.mk (R_C' HX2.out).2
          have HYC := Aside0.mk (R_C' HY2.out).1
          have HYC2 := Aside0.mk (R_C' HY2.out).2
          have hxl : ((X.length : Int) == 128) = true := (by rw [HXL.out]; rfl)
          have hxl2 : ((X.length : Int) != 128) = false := (by rw [HXL.out]; rfl)
          have hzl : ((Z.length : Int) == 128) = true := (by rw [HZL.out]; rfl)
          have hzl2 : ((Z.length : Int) != 128) = false := (by rw [HZL.out]; rfl)
          clear hgl hgx hcx hcell
          go_wp2
          refine wp_region_noPanic ?_
          refine wp_region_held_drew (S := (fun w' => Below w2.heap.size w2 w')) (by kernel_rfl) ?_ (fun hHeld => ?_)
          · (try dsimp only); exact below_drew (Below.refl _ _)
          refine wpAnyH_take (i := 0) (v := ?_) (by simp only [List.getElem?_toArray, List.getElem?_cons_succ, List.getElem?_cons_zero]; rfl) (by kernel_rfl) (by kernel_rfl) (by kernel_rfl) (fun _ _ _ h => h) (Or.inl ⟨by rfl, ?_⟩) (by assumption) ?_
          rotate_left
          · (intro wS hSw; (try dsimp only at hSw); go_simp; try with_reducible rfl)
          try simp only [Act.put, List.setIfInBounds_toArray, List.set_cons_zero, List.set_cons_succ]
          refine wpAnyH_take (i := 1) (v := ?_) (by simp only [List.getElem?_toArray, List.getElem?_cons_succ, List.getElem?_cons_zero]; rfl) (by kernel_rfl) (by kernel_rfl) (by kernel_rfl) (fun _ _ _ h => h) (Or.inl ⟨by rfl, ?_⟩) (by assumption) ?_
          rotate_left
          · (intro wS hSw; (try dsimp only at hSw); go_simp; try with_reducible rfl)
          try simp only [Act.put, List.setIfInBounds_toArray, List.set_cons_zero, List.set_cons_succ]
          refine wpAnyH_take (i := 3) (v := .agg (nums .i64 ps).toArray) (by simp only [List.getElem?_toArray, List.getElem?_cons_succ, List.getElem?_cons_zero]; rfl) (by kernel_rfl) (by kernel_rfl) (by kernel_rfl) (fun _ _ _ h => h) (Or.inl ⟨by rfl, ?_⟩) (by assumption) ?_
          · (intro wS hSw; (try dsimp only at hSw); exact load_row_exec (by rfl) (KP2.out.below hSw) (by rfl) (by rw [HL.out]; exact row49))
          try simp only [Act.put, List.setIfInBounds_toArray, List.set_cons_zero, List.set_cons_succ]
          refine wpAnyH_take (i := 4) (v := .agg (nums .i64 qs).toArray) (by simp only [List.getElem?_toArray, List.getElem?_cons_succ, List.getElem?_cons_zero]; rfl) (by kernel_rfl) (by kernel_rfl) (by kernel_rfl) (fun _ _ _ h => h) (Or.inl ⟨by rfl, ?_⟩) (by assumption) ?_
          · (intro wS hSw; (try dsimp only at hSw); exact load_row_exec (by rfl) (KQ2.out.below hSw) (by rfl) (by rw [HM.out]; exact row49))
          try simp only [Act.put, List.setIfInBounds_toArray, List.set_cons_zero, List.set_cons_succ]
          refine wpAnyH_take (i := 5) (v := .bool false) (by simp only [List.getElem?_toArray, List.getElem?_cons_succ, List.getElem?_cons_zero]; rfl) (by kernel_rfl) (by kernel_rfl) (by kernel_rfl) (fun _ _ _ h => h) (Or.inl ⟨by rfl, ?_⟩) (by assumption) ?_
          · (intro wS hSw; (try dsimp only at hSw); exact eq_row_exec (by rfl) eqrow49 ps qs HL.out HM.out false HSM.out (by rfl) (by rfl))
          try simp only [Act.put, List.setIfInBounds_toArray, List.set_cons_zero, List.set_cons_succ]
          refine wpAnyH_ready (rs := [2]) (by kernel_rfl) (by simp) ?_
          refine AllReadyH.cons (by simp only [List.getElem?_toArray, List.getElem?_cons_succ, List.getElem?_cons_zero]; rfl) (fun K hK => ?_) AllReadyH.nil
          go_simp
          refine (purlinlaw0_SameBytes.calls 400 _ _ X _ _ Z false _ (Kd.C_below HXC.out (below_drew (Below.refl _ _))) HXC2.out (Kd.C_below HYC.out (below_drew (Below.refl _ _))) HYC2.out F5.out).mono ?_
          rintro e3 w3 ⟨rfl, hD⟩
          have B3 := Aside0.mk (below_step (below_drew (Below.refl w2.heap.size w2)) hD.below)
          clear hD
          go_wp2_with fail
          refine hK.out _ _ ?_ (fun hHeld => ?_)
          · (try dsimp only); exact B3.out
          clear hK K
          try simp only [Act.put, List.setIfInBounds_toArray, List.set_cons_zero, List.set_cons_succ]
          refine wpAnyH_take (i := 6) (v := ?_) (by simp only [List.getElem?_toArray, List.getElem?_cons_succ, List.getElem?_cons_zero]; rfl) (by kernel_rfl) (by kernel_rfl) (by kernel_rfl) (fun _ _ _ h => h) (Or.inl ⟨by rfl, ?_⟩) (by assumption) ?_
          rotate_left
          · (intro wS hSw; (try dsimp only at hSw); go_simp; try with_reducible rfl)
          try simp only [Act.put, List.setIfInBounds_toArray, List.set_cons_zero, List.set_cons_succ]
          refine wpAnyH_take (i := 7) (v := ?_) (by simp only [List.getElem?_toArray, List.getElem?_cons_succ, List.getElem?_cons_zero]; rfl) (by kernel_rfl) (by kernel_rfl) (by kernel_rfl) (fun _ _ _ h => h) (Or.inl ⟨by rfl, ?_⟩) (by assumption) ?_
          rotate_left
          · (intro wS hSw; (try dsimp only at hSw); go_simp; try with_reducible rfl)
          try simp only [Act.put, List.setIfInBounds_toArray, List.set_cons_zero, List.set_cons_succ]
          refine wpAnyH_done (by kernel_rfl) ?_ _
          refine NoPanic.normal ?_
          have HX3 := Aside0.mk (Kd.R_below HX2.out hHeld)
          have B3w := Aside0.mk (below_step B2.out hHeld)
          have KP3 := Aside0.mk (KP2.out.below hHeld)
          have KQ3 := Aside0.mk (KQ2.out.below hHeld)
          clear hHeld hxl hxl2 hzl hzl2
          rw [HXL.out] at HX3
          rw [HXL.out]
          go_wp2_with fail
          refine (purlinlaw0_Low.calls at_ 128 (q : Int) _ FL.out).mono ?_
          rintro e4 w4 ⟨rfl, hB⟩
          have HX4 := Aside0.mk (Kd.R_below HX3.out hB)
          have B4 := Aside0.mk (below_step B3w.out hB)
          have KP4 := Aside0.mk (KP3.out.below hB)
          have KQ4 := Aside0.mk (KQ3.out.below hB)
          clear hB
          have q0 : (0 : Int) ≤ (q : Int) := by omega
          have q1 : (q : Int) < 128 := by have := HQ.out; omega
          have hc := (show w4.cell? ⟨gx, q, none⟩ = some (.int .u8 (X.getD q 0)) from by
            have h := (Kd.R_celln (enc := Value.int .u8) (h1 := fun _ => rfl) (0 : Int) HX4.out (q : Int) (by omega) (by have := HQ.out; omega)).1
            rw [Int.toNat_natCast] at h
            exact h)
          go_wp2_with (first | ((with_reducible refine gate_store (t := 5) (p := 83) rfl ?_); refine store_own_event (w0 := w) rfl rfl 83 _ rfl HX4.out q HQ.out (Go.bits .xor .u8 (X.getD q 0) by_) rfl rfl GW.out B4.out ?_; intro w5 hR hgr hb; have HX5 := Aside0.mk hR; have B5 := Aside0.mk hb; have KP5 := Aside0.mk (show HA w5 g4 49 .i64 ps from KP4.out.grown hgr (fun e => by cases e; exact NP.out rfl)); have KQ5 := Aside0.mk (show HA w5 g5 49 .i64 qs from KQ4.out.grown hgr (fun e => by cases e; exact NQ.out rfl)); clear hR hgr hb hc))
          have HYl : (X.set q (Go.bits .xor .u8 (X.getD q 0) by_)).length = 128 := by rw [List.length_set]; exact HXL.out
          have hr := ptr_Read.calls (some ⟨gx, 0, none⟩) cx (X.set q (Go.bits .xor .u8 (X.getD q 0) by_)) w5 (R_C' HX5.out).1 (R_C' HX5.out).2 HYB.out
          rw [HYl, HRT.out] at hr
          refine hr.mono ?_
          clear hr HYl
          rintro e6 w6 ⟨rfl, hB⟩
          have B6 := Aside0.mk (below_step B5.out hB)
          have KP6 := Aside0.mk (KP5.out.below hB)
          have KQ6 := Aside0.mk (KQ5.out.below hB)
          clear hB
          go_wp2_with (first | ((with_reducible refine gate_dst (N := 14) rfl ?_); refine box_event ?hg14 (N := 14) ?hd14 (cs := (nums .i64 zero12).toArray) (t := 49) ?hr14 ?_; (case hd14 => rfl); (case hg14 => rfl); (case hr14 => first | (go_simp; done) | (go_simp; rfl)); intro gv hg w7 hbox hb; have Gv := Aside0.mk (show w6.heap.size ≤ gv from by omega); have B7 := Aside0.mk (below_step B6.out hb); have Kv := Aside0.mk (show HA w7 gv 49 .i64 zero12 from hbox); have KP7 := Aside0.mk (KP6.out.below hb); have KQ7 := Aside0.mk (KQ6.out.below hb); clear hg hbox hb) | ((with_reducible refine gate_store (t := 49) (p := 14) rfl ?_); refine store_row_event (w0 := w) rfl rfl 14 _ rfl (new := ps) Kv.out rfl rfl (by rw [HL.out]; exact row49) HL.out.symm (by have := Gv.out; have := B6.out.size; omega) B7.out ?_; intro w8 hk hgr hb; have KV := Aside0.mk (show HA w8 gv 49 .i64 ps from hk); have B8 := Aside0.mk hb; have KP8 := Aside0.mk (show HA w8 g4 49 .i64 ps from KP7.out.grown hgr (fun e => by cases e; have := KP6.out.lt; have := Gv.out; omega)); have KQ8 := Aside0.mk (show HA w8 g5 49 .i64 qs from KQ7.out.grown hgr (fun e => by cases e; have := KQ6.out.lt; have := Gv.out; omega)); clear hk hgr hb))
          refine wp_region_noPanic ?_
          refine wp_region_held_drew (S := (fun w' => Below w8.heap.size w8 w')) (by kernel_rfl) ?_ (fun hHeld => ?_)
          · (try dsimp only); exact below_drew (Below.refl _ _)
          refine wpAnyH_take (i := 0) (v := ?_) (by simp only [List.getElem?_toArray, List.getElem?_cons_succ, List.getElem?_cons_zero]; rfl) (by kernel_rfl) (by kernel_rfl) (by kernel_rfl) (fun _ _ _ h => h) (Or.inl ⟨by rfl, ?_⟩) (by assumption) ?_
          rotate_left
          · (intro wS hSw; (try dsimp only at hSw); go_simp; try with_reducible rfl)
          try simp only [Act.put, List.setIfInBounds_toArray, List.set_cons_zero, List.set_cons_succ]
          refine wpAnyH_take (i := 1) (v := ?_) (by simp only [List.getElem?_toArray, List.getElem?_cons_succ, List.getElem?_cons_zero]; rfl) (by kernel_rfl) (by kernel_rfl) (by kernel_rfl) (fun _ _ _ h => h) (Or.inl ⟨by rfl, ?_⟩) (by assumption) ?_
          rotate_left
          · (intro wS hSw; (try dsimp only at hSw); go_simp; try with_reducible rfl)
          try simp only [Act.put, List.setIfInBounds_toArray, List.set_cons_zero, List.set_cons_succ]
          refine wpAnyH_take (i := 2) (v := ?_) (by simp only [List.getElem?_toArray, List.getElem?_cons_succ, List.getElem?_cons_zero]; rfl) (by kernel_rfl) (by kernel_rfl) (by kernel_rfl) (fun _ _ _ h => h) (Or.inl ⟨by rfl, ?_⟩) (by assumption) ?_
          rotate_left
          · (intro wS hSw; (try dsimp only at hSw); go_simp; try with_reducible rfl)
          try simp only [Act.put, List.setIfInBounds_toArray, List.set_cons_zero, List.set_cons_succ]
          refine wpAnyH_take (i := 3) (v := ?_) (by simp only [List.getElem?_toArray, List.getElem?_cons_succ, List.getElem?_cons_zero]; rfl) (by kernel_rfl) (by kernel_rfl) (by kernel_rfl) (fun _ _ _ h => h) (Or.inl ⟨by rfl, ?_⟩) (by assumption) ?_
          rotate_left
          · (intro wS hSw; (try dsimp only at hSw); go_simp; try with_reducible rfl)
          try simp only [Act.put, List.setIfInBounds_toArray, List.set_cons_zero, List.set_cons_succ]
          refine wpAnyH_take (i := 4) (v := ?_) (by simp only [List.getElem?_toArray, List.getElem?_cons_succ, List.getElem?_cons_zero]; rfl) (by kernel_rfl) (by kernel_rfl) (by kernel_rfl) (fun _ _ _ h => h) (Or.inl ⟨by rfl, ?_⟩) (by assumption) ?_
          rotate_left
          · (intro wS hSw; (try dsimp only at hSw); go_simp; try with_reducible rfl)
          try simp only [Act.put, List.setIfInBounds_toArray, List.set_cons_zero, List.set_cons_succ]
          refine wpAnyH_take (i := 5) (v := ?_) (by simp only [List.getElem?_toArray, List.getElem?_cons_succ, List.getElem?_cons_zero]; rfl) (by kernel_rfl) (by kernel_rfl) (by kernel_rfl) (fun _ _ _ h => h) (Or.inl ⟨by rfl, ?_⟩) (by assumption) ?_
          rotate_left
          · (intro wS hSw; (try dsimp only at hSw); go_simp; try with_reducible rfl)
          try simp only [Act.put, List.setIfInBounds_toArray, List.set_cons_zero, List.set_cons_succ]
          refine wpAnyH_take (i := 6) (v := ?_) (by simp only [List.getElem?_toArray, List.getElem?_cons_succ, List.getElem?_cons_zero]; rfl) (by kernel_rfl) (by kernel_rfl) (by kernel_rfl) (fun _ _ _ h => h) (Or.inl ⟨by rfl, ?_⟩) (by assumption) ?_
          rotate_left
          · (intro wS hSw; (try dsimp only at hSw); go_simp; try with_reducible rfl)
          try simp only [Act.put, List.setIfInBounds_toArray, List.set_cons_zero, List.set_cons_succ]
          refine wpAnyH_take (i := 7) (v := ?_) (by simp only [List.getElem?_toArray, List.getElem?_cons_succ, List.getElem?_cons_zero]; rfl) (by kernel_rfl) (by kernel_rfl) (by kernel_rfl) (fun _ _ _ h => h) (Or.inl ⟨by rfl, ?_⟩) (by assumption) ?_
          rotate_left
          · (intro wS hSw; (try dsimp only at hSw); go_simp; try with_reducible rfl)
          try simp only [Act.put, List.setIfInBounds_toArray, List.set_cons_zero, List.set_cons_succ]
          refine wpAnyH_take (i := 8) (v := ?_) (by simp only [List.getElem?_toArray, List.getElem?_cons_succ, List.getElem?_cons_zero]; rfl) (by kernel_rfl) (by kernel_rfl) (by kernel_rfl) (fun _ _ _ h => h) (Or.inl ⟨by rfl, ?_⟩) (by assumption) ?_
          rotate_left
          · (intro wS hSw; (try dsimp only at hSw); go_simp; try with_reducible rfl)
          try simp only [Act.put, List.setIfInBounds_toArray, List.set_cons_zero, List.set_cons_succ]
          refine wpAnyH_take (i := 9) (v := ?_) (by simp only [List.getElem?_toArray, List.getElem?_cons_succ, List.getElem?_cons_zero]; rfl) (by kernel_rfl) (by kernel_rfl) (by kernel_rfl) (fun _ _ _ h => h) (Or.inl ⟨by rfl, ?_⟩) (by assumption) ?_
          rotate_left
          · (intro wS hSw; (try dsimp only at hSw); go_simp; try with_reducible rfl)
          try simp only [Act.put, List.setIfInBounds_toArray, List.set_cons_zero, List.set_cons_succ]
          refine wpAnyH_take (i := 10) (v := ?_) (by simp only [List.getElem?_toArray, List.getElem?_cons_succ, List.getElem?_cons_zero]; rfl) (by kernel_rfl) (by kernel_rfl) (by kernel_rfl) (fun _ _ _ h => h) (Or.inl ⟨by rfl, ?_⟩) (by assumption) ?_
          rotate_left
          · (intro wS hSw; (try dsimp only at hSw); go_simp; try with_reducible rfl)
          try simp only [Act.put, List.setIfInBounds_toArray, List.set_cons_zero, List.set_cons_succ]
          refine wpAnyH_take (i := 11) (v := ?_) (by simp only [List.getElem?_toArray, List.getElem?_cons_succ, List.getElem?_cons_zero]; rfl) (by kernel_rfl) (by kernel_rfl) (by kernel_rfl) (fun _ _ _ h => h) (Or.inl ⟨by rfl, ?_⟩) (by assumption) ?_
          rotate_left
          · (intro wS hSw; (try dsimp only at hSw); go_simp; try with_reducible rfl)
          try simp only [Act.put, List.setIfInBounds_toArray, List.set_cons_zero, List.set_cons_succ]
          refine wpAnyH_take (i := 12) (v := .agg (nums .i64 ps).toArray) (by simp only [List.getElem?_toArray, List.getElem?_cons_succ, List.getElem?_cons_zero]; rfl) (by kernel_rfl) (by kernel_rfl) (by kernel_rfl) (fun _ _ _ h => h) (Or.inl ⟨by rfl, ?_⟩) (by assumption) ?_
          · (intro wS hSw; (try dsimp only at hSw); exact load_row_exec (by rfl) (KV.out.below hSw) (by rfl) (by rw [HL.out]; exact row49))
          try simp only [Act.put, List.setIfInBounds_toArray, List.set_cons_zero, List.set_cons_succ]
          refine wpAnyH_take (i := 13) (v := .agg (nums .i64 ps).toArray) (by simp only [List.getElem?_toArray, List.getElem?_cons_succ, List.getElem?_cons_zero]; rfl) (by kernel_rfl) (by kernel_rfl) (by kernel_rfl) (fun _ _ _ h => h) (Or.inl ⟨by rfl, ?_⟩) (by assumption) ?_
          · (intro wS hSw; (try dsimp only at hSw); exact load_row_exec (by rfl) (KP8.out.below hSw) (by rfl) (by rw [HL.out]; exact row49))
          try simp only [Act.put, List.setIfInBounds_toArray, List.set_cons_zero, List.set_cons_succ]
          refine wpAnyH_take (i := 14) (v := .bool true) (by simp only [List.getElem?_toArray, List.getElem?_cons_succ, List.getElem?_cons_zero]; rfl) (by kernel_rfl) (by kernel_rfl) (by kernel_rfl) (fun _ _ _ h => h) (Or.inl ⟨by rfl, ?_⟩) (by assumption) ?_
          · (intro wS hSw; (try dsimp only at hSw); exact eq_row_exec (by rfl) eqrow49 ps ps HL.out HL.out true (beq_self_eq_true ps) (by rfl) (by rfl))
          try simp only [Act.put, List.setIfInBounds_toArray, List.set_cons_zero, List.set_cons_succ]
          refine wpAnyH_take (i := 15) (v := ?_) (by simp only [List.getElem?_toArray, List.getElem?_cons_succ, List.getElem?_cons_zero]; rfl) (by kernel_rfl) (by kernel_rfl) (by kernel_rfl) (fun _ _ _ h => h) (Or.inl ⟨by rfl, ?_⟩) (by assumption) ?_
          rotate_left
          · (intro wS hSw; (try dsimp only at hSw); go_simp; try with_reducible rfl)
          try simp only [Act.put, List.setIfInBounds_toArray, List.set_cons_zero, List.set_cons_succ]
          refine wpAnyH_take (i := 16) (v := ?_) (by simp only [List.getElem?_toArray, List.getElem?_cons_succ, List.getElem?_cons_zero]; rfl) (by kernel_rfl) (by kernel_rfl) (by kernel_rfl) (fun _ _ _ h => h) (Or.inl ⟨by rfl, ?_⟩) (by assumption) ?_
          rotate_left
          · (intro wS hSw; (try dsimp only at hSw); go_simp; try with_reducible rfl)
          try simp only [Act.put, List.setIfInBounds_toArray, List.set_cons_zero, List.set_cons_succ]
          refine wpAnyH_take (i := 17) (v := ?_) (by simp only [List.getElem?_toArray, List.getElem?_cons_succ, List.getElem?_cons_zero]; rfl) (by kernel_rfl) (by kernel_rfl) (by kernel_rfl) (fun _ _ _ h => h) (Or.inl ⟨by rfl, ?_⟩) (by assumption) ?_
          rotate_left
          · (intro wS hSw; (try dsimp only at hSw); go_simp; try with_reducible rfl)
          try simp only [Act.put, List.setIfInBounds_toArray, List.set_cons_zero, List.set_cons_succ]
          refine wpAnyH_take (i := 18) (v := .agg (nums .i64 qs).toArray) (by simp only [List.getElem?_toArray, List.getElem?_cons_succ, List.getElem?_cons_zero]; rfl) (by kernel_rfl) (by kernel_rfl) (by kernel_rfl) (fun _ _ _ h => h) (Or.inl ⟨by rfl, ?_⟩) (by assumption) ?_
          · (intro wS hSw; (try dsimp only at hSw); exact load_row_exec (by rfl) (KQ8.out.below hSw) (by rfl) (by rw [HM.out]; exact row49))
          try simp only [Act.put, List.setIfInBounds_toArray, List.set_cons_zero, List.set_cons_succ]
          refine wpAnyH_take (i := 20) (v := .agg (nums .i64 qs).toArray) (by simp only [List.getElem?_toArray, List.getElem?_cons_succ, List.getElem?_cons_zero]; rfl) (by kernel_rfl) (by kernel_rfl) (by kernel_rfl) (fun _ _ _ h => h) (Or.inl ⟨by rfl, ?_⟩) (by assumption) ?_
          · (intro wS hSw; (try dsimp only at hSw); exact load_row_exec (by rfl) (KQ8.out.below hSw) (by rfl) (by rw [HM.out]; exact row49))
          try simp only [Act.put, List.setIfInBounds_toArray, List.set_cons_zero, List.set_cons_succ]
          refine wpAnyH_take (i := 21) (v := ?_) (by simp only [List.getElem?_toArray, List.getElem?_cons_succ, List.getElem?_cons_zero]; rfl) (by kernel_rfl) (by kernel_rfl) (by kernel_rfl) (fun _ _ _ h => h) (Or.inl ⟨by rfl, ?_⟩) (by assumption) ?_
          rotate_left
          · (intro wS hSw; (try dsimp only at hSw); go_simp; try with_reducible rfl)
          try simp only [Act.put, List.setIfInBounds_toArray, List.set_cons_zero, List.set_cons_succ]
          refine wpAnyH_take (i := 22) (v := .bool (qs == zero12)) (by simp only [List.getElem?_toArray, List.getElem?_cons_succ, List.getElem?_cons_zero]; rfl) (by kernel_rfl) (by kernel_rfl) (by kernel_rfl) (fun _ _ _ h => h) (Or.inl ⟨by rfl, ?_⟩) (by assumption) ?_
          · (intro wS hSw; (try dsimp only at hSw); exact eq_row_exec (by rfl) eqrow49 qs zero12 HM.out rfl (qs == zero12) rfl (by rfl) (by rfl))
          try simp only [Act.put, List.setIfInBounds_toArray, List.set_cons_zero, List.set_cons_succ]
          refine wpAnyH_ready (rs := [19]) (by kernel_rfl) (by simp) ?_
          refine AllReadyH.cons (by simp only [List.getElem?_toArray, List.getElem?_cons_succ, List.getElem?_cons_zero]; rfl) (fun K hK => ?_) AllReadyH.nil
          go_simp
          refine (ptr_Empty.calls qs HM.out _).mono ?_
          rintro e9 w9 ⟨rfl, hB⟩
          have B9 := Aside0.mk (below_step hHeld hB)
          clear hB
          go_wp2_with fail
          refine hK.out _ _ ?_ (fun hHeld => ?_)
          · (try dsimp only); exact B9.out
          clear hK K
          try simp only [Act.put, List.setIfInBounds_toArray, List.set_cons_zero, List.set_cons_succ]
          refine wpAnyH_take (i := 23) (v := ?_) (by simp only [List.getElem?_toArray, List.getElem?_cons_succ, List.getElem?_cons_zero]; rfl) (by kernel_rfl) (by kernel_rfl) (by kernel_rfl) (fun _ _ _ h => h) (Or.inl ⟨by rfl, ?_⟩) (by assumption) ?_
          rotate_left
          · (intro wS hSw; (try dsimp only at hSw); go_simp; try with_reducible rfl)
          try simp only [Act.put, List.setIfInBounds_toArray, List.set_cons_zero, List.set_cons_succ]
          refine wpAnyH_take (i := 24) (v := ?_) (by simp only [List.getElem?_toArray, List.getElem?_cons_succ, List.getElem?_cons_zero]; rfl) (by kernel_rfl) (by kernel_rfl) (by kernel_rfl) (fun _ _ _ h => h) (Or.inl ⟨by rfl, ?_⟩) (by assumption) ?_
          rotate_left
          · (intro wS hSw; (try dsimp only at hSw); go_simp; try with_reducible rfl)
          try simp only [Act.put, List.setIfInBounds_toArray, List.set_cons_zero, List.set_cons_succ]
          refine wpAnyH_take (i := 25) (v := ?_) (by simp only [List.getElem?_toArray, List.getElem?_cons_succ, List.getElem?_cons_zero]; rfl) (by kernel_rfl) (by kernel_rfl) (by kernel_rfl) (fun _ _ _ h => h) (Or.inl ⟨by rfl, ?_⟩) (by assumption) ?_
          rotate_left
          · (intro wS hSw; (try dsimp only at hSw); go_simp; try with_reducible rfl)
          try simp only [Act.put, List.setIfInBounds_toArray, List.set_cons_zero, List.set_cons_succ]
          refine wpAnyH_ready (rs := [26]) (by kernel_rfl) (by simp) ?_
          refine AllReadyH.cons (by simp only [List.getElem?_toArray, List.getElem?_cons_succ, List.getElem?_cons_zero]; rfl) (fun K hK => ?_) AllReadyH.nil
          go_simp
          refine (purlinlaw8_awake.calls _).mono ?_
          rintro e10 w10 ⟨rfl, hB⟩
          have B10 := Aside0.mk (below_step hHeld hB)
          clear hB
          go_wp2_with fail
          refine hK.out _ _ ?_ (fun hHeld => ?_)
          · (try dsimp only); exact B10.out
          clear hK K
          try simp only [Act.put, List.setIfInBounds_toArray, List.set_cons_zero, List.set_cons_succ]
          refine wpAnyH_take (i := 27) (v := ?_) (by simp only [List.getElem?_toArray, List.getElem?_cons_succ, List.getElem?_cons_zero]; rfl) (by kernel_rfl) (by kernel_rfl) (by kernel_rfl) (fun _ _ _ h => h) (Or.inl ⟨by rfl, ?_⟩) (by assumption) ?_
          rotate_left
          · (intro wS hSw; (try dsimp only at hSw); go_simp; try with_reducible rfl)
          try simp only [Act.put, List.setIfInBounds_toArray, List.set_cons_zero, List.set_cons_succ]
          refine wpAnyH_take (i := 28) (v := ?_) (by simp only [List.getElem?_toArray, List.getElem?_cons_succ, List.getElem?_cons_zero]; rfl) (by kernel_rfl) (by kernel_rfl) (by kernel_rfl) (fun _ _ _ h => h) (Or.inl ⟨by rfl, ?_⟩) (by assumption) ?_
          rotate_left
          · (intro wS hSw; (try dsimp only at hSw); go_simp; try with_reducible rfl)
          try simp only [Act.put, List.setIfInBounds_toArray, List.set_cons_zero, List.set_cons_succ]
          refine wpAnyH_done (by kernel_rfl) ?_ _
          refine NoPanic.normal ?_
          go_wp2
          go_ret
          exact ⟨rfl, below_step B8.out hHeld⟩
      · rw [if_neg b0] at HRT0
        have HRT := Aside0.mk HRT0
        have d0 : (by_ == 0) = false := beq_eq_false_iff_ne.mpr b0
        clear HRT0 b0
        cases hsm : (ps == qs) with
        | true =>
          rw [hsm] at F50
          have F5 := Aside0.mk F50
          have HSM := Aside0.mk hsm
          clear F50 hsm
          go_enter Try.func11, Try.ntmps11
          go_wp2_with (first | ((with_reducible refine gate_dst (N := 4) rfl ?_); refine box_event ?hg4 (N := 4) ?hd4 (cs := (nums .i64 ps).toArray) (t := 49) ?hr4 ?_; (case hd4 => rfl); (case hg4 => rfl); (case hr4 => first | (go_simp; done) | (go_simp; rfl)); intro g4 hg w0a hbox hb; have Ba := Aside0.mk (below_step HB0.out hb); have Ka := Aside0.mk (show HA w0a g4 49 .i64 ps from hbox); clear hg hbox hb) | ((with_reducible refine gate_dst (N := 5) rfl ?_); refine box_event ?hg5 (N := 5) ?hd5 (cs := (nums .i64 qs).toArray) (t := 49) ?hr5 ?_; (case hd5 => rfl); (case hg5 => rfl); (case hr5 => first | (go_simp; done) | (go_simp; rfl)); intro g5 hg w0 hbox hb; have B0 := Aside0.mk (below_step Ba.out hb); have K0 := Aside0.mk (show HA w0 g5 49 .i64 qs from hbox); have KP0 := Aside0.mk (Ka.out.below hb); clear hg hbox hb) | ((with_reducible refine gate_dst (N := 17) rfl ?_); refine load_row_event rfl _ rfl KP0.out rfl (by rw [HL.out]; exact row49) ?_))
          refine (ptr_Lay.calls ps HL.out w0).mono ?_
          rintro e1 w1 ⟨vx, rfl, hx, hB⟩
          rw [HLP.out] at hx
          rw [HLP.out]
          have HX1 := Aside0.mk (Kd.R_bound hx)
          have B1 := Aside0.mk (below_step B0.out hB)
          have KP1 := Aside0.mk (KP0.out.below hB)
          have KQ1 := Aside0.mk (K0.out.below hB)
          clear hx hB
          go_wp2_with (first | ((with_reducible refine gate_dst (N := 22) rfl ?_); refine load_row_event rfl _ rfl KQ1.out rfl (by rw [HM.out]; exact row49) ?_))
          refine (ptr_Lay.calls qs HM.out w1).mono ?_
          rintro e2 w2 ⟨vy, rfl, hy, hB⟩
          rw [HLQ.out] at hy
          rw [HLQ.out]
          have HY2 := Aside0.mk (Kd.R_bound hy)
          have HX2 := Aside0.mk (Kd.R_below HX1.out hB)
          have B2 := Aside0.mk (below_step B1.out hB)
          have KP2 := Aside0.mk (KP1.out.below hB)
          have KQ2 := Aside0.mk (KQ1.out.below hB)
          have S12 := Aside0.mk hB.size
          clear hy hB
          obtain ⟨gx, cx, hv, hgl, hgx, hcx, hcell⟩ := R_at HX2.out (by rw [HXL.out]; omega)
          subst hv
          have GX := Aside0.mk (show w1.heap.size ≤ gx ∨ w.heap.size ≤ gx from by have := B1.out.size; right; have := B0.out.size; omega)
          have GW := Aside0.mk (show w.heap.size ≤ gx from by have := B0.out.size; omega)
          have NP := Aside0.mk (show g4 ≠ gx from by have := KP0.out.lt; omega)
          have NQ := Aside0.mk (show g5 ≠ gx from by have := K0.out.lt; omega)
          obtain ⟨Ay, cy, rfl⟩ := Kd.R_slice HY2.out
          have HXC := Aside0.mk (R_C' HX2.out).1
          have HXC2 := Aside0.mk (R_C' HX2.out).2
          have HYC := Aside0.mk (R_C' HY2.out).1
          have HYC2 := Aside0.mk (R_C' HY2.out).2
          have hxl : ((X.length : Int) == 128) = true := (by rw [HXL.out]; rfl)
          have hxl2 : ((X.length : Int) != 128) = false := (by rw [HXL.out]; rfl)
          have hzl : ((Z.length : Int) == 128) = true := (by rw [HZL.out]; rfl)
          have hzl2 : ((Z.length : Int) != 128) = false := (by rw [HZL.out]; rfl)
          clear hgl hgx hcx hcell
          go_wp2
          refine wp_region_noPanic ?_
          refine wp_region_held_drew (S := (fun w' => Below w2.heap.size w2 w')) (by kernel_rfl) ?_ (fun hHeld => ?_)
          · (try dsimp only); exact below_drew (Below.refl _ _)
          refine wpAnyH_take (i := 0) (v := ?_) (by simp only [List.getElem?_toArray, List.getElem?_cons_succ, List.getElem?_cons_zero]; rfl) (by kernel_rfl) (by kernel_rfl) (by kernel_rfl) (fun _ _ _ h => h) (Or.inl ⟨by rfl, ?_⟩) (by assumption) ?_
          rotate_left
          · (intro wS hSw; (try dsimp only at hSw); go_simp; try with_reducible rfl)
          try simp only [Act.put, List.setIfInBounds_toArray, List.set_cons_zero, List.set_cons_succ]
          refine wpAnyH_take (i := 1) (v := ?_) (by simp only [List.getElem?_toArray, List.getElem?_cons_succ, List.getElem?_cons_zero]; rfl) (by kernel_rfl) (by kernel_rfl) (by kernel_rfl) (fun _ _ _ h => h) (Or.inl ⟨by rfl, ?_⟩) (by assumption) ?_
          rotate_left
          · (intro wS hSw; (try dsimp only at hSw); go_simp; try with_reducible rfl)
          try simp only [Act.put, List.setIfInBounds_toArray, List.set_cons_zero, List.set_cons_succ]
          refine wpAnyH_take (i := 3) (v := .agg (nums .i64 ps).toArray) (by simp only [List.getElem?_toArray, List.getElem?_cons_succ, List.getElem?_cons_zero]; rfl) (by kernel_rfl) (by kernel_rfl) (by kernel_rfl) (fun _ _ _ h => h) (Or.inl ⟨by rfl, ?_⟩) (by assumption) ?_
          · (intro wS hSw; (try dsimp only at hSw); exact load_row_exec (by rfl) (KP2.out.below hSw) (by rfl) (by rw [HL.out]; exact row49))
          try simp only [Act.put, List.setIfInBounds_toArray, List.set_cons_zero, List.set_cons_succ]
          refine wpAnyH_take (i := 4) (v := .agg (nums .i64 qs).toArray) (by simp only [List.getElem?_toArray, List.getElem?_cons_succ, List.getElem?_cons_zero]; rfl) (by kernel_rfl) (by kernel_rfl) (by kernel_rfl) (fun _ _ _ h => h) (Or.inl ⟨by rfl, ?_⟩) (by assumption) ?_
          · (intro wS hSw; (try dsimp only at hSw); exact load_row_exec (by rfl) (KQ2.out.below hSw) (by rfl) (by rw [HM.out]; exact row49))
          try simp only [Act.put, List.setIfInBounds_toArray, List.set_cons_zero, List.set_cons_succ]
          refine wpAnyH_take (i := 5) (v := .bool true) (by simp only [List.getElem?_toArray, List.getElem?_cons_succ, List.getElem?_cons_zero]; rfl) (by kernel_rfl) (by kernel_rfl) (by kernel_rfl) (fun _ _ _ h => h) (Or.inl ⟨by rfl, ?_⟩) (by assumption) ?_
          · (intro wS hSw; (try dsimp only at hSw); exact eq_row_exec (by rfl) eqrow49 ps qs HL.out HM.out true HSM.out (by rfl) (by rfl))
          try simp only [Act.put, List.setIfInBounds_toArray, List.set_cons_zero, List.set_cons_succ]
          refine wpAnyH_ready (rs := [2]) (by kernel_rfl) (by simp) ?_
          refine AllReadyH.cons (by simp only [List.getElem?_toArray, List.getElem?_cons_succ, List.getElem?_cons_zero]; rfl) (fun K hK => ?_) AllReadyH.nil
          go_simp
          refine (purlinlaw0_SameBytes.calls 400 _ _ X _ _ Z true _ (Kd.C_below HXC.out (below_drew (Below.refl _ _))) HXC2.out (Kd.C_below HYC.out (below_drew (Below.refl _ _))) HYC2.out F5.out).mono ?_
          rintro e3 w3 ⟨rfl, hD⟩
          have B3 := Aside0.mk (below_step (below_drew (Below.refl w2.heap.size w2)) hD.below)
          clear hD
          go_wp2_with fail
          refine hK.out _ _ ?_ (fun hHeld => ?_)
          · (try dsimp only); exact B3.out
          clear hK K
          try simp only [Act.put, List.setIfInBounds_toArray, List.set_cons_zero, List.set_cons_succ]
          refine wpAnyH_take (i := 6) (v := ?_) (by simp only [List.getElem?_toArray, List.getElem?_cons_succ, List.getElem?_cons_zero]; rfl) (by kernel_rfl) (by kernel_rfl) (by kernel_rfl) (fun _ _ _ h => h) (Or.inl ⟨by rfl, ?_⟩) (by assumption) ?_
          rotate_left
          · (intro wS hSw; (try dsimp only at hSw); go_simp; try with_reducible rfl)
          try simp only [Act.put, List.setIfInBounds_toArray, List.set_cons_zero, List.set_cons_succ]
          refine wpAnyH_take (i := 7) (v := ?_) (by simp only [List.getElem?_toArray, List.getElem?_cons_succ, List.getElem?_cons_zero]; rfl) (by kernel_rfl) (by kernel_rfl) (by kernel_rfl) (fun _ _ _ h => h) (Or.inl ⟨by rfl, ?_⟩) (by assumption) ?_
          rotate_left
          · (intro wS hSw; (try dsimp only at hSw); go_simp; try with_reducible rfl)
          try simp only [Act.put, List.setIfInBounds_toArray, List.set_cons_zero, List.set_cons_succ]
          refine wpAnyH_done (by kernel_rfl) ?_ _
          refine NoPanic.normal ?_
          have HX3 := Aside0.mk (Kd.R_below HX2.out hHeld)
          have B3w := Aside0.mk (below_step B2.out hHeld)
          have KP3 := Aside0.mk (KP2.out.below hHeld)
          have KQ3 := Aside0.mk (KQ2.out.below hHeld)
          clear hHeld hxl hxl2 hzl hzl2
          rw [HXL.out] at HX3
          rw [HXL.out]
          go_wp2_with fail
          refine (purlinlaw0_Low.calls at_ 128 (q : Int) _ FL.out).mono ?_
          rintro e4 w4 ⟨rfl, hB⟩
          have HX4 := Aside0.mk (Kd.R_below HX3.out hB)
          have B4 := Aside0.mk (below_step B3w.out hB)
          have KP4 := Aside0.mk (KP3.out.below hB)
          have KQ4 := Aside0.mk (KQ3.out.below hB)
          clear hB
          have q0 : (0 : Int) ≤ (q : Int) := by omega
          have q1 : (q : Int) < 128 := by have := HQ.out; omega
          have hc := (show w4.cell? ⟨gx, q, none⟩ = some (.int .u8 (X.getD q 0)) from by
            have h := (Kd.R_celln (enc := Value.int .u8) (h1 := fun _ => rfl) (0 : Int) HX4.out (q : Int) (by omega) (by have := HQ.out; omega)).1
            rw [Int.toNat_natCast] at h
            exact h)
          go_wp2_with (first | ((with_reducible refine gate_store (t := 5) (p := 83) rfl ?_); refine store_own_event (w0 := w) rfl rfl 83 _ rfl HX4.out q HQ.out (Go.bits .xor .u8 (X.getD q 0) by_) rfl rfl GW.out B4.out ?_; intro w5 hR hgr hb; have HX5 := Aside0.mk hR; have B5 := Aside0.mk hb; have KP5 := Aside0.mk (show HA w5 g4 49 .i64 ps from KP4.out.grown hgr (fun e => by cases e; exact NP.out rfl)); have KQ5 := Aside0.mk (show HA w5 g5 49 .i64 qs from KQ4.out.grown hgr (fun e => by cases e; exact NQ.out rfl)); clear hR hgr hb hc))
          have HYl : (X.set q (Go.bits .xor .u8 (X.getD q 0) by_)).length = 128 := by rw [List.length_set]; exact HXL.out
          have hr := ptr_Read.calls (some ⟨gx, 0, none⟩) cx (X.set q (Go.bits .xor .u8 (X.getD q 0) by_)) w5 (R_C' HX5.out).1 (R_C' HX5.out).2 HYB.out
          rw [HYl, HRT.out] at hr
          refine hr.mono ?_
          clear hr HYl
          rintro e6 w6 ⟨rfl, hB⟩
          have B6 := Aside0.mk (below_step B5.out hB)
          have KP6 := Aside0.mk (KP5.out.below hB)
          have KQ6 := Aside0.mk (KQ5.out.below hB)
          clear hB
          go_wp2_with (first | ((with_reducible refine gate_dst (N := 14) rfl ?_); refine box_event ?hg14 (N := 14) ?hd14 (cs := (nums .i64 zero12).toArray) (t := 49) ?hr14 ?_; (case hd14 => rfl); (case hg14 => rfl); (case hr14 => first | (go_simp; done) | (go_simp; rfl)); intro gv hg w7 hbox hb; have Gv := Aside0.mk (show w6.heap.size ≤ gv from by omega); have B7 := Aside0.mk (below_step B6.out hb); have Kv := Aside0.mk (show HA w7 gv 49 .i64 zero12 from hbox); have KP7 := Aside0.mk (KP6.out.below hb); have KQ7 := Aside0.mk (KQ6.out.below hb); clear hg hbox hb) | ((with_reducible refine gate_store (t := 49) (p := 14) rfl ?_); refine store_row_event (w0 := w) rfl rfl 14 _ rfl (new := zero12) Kv.out rfl rfl row49 rfl (by have := Gv.out; have := B6.out.size; omega) B7.out ?_; intro w8 hk hgr hb; have KV := Aside0.mk (show HA w8 gv 49 .i64 zero12 from hk); have B8 := Aside0.mk hb; have KP8 := Aside0.mk (show HA w8 g4 49 .i64 ps from KP7.out.grown hgr (fun e => by cases e; have := KP6.out.lt; have := Gv.out; omega)); have KQ8 := Aside0.mk (show HA w8 g5 49 .i64 qs from KQ7.out.grown hgr (fun e => by cases e; have := KQ6.out.lt; have := Gv.out; omega)); clear hk hgr hb))
          refine wp_region_noPanic ?_
          refine wp_region_held_drew (S := (fun w' => Below w8.heap.size w8 w')) (by kernel_rfl) ?_ (fun hHeld => ?_)
          · (try dsimp only); exact below_drew (Below.refl _ _)
          refine wpAnyH_take (i := 0) (v := ?_) (by simp only [List.getElem?_toArray, List.getElem?_cons_succ, List.getElem?_cons_zero]; rfl) (by kernel_rfl) (by kernel_rfl) (by kernel_rfl) (fun _ _ _ h => h) (Or.inl ⟨by rfl, ?_⟩) (by assumption) ?_
          rotate_left
          · (intro wS hSw; (try dsimp only at hSw); go_simp; try with_reducible rfl)
          try simp only [Act.put, List.setIfInBounds_toArray, List.set_cons_zero, List.set_cons_succ]
          refine wpAnyH_take (i := 1) (v := ?_) (by simp only [List.getElem?_toArray, List.getElem?_cons_succ, List.getElem?_cons_zero]; rfl) (by kernel_rfl) (by kernel_rfl) (by kernel_rfl) (fun _ _ _ h => h) (Or.inl ⟨by rfl, ?_⟩) (by assumption) ?_
          rotate_left
          · (intro wS hSw; (try dsimp only at hSw); go_simp; try with_reducible rfl)
          try simp only [Act.put, List.setIfInBounds_toArray, List.set_cons_zero, List.set_cons_succ]
          refine wpAnyH_take (i := 2) (v := ?_) (by simp only [List.getElem?_toArray, List.getElem?_cons_succ, List.getElem?_cons_zero]; rfl) (by kernel_rfl) (by kernel_rfl) (by kernel_rfl) (fun _ _ _ h => h) (Or.inl ⟨by rfl, ?_⟩) (by assumption) ?_
          rotate_left
          · (intro wS hSw; (try dsimp only at hSw); go_simp; try with_reducible rfl)
          try simp only [Act.put, List.setIfInBounds_toArray, List.set_cons_zero, List.set_cons_succ]
          refine wpAnyH_take (i := 3) (v := ?_) (by simp only [List.getElem?_toArray, List.getElem?_cons_succ, List.getElem?_cons_zero]; rfl) (by kernel_rfl) (by kernel_rfl) (by kernel_rfl) (fun _ _ _ h => h) (Or.inl ⟨by rfl, ?_⟩) (by assumption) ?_
          rotate_left
          · (intro wS hSw; (try dsimp only at hSw); go_simp; try with_reducible rfl)
          try simp only [Act.put, List.setIfInBounds_toArray, List.set_cons_zero, List.set_cons_succ]
          refine wpAnyH_take (i := 4) (v := ?_) (by simp only [List.getElem?_toArray, List.getElem?_cons_succ, List.getElem?_cons_zero]; rfl) (by kernel_rfl) (by kernel_rfl) (by kernel_rfl) (fun _ _ _ h => h) (Or.inl ⟨by rfl, ?_⟩) (by assumption) ?_
          rotate_left
          · (intro wS hSw; (try dsimp only at hSw); go_simp; try with_reducible rfl)
          try simp only [Act.put, List.setIfInBounds_toArray, List.set_cons_zero, List.set_cons_succ]
          refine wpAnyH_take (i := 5) (v := ?_) (by simp only [List.getElem?_toArray, List.getElem?_cons_succ, List.getElem?_cons_zero]; rfl) (by kernel_rfl) (by kernel_rfl) (by kernel_rfl) (fun _ _ _ h => h) (Or.inl ⟨by rfl, ?_⟩) (by assumption) ?_
          rotate_left
          · (intro wS hSw; (try dsimp only at hSw); go_simp; try with_reducible rfl)
          try simp only [Act.put, List.setIfInBounds_toArray, List.set_cons_zero, List.set_cons_succ]
          refine wpAnyH_take (i := 6) (v := ?_) (by simp only [List.getElem?_toArray, List.getElem?_cons_succ, List.getElem?_cons_zero]; rfl) (by kernel_rfl) (by kernel_rfl) (by kernel_rfl) (fun _ _ _ h => h) (Or.inl ⟨by rfl, ?_⟩) (by assumption) ?_
          rotate_left
          · (intro wS hSw; (try dsimp only at hSw); go_simp; try with_reducible rfl)
          try simp only [Act.put, List.setIfInBounds_toArray, List.set_cons_zero, List.set_cons_succ]
          refine wpAnyH_take (i := 7) (v := ?_) (by simp only [List.getElem?_toArray, List.getElem?_cons_succ, List.getElem?_cons_zero]; rfl) (by kernel_rfl) (by kernel_rfl) (by kernel_rfl) (fun _ _ _ h => h) (Or.inl ⟨by rfl, ?_⟩) (by assumption) ?_
          rotate_left
          · (intro wS hSw; (try dsimp only at hSw); go_simp; try with_reducible rfl)
          try simp only [Act.put, List.setIfInBounds_toArray, List.set_cons_zero, List.set_cons_succ]
          refine wpAnyH_take (i := 8) (v := ?_) (by simp only [List.getElem?_toArray, List.getElem?_cons_succ, List.getElem?_cons_zero]; rfl) (by kernel_rfl) (by kernel_rfl) (by kernel_rfl) (fun _ _ _ h => h) (Or.inl ⟨by rfl, ?_⟩) (by assumption) ?_
          rotate_left
          · (intro wS hSw; (try dsimp only at hSw); go_simp; try with_reducible rfl)
          try simp only [Act.put, List.setIfInBounds_toArray, List.set_cons_zero, List.set_cons_succ]
          refine wpAnyH_take (i := 9) (v := ?_) (by simp only [List.getElem?_toArray, List.getElem?_cons_succ, List.getElem?_cons_zero]; rfl) (by kernel_rfl) (by kernel_rfl) (by kernel_rfl) (fun _ _ _ h => h) (Or.inl ⟨by rfl, ?_⟩) (by assumption) ?_
          rotate_left
          · (intro wS hSw; (try dsimp only at hSw); go_simp; try with_reducible rfl)
          try simp only [Act.put, List.setIfInBounds_toArray, List.set_cons_zero, List.set_cons_succ]
          refine wpAnyH_take (i := 10) (v := ?_) (by simp only [List.getElem?_toArray, List.getElem?_cons_succ, List.getElem?_cons_zero]; rfl) (by kernel_rfl) (by kernel_rfl) (by kernel_rfl) (fun _ _ _ h => h) (Or.inl ⟨by rfl, ?_⟩) (by assumption) ?_
          rotate_left
          · (intro wS hSw; (try dsimp only at hSw); go_simp; try with_reducible rfl)
          try simp only [Act.put, List.setIfInBounds_toArray, List.set_cons_zero, List.set_cons_succ]
          refine wpAnyH_take (i := 11) (v := ?_) (by simp only [List.getElem?_toArray, List.getElem?_cons_succ, List.getElem?_cons_zero]; rfl) (by kernel_rfl) (by kernel_rfl) (by kernel_rfl) (fun _ _ _ h => h) (Or.inl ⟨by rfl, ?_⟩) (by assumption) ?_
          rotate_left
          · (intro wS hSw; (try dsimp only at hSw); go_simp; try with_reducible rfl)
          try simp only [Act.put, List.setIfInBounds_toArray, List.set_cons_zero, List.set_cons_succ]
          refine wpAnyH_take (i := 12) (v := undef) (by simp only [List.getElem?_toArray, List.getElem?_cons_succ, List.getElem?_cons_zero]; rfl) (by kernel_rfl) (by kernel_rfl) (by kernel_rfl) (fun _ _ _ h => h) (Or.inr ⟨by rfl, rfl⟩) (by assumption) ?_
          try simp only [Act.put, List.setIfInBounds_toArray, List.set_cons_zero, List.set_cons_succ]
          refine wpAnyH_take (i := 13) (v := undef) (by simp only [List.getElem?_toArray, List.getElem?_cons_succ, List.getElem?_cons_zero]; rfl) (by kernel_rfl) (by kernel_rfl) (by kernel_rfl) (fun _ _ _ h => h) (Or.inr ⟨by rfl, rfl⟩) (by assumption) ?_
          try simp only [Act.put, List.setIfInBounds_toArray, List.set_cons_zero, List.set_cons_succ]
          refine wpAnyH_take (i := 14) (v := undef) (by simp only [List.getElem?_toArray, List.getElem?_cons_succ, List.getElem?_cons_zero]; rfl) (by kernel_rfl) (by kernel_rfl) (by kernel_rfl) (fun _ _ _ h => h) (Or.inr ⟨by rfl, rfl⟩) (by assumption) ?_
          try simp only [Act.put, List.setIfInBounds_toArray, List.set_cons_zero, List.set_cons_succ]
          refine wpAnyH_take (i := 15) (v := ?_) (by simp only [List.getElem?_toArray, List.getElem?_cons_succ, List.getElem?_cons_zero]; rfl) (by kernel_rfl) (by kernel_rfl) (by kernel_rfl) (fun _ _ _ h => h) (Or.inl ⟨by rfl, ?_⟩) (by assumption) ?_
          rotate_left
          · (intro wS hSw; (try dsimp only at hSw); go_simp; try with_reducible rfl)
          try simp only [Act.put, List.setIfInBounds_toArray, List.set_cons_zero, List.set_cons_succ]
          refine wpAnyH_take (i := 16) (v := ?_) (by simp only [List.getElem?_toArray, List.getElem?_cons_succ, List.getElem?_cons_zero]; rfl) (by kernel_rfl) (by kernel_rfl) (by kernel_rfl) (fun _ _ _ h => h) (Or.inl ⟨by rfl, ?_⟩) (by assumption) ?_
          rotate_left
          · (intro wS hSw; (try dsimp only at hSw); go_simp; try with_reducible rfl)
          try simp only [Act.put, List.setIfInBounds_toArray, List.set_cons_zero, List.set_cons_succ]
          refine wpAnyH_take (i := 17) (v := ?_) (by simp only [List.getElem?_toArray, List.getElem?_cons_succ, List.getElem?_cons_zero]; rfl) (by kernel_rfl) (by kernel_rfl) (by kernel_rfl) (fun _ _ _ h => h) (Or.inl ⟨by rfl, ?_⟩) (by assumption) ?_
          rotate_left
          · (intro wS hSw; (try dsimp only at hSw); go_simp; try with_reducible rfl)
          try simp only [Act.put, List.setIfInBounds_toArray, List.set_cons_zero, List.set_cons_succ]
          refine wpAnyH_take (i := 18) (v := .agg (nums .i64 qs).toArray) (by simp only [List.getElem?_toArray, List.getElem?_cons_succ, List.getElem?_cons_zero]; rfl) (by kernel_rfl) (by kernel_rfl) (by kernel_rfl) (fun _ _ _ h => h) (Or.inl ⟨by rfl, ?_⟩) (by assumption) ?_
          · (intro wS hSw; (try dsimp only at hSw); exact load_row_exec (by rfl) (KQ8.out.below hSw) (by rfl) (by rw [HM.out]; exact row49))
          try simp only [Act.put, List.setIfInBounds_toArray, List.set_cons_zero, List.set_cons_succ]
          refine wpAnyH_take (i := 20) (v := .agg (nums .i64 qs).toArray) (by simp only [List.getElem?_toArray, List.getElem?_cons_succ, List.getElem?_cons_zero]; rfl) (by kernel_rfl) (by kernel_rfl) (by kernel_rfl) (fun _ _ _ h => h) (Or.inl ⟨by rfl, ?_⟩) (by assumption) ?_
          · (intro wS hSw; (try dsimp only at hSw); exact load_row_exec (by rfl) (KQ8.out.below hSw) (by rfl) (by rw [HM.out]; exact row49))
          try simp only [Act.put, List.setIfInBounds_toArray, List.set_cons_zero, List.set_cons_succ]
          refine wpAnyH_take (i := 21) (v := ?_) (by simp only [List.getElem?_toArray, List.getElem?_cons_succ, List.getElem?_cons_zero]; rfl) (by kernel_rfl) (by kernel_rfl) (by kernel_rfl) (fun _ _ _ h => h) (Or.inl ⟨by rfl, ?_⟩) (by assumption) ?_
          rotate_left
          · (intro wS hSw; (try dsimp only at hSw); go_simp; try with_reducible rfl)
          try simp only [Act.put, List.setIfInBounds_toArray, List.set_cons_zero, List.set_cons_succ]
          refine wpAnyH_take (i := 22) (v := .bool (qs == zero12)) (by simp only [List.getElem?_toArray, List.getElem?_cons_succ, List.getElem?_cons_zero]; rfl) (by kernel_rfl) (by kernel_rfl) (by kernel_rfl) (fun _ _ _ h => h) (Or.inl ⟨by rfl, ?_⟩) (by assumption) ?_
          · (intro wS hSw; (try dsimp only at hSw); exact eq_row_exec (by rfl) eqrow49 qs zero12 HM.out rfl (qs == zero12) rfl (by rfl) (by rfl))
          try simp only [Act.put, List.setIfInBounds_toArray, List.set_cons_zero, List.set_cons_succ]
          refine wpAnyH_ready (rs := [19]) (by kernel_rfl) (by simp) ?_
          refine AllReadyH.cons (by simp only [List.getElem?_toArray, List.getElem?_cons_succ, List.getElem?_cons_zero]; rfl) (fun K hK => ?_) AllReadyH.nil
          go_simp
          refine (ptr_Empty.calls qs HM.out _).mono ?_
          rintro e9 w9 ⟨rfl, hB⟩
          have B9 := Aside0.mk (below_step hHeld hB)
          clear hB
          go_wp2_with fail
          refine hK.out _ _ ?_ (fun hHeld => ?_)
          · (try dsimp only); exact B9.out
          clear hK K
          try simp only [Act.put, List.setIfInBounds_toArray, List.set_cons_zero, List.set_cons_succ]
          refine wpAnyH_take (i := 23) (v := ?_) (by simp only [List.getElem?_toArray, List.getElem?_cons_succ, List.getElem?_cons_zero]; rfl) (by kernel_rfl) (by kernel_rfl) (by kernel_rfl) (fun _ _ _ h => h) (Or.inl ⟨by rfl, ?_⟩) (by assumption) ?_
          rotate_left
          · (intro wS hSw; (try dsimp only at hSw); go_simp; try with_reducible rfl)
          try simp only [Act.put, List.setIfInBounds_toArray, List.set_cons_zero, List.set_cons_succ]
          refine wpAnyH_take (i := 24) (v := ?_) (by simp only [List.getElem?_toArray, List.getElem?_cons_succ, List.getElem?_cons_zero]; rfl) (by kernel_rfl) (by kernel_rfl) (by kernel_rfl) (fun _ _ _ h => h) (Or.inl ⟨by rfl, ?_⟩) (by assumption) ?_
          rotate_left
          · (intro wS hSw; (try dsimp only at hSw); go_simp; try with_reducible rfl)
          try simp only [Act.put, List.setIfInBounds_toArray, List.set_cons_zero, List.set_cons_succ]
          refine wpAnyH_take (i := 25) (v := ?_) (by simp only [List.getElem?_toArray, List.getElem?_cons_succ, List.getElem?_cons_zero]; rfl) (by kernel_rfl) (by kernel_rfl) (by kernel_rfl) (fun _ _ _ h => h) (Or.inl ⟨by rfl, ?_⟩) (by assumption) ?_
          rotate_left
          · (intro wS hSw; (try dsimp only at hSw); go_simp; try with_reducible rfl)
          try simp only [Act.put, List.setIfInBounds_toArray, List.set_cons_zero, List.set_cons_succ]
          refine wpAnyH_ready (rs := [26]) (by kernel_rfl) (by simp) ?_
          refine AllReadyH.cons (by simp only [List.getElem?_toArray, List.getElem?_cons_succ, List.getElem?_cons_zero]; rfl) (fun K hK => ?_) AllReadyH.nil
          go_simp
          refine (purlinlaw8_awake.calls _).mono ?_
          rintro e10 w10 ⟨rfl, hB⟩
          have B10 := Aside0.mk (below_step hHeld hB)
          clear hB
          go_wp2_with fail
          refine hK.out _ _ ?_ (fun hHeld => ?_)
          · (try dsimp only); exact B10.out
          clear hK K
          try simp only [Act.put, List.setIfInBounds_toArray, List.set_cons_zero, List.set_cons_succ]
          refine wpAnyH_take (i := 27) (v := ?_) (by simp only [List.getElem?_toArray, List.getElem?_cons_succ, List.getElem?_cons_zero]; rfl) (by kernel_rfl) (by kernel_rfl) (by kernel_rfl) (fun _ _ _ h => h) (Or.inl ⟨by rfl, ?_⟩) (by assumption) ?_
          rotate_left
          · (intro wS hSw; (try dsimp only at hSw); go_simp; try with_reducible rfl)
          try simp only [Act.put, List.setIfInBounds_toArray, List.set_cons_zero, List.set_cons_succ]
          refine wpAnyH_take (i := 28) (v := ?_) (by simp only [List.getElem?_toArray, List.getElem?_cons_succ, List.getElem?_cons_zero]; rfl) (by kernel_rfl) (by kernel_rfl) (by kernel_rfl) (fun _ _ _ h => h) (Or.inl ⟨by rfl, ?_⟩) (by assumption) ?_
          rotate_left
          · (intro wS hSw; (try dsimp only at hSw); go_simp; try with_reducible rfl)
          try simp only [Act.put, List.setIfInBounds_toArray, List.set_cons_zero, List.set_cons_succ]
          refine wpAnyH_done (by kernel_rfl) ?_ _
          refine NoPanic.normal ?_
          go_wp2
          go_ret
          exact ⟨rfl, below_step B8.out hHeld⟩
        | false =>
          rw [hsm] at F50
          have F5 := Aside0.mk F50
          have HSM := Aside0.mk hsm
          clear F50 hsm
          go_enter Try.func11, Try.ntmps11
          go_wp2_with (first | ((with_reducible refine gate_dst (N := 4) rfl ?_); refine box_event ?hg4 (N := 4) ?hd4 (cs := (nums .i64 ps).toArray) (t := 49) ?hr4 ?_; (case hd4 => rfl); (case hg4 => rfl); (case hr4 => first | (go_simp; done) | (go_simp; rfl)); intro g4 hg w0a hbox hb; have Ba := Aside0.mk (below_step HB0.out hb); have Ka := Aside0.mk (show HA w0a g4 49 .i64 ps from hbox); clear hg hbox hb) | ((with_reducible refine gate_dst (N := 5) rfl ?_); refine box_event ?hg5 (N := 5) ?hd5 (cs := (nums .i64 qs).toArray) (t := 49) ?hr5 ?_; (case hd5 => rfl); (case hg5 => rfl); (case hr5 => first | (go_simp; done) | (go_simp; rfl)); intro g5 hg w0 hbox hb; have B0 := Aside0.mk (below_step Ba.out hb); have K0 := Aside0.mk (show HA w0 g5 49 .i64 qs from hbox); have KP0 := Aside0.mk (Ka.out.below hb); clear hg hbox hb) | ((with_reducible refine gate_dst (N := 17) rfl ?_); refine load_row_event rfl _ rfl KP0.out rfl (by rw [HL.out]; exact row49) ?_))
          refine (ptr_Lay.calls ps HL.out w0).mono ?_
          rintro e1 w1 ⟨vx, rfl, hx, hB⟩
          rw [HLP.out] at hx
          rw [HLP.out]
          have HX1 := Aside0.mk (Kd.R_bound hx)
          have B1 := Aside0.mk (below_step B0.out hB)
          have KP1 := Aside0.mk (KP0.out.below hB)
          have KQ1 := Aside0.mk (K0.out.below hB)
          clear hx hB
          go_wp2_with (first | ((with_reducible refine gate_dst (N := 22) rfl ?_); refine load_row_event rfl _ rfl KQ1.out rfl (by rw [HM.out]; exact row49) ?_))
          refine (ptr_Lay.calls qs HM.out w1).mono ?_
          rintro e2 w2 ⟨vy, rfl, hy, hB⟩
          rw [HLQ.out] at hy
          rw [HLQ.out]
          have HY2 := Aside0.mk (Kd.R_bound hy)
          have HX2 := Aside0.mk (Kd.R_below HX1.out hB)
          have B2 := Aside0.mk (below_step B1.out hB)
          have KP2 := Aside0.mk (KP1.out.below hB)
          have KQ2 := Aside0.mk (KQ1.out.below hB)
          have S12 := Aside0.mk hB.size
          clear hy hB
          obtain ⟨gx, cx, hv, hgl, hgx, hcx, hcell⟩ := R_at HX2.out (by rw [HXL.out]; omega)
          subst hv
          have GX := Aside0.mk (show w1.heap.size ≤ gx ∨ w.heap.size ≤ gx from by have := B1.out.size; right; have := B0.out.size; omega)
          have GW := Aside0.mk (show w.heap.size ≤ gx from by have := B0.out.size; omega)
          have NP := Aside0.mk (show g4 ≠ gx from by have := KP0.out.lt; omega)
          have NQ := Aside0.mk (show g5 ≠ gx from by have := K0.out.lt; omega)
          obtain ⟨Ay, cy, rfl⟩ := Kd.R_slice HY2.out
          have HXC := Aside0.mk (R_C' HX2.out).1
          have HXC2 := Aside0.mk (R_C' HX2.out).2
          have HYC := Aside0.mk (R_C' HY2.out).1
          have HYC2 := Aside0.mk (R_C' HY2.out).2
          have hxl : ((X.length : Int) == 128) = true := (by rw [HXL.out]; rfl)
          have hxl2 : ((X.length : Int) != 128) = false := (by rw [HXL.out]; rfl)
          have hzl : ((Z.length : Int) == 128) = true := (by rw [HZL.out]; rfl)
          have hzl2 : ((Z.length : Int) != 128) = false := (by rw [HZL.out]; rfl)
          clear hgl hgx hcx hcell
          go_wp2
          refine wp_region_noPanic ?_
          refine wp_region_held_drew (S := (fun w' => Below w2.heap.size w2 w')) (by kernel_rfl) ?_ (fun hHeld => ?_)
          · (try dsimp only); exact below_drew (Below.refl _ _)
          refine wpAnyH_take (i := 0) (v := ?_) (by simp only [List.getElem?_toArray, List.getElem?_cons_succ, List.getElem?_cons_zero]; rfl) (by kernel_rfl) (by kernel_rfl) (by kernel_rfl) (fun _ _ _ h => h) (Or.inl ⟨by rfl, ?_⟩) (by assumption) ?_
          rotate_left
          · (intro wS hSw; (try dsimp only at hSw); go_simp; try with_reducible rfl)
          try simp only [Act.put, List.setIfInBounds_toArray, List.set_cons_zero, List.set_cons_succ]
          refine wpAnyH_take (i := 1) (v := ?_) (by simp only [List.getElem?_toArray, List.getElem?_cons_succ, List.getElem?_cons_zero]; rfl) (by kernel_rfl) (by kernel_rfl) (by kernel_rfl) (fun _ _ _ h => h) (Or.inl ⟨by rfl, ?_⟩) (by assumption) ?_
          rotate_left
          · (intro wS hSw; (try dsimp only at hSw); go_simp; try with_reducible rfl)
          try simp only [Act.put, List.setIfInBounds_toArray, List.set_cons_zero, List.set_cons_succ]
          refine wpAnyH_take (i := 3) (v := .agg (nums .i64 ps).toArray) (by simp only [List.getElem?_toArray, List.getElem?_cons_succ, List.getElem?_cons_zero]; rfl) (by kernel_rfl) (by kernel_rfl) (by kernel_rfl) (fun _ _ _ h => h) (Or.inl ⟨by rfl, ?_⟩) (by assumption) ?_
          · (intro wS hSw; (try dsimp only at hSw); exact load_row_exec (by rfl) (KP2.out.below hSw) (by rfl) (by rw [HL.out]; exact row49))
          try simp only [Act.put, List.setIfInBounds_toArray, List.set_cons_zero, List.set_cons_succ]
          refine wpAnyH_take (i := 4) (v := .agg (nums .i64 qs).toArray) (by simp only [List.getElem?_toArray, List.getElem?_cons_succ, List.getElem?_cons_zero]; rfl) (by kernel_rfl) (by kernel_rfl) (by kernel_rfl) (fun _ _ _ h => h) (Or.inl ⟨by rfl, ?_⟩) (by assumption) ?_
          · (intro wS hSw; (try dsimp only at hSw); exact load_row_exec (by rfl) (KQ2.out.below hSw) (by rfl) (by rw [HM.out]; exact row49))
          try simp only [Act.put, List.setIfInBounds_toArray, List.set_cons_zero, List.set_cons_succ]
          refine wpAnyH_take (i := 5) (v := .bool false) (by simp only [List.getElem?_toArray, List.getElem?_cons_succ, List.getElem?_cons_zero]; rfl) (by kernel_rfl) (by kernel_rfl) (by kernel_rfl) (fun _ _ _ h => h) (Or.inl ⟨by rfl, ?_⟩) (by assumption) ?_
          · (intro wS hSw; (try dsimp only at hSw); exact eq_row_exec (by rfl) eqrow49 ps qs HL.out HM.out false HSM.out (by rfl) (by rfl))
          try simp only [Act.put, List.setIfInBounds_toArray, List.set_cons_zero, List.set_cons_succ]
          refine wpAnyH_ready (rs := [2]) (by kernel_rfl) (by simp) ?_
          refine AllReadyH.cons (by simp only [List.getElem?_toArray, List.getElem?_cons_succ, List.getElem?_cons_zero]; rfl) (fun K hK => ?_) AllReadyH.nil
          go_simp
          refine (purlinlaw0_SameBytes.calls 400 _ _ X _ _ Z false _ (Kd.C_below HXC.out (below_drew (Below.refl _ _))) HXC2.out (Kd.C_below HYC.out (below_drew (Below.refl _ _))) HYC2.out F5.out).mono ?_
          rintro e3 w3 ⟨rfl, hD⟩
          have B3 := Aside0.mk (below_step (below_drew (Below.refl w2.heap.size w2)) hD.below)
          clear hD
          go_wp2_with fail
          refine hK.out _ _ ?_ (fun hHeld => ?_)
          · (try dsimp only); exact B3.out
          clear hK K
          try simp only [Act.put, List.setIfInBounds_toArray, List.set_cons_zero, List.set_cons_succ]
          refine wpAnyH_take (i := 6) (v := ?_) (by simp only [List.getElem?_toArray, List.getElem?_cons_succ, List.getElem?_cons_zero]; rfl) (by kernel_rfl) (by kernel_rfl) (by kernel_rfl) (fun _ _ _ h => h) (Or.inl ⟨by rfl, ?_⟩) (by assumption) ?_
          rotate_left
          · (intro wS hSw; (try dsimp only at hSw); go_simp; try with_reducible rfl)
          try simp only [Act.put, List.setIfInBounds_toArray, List.set_cons_zero, List.set_cons_succ]
          refine wpAnyH_take (i := 7) (v := ?_) (by simp only [List.getElem?_toArray, List.getElem?_cons_succ, List.getElem?_cons_zero]; rfl) (by kernel_rfl) (by kernel_rfl) (by kernel_rfl) (fun _ _ _ h => h) (Or.inl ⟨by rfl, ?_⟩) (by assumption) ?_
          rotate_left
          · (intro wS hSw; (try dsimp only at hSw); go_simp; try with_reducible rfl)
          try simp only [Act.put, List.setIfInBounds_toArray, List.set_cons_zero, List.set_cons_succ]
          refine wpAnyH_done (by kernel_rfl) ?_ _
          refine NoPanic.normal ?_
          have HX3 := Aside0.mk (Kd.R_below HX2.out hHeld)
          have B3w := Aside0.mk (below_step B2.out hHeld)
          have KP3 := Aside0.mk (KP2.out.below hHeld)
          have KQ3 := Aside0.mk (KQ2.out.below hHeld)
          clear hHeld hxl hxl2 hzl hzl2
          rw [HXL.out] at HX3
          rw [HXL.out]
          go_wp2_with fail
          refine (purlinlaw0_Low.calls at_ 128 (q : Int) _ FL.out).mono ?_
          rintro e4 w4 ⟨rfl, hB⟩
          have HX4 := Aside0.mk (Kd.R_below HX3.out hB)
          have B4 := Aside0.mk (below_step B3w.out hB)
          have KP4 := Aside0.mk (KP3.out.below hB)
          have KQ4 := Aside0.mk (KQ3.out.below hB)
          clear hB
          have q0 : (0 : Int) ≤ (q : Int) := by omega
          have q1 : (q : Int) < 128 := by have := HQ.out; omega
          have hc := (show w4.cell? ⟨gx, q, none⟩ = some (.int .u8 (X.getD q 0)) from by
            have h := (Kd.R_celln (enc := Value.int .u8) (h1 := fun _ => rfl) (0 : Int) HX4.out (q : Int) (by omega) (by have := HQ.out; omega)).1
            rw [Int.toNat_natCast] at h
            exact h)
          go_wp2_with (first | ((with_reducible refine gate_store (t := 5) (p := 83) rfl ?_); refine store_own_event (w0 := w) rfl rfl 83 _ rfl HX4.out q HQ.out (Go.bits .xor .u8 (X.getD q 0) by_) rfl rfl GW.out B4.out ?_; intro w5 hR hgr hb; have HX5 := Aside0.mk hR; have B5 := Aside0.mk hb; have KP5 := Aside0.mk (show HA w5 g4 49 .i64 ps from KP4.out.grown hgr (fun e => by cases e; exact NP.out rfl)); have KQ5 := Aside0.mk (show HA w5 g5 49 .i64 qs from KQ4.out.grown hgr (fun e => by cases e; exact NQ.out rfl)); clear hR hgr hb hc))
          have HYl : (X.set q (Go.bits .xor .u8 (X.getD q 0) by_)).length = 128 := by rw [List.length_set]; exact HXL.out
          have hr := ptr_Read.calls (some ⟨gx, 0, none⟩) cx (X.set q (Go.bits .xor .u8 (X.getD q 0) by_)) w5 (R_C' HX5.out).1 (R_C' HX5.out).2 HYB.out
          rw [HYl, HRT.out] at hr
          refine hr.mono ?_
          clear hr HYl
          rintro e6 w6 ⟨rfl, hB⟩
          have B6 := Aside0.mk (below_step B5.out hB)
          have KP6 := Aside0.mk (KP5.out.below hB)
          have KQ6 := Aside0.mk (KQ5.out.below hB)
          clear hB
          go_wp2_with (first | ((with_reducible refine gate_dst (N := 14) rfl ?_); refine box_event ?hg14 (N := 14) ?hd14 (cs := (nums .i64 zero12).toArray) (t := 49) ?hr14 ?_; (case hd14 => rfl); (case hg14 => rfl); (case hr14 => first | (go_simp; done) | (go_simp; rfl)); intro gv hg w7 hbox hb; have Gv := Aside0.mk (show w6.heap.size ≤ gv from by omega); have B7 := Aside0.mk (below_step B6.out hb); have Kv := Aside0.mk (show HA w7 gv 49 .i64 zero12 from hbox); have KP7 := Aside0.mk (KP6.out.below hb); have KQ7 := Aside0.mk (KQ6.out.below hb); clear hg hbox hb) | ((with_reducible refine gate_store (t := 49) (p := 14) rfl ?_); refine store_row_event (w0 := w) rfl rfl 14 _ rfl (new := zero12) Kv.out rfl rfl row49 rfl (by have := Gv.out; have := B6.out.size; omega) B7.out ?_; intro w8 hk hgr hb; have KV := Aside0.mk (show HA w8 gv 49 .i64 zero12 from hk); have B8 := Aside0.mk hb; have KP8 := Aside0.mk (show HA w8 g4 49 .i64 ps from KP7.out.grown hgr (fun e => by cases e; have := KP6.out.lt; have := Gv.out; omega)); have KQ8 := Aside0.mk (show HA w8 g5 49 .i64 qs from KQ7.out.grown hgr (fun e => by cases e; have := KQ6.out.lt; have := Gv.out; omega)); clear hk hgr hb))
          refine wp_region_noPanic ?_
          refine wp_region_held_drew (S := (fun w' => Below w8.heap.size w8 w')) (by kernel_rfl) ?_ (fun hHeld => ?_)
          · (try dsimp only); exact below_drew (Below.refl _ _)
          refine wpAnyH_take (i := 0) (v := ?_) (by simp only [List.getElem?_toArray, List.getElem?_cons_succ, List.getElem?_cons_zero]; rfl) (by kernel_rfl) (by kernel_rfl) (by kernel_rfl) (fun _ _ _ h => h) (Or.inl ⟨by rfl, ?_⟩) (by assumption) ?_
          rotate_left
          · (intro wS hSw; (try dsimp only at hSw); go_simp; try with_reducible rfl)
          try simp only [Act.put, List.setIfInBounds_toArray, List.set_cons_zero, List.set_cons_succ]
          refine wpAnyH_take (i := 1) (v := ?_) (by simp only [List.getElem?_toArray, List.getElem?_cons_succ, List.getElem?_cons_zero]; rfl) (by kernel_rfl) (by kernel_rfl) (by kernel_rfl) (fun _ _ _ h => h) (Or.inl ⟨by rfl, ?_⟩) (by assumption) ?_
          rotate_left
          · (intro wS hSw; (try dsimp only at hSw); go_simp; try with_reducible rfl)
          try simp only [Act.put, List.setIfInBounds_toArray, List.set_cons_zero, List.set_cons_succ]
          refine wpAnyH_take (i := 2) (v := ?_) (by simp only [List.getElem?_toArray, List.getElem?_cons_succ, List.getElem?_cons_zero]; rfl) (by kernel_rfl) (by kernel_rfl) (by kernel_rfl) (fun _ _ _ h => h) (Or.inl ⟨by rfl, ?_⟩) (by assumption) ?_
          rotate_left
          · (intro wS hSw; (try dsimp only at hSw); go_simp; try with_reducible rfl)
          try simp only [Act.put, List.setIfInBounds_toArray, List.set_cons_zero, List.set_cons_succ]
          refine wpAnyH_take (i := 3) (v := ?_) (by simp only [List.getElem?_toArray, List.getElem?_cons_succ, List.getElem?_cons_zero]; rfl) (by kernel_rfl) (by kernel_rfl) (by kernel_rfl) (fun _ _ _ h => h) (Or.inl ⟨by rfl, ?_⟩) (by assumption) ?_
          rotate_left
          · (intro wS hSw; (try dsimp only at hSw); go_simp; try with_reducible rfl)
          try simp only [Act.put, List.setIfInBounds_toArray, List.set_cons_zero, List.set_cons_succ]
          refine wpAnyH_take (i := 4) (v := ?_) (by simp only [List.getElem?_toArray, List.getElem?_cons_succ, List.getElem?_cons_zero]; rfl) (by kernel_rfl) (by kernel_rfl) (by kernel_rfl) (fun _ _ _ h => h) (Or.inl ⟨by rfl, ?_⟩) (by assumption) ?_
          rotate_left
          · (intro wS hSw; (try dsimp only at hSw); go_simp; try with_reducible rfl)
          try simp only [Act.put, List.setIfInBounds_toArray, List.set_cons_zero, List.set_cons_succ]
          refine wpAnyH_take (i := 5) (v := ?_) (by simp only [List.getElem?_toArray, List.getElem?_cons_succ, List.getElem?_cons_zero]; rfl) (by kernel_rfl) (by kernel_rfl) (by kernel_rfl) (fun _ _ _ h => h) (Or.inl ⟨by rfl, ?_⟩) (by assumption) ?_
          rotate_left
          · (intro wS hSw; (try dsimp only at hSw); go_simp; try with_reducible rfl)
          try simp only [Act.put, List.setIfInBounds_toArray, List.set_cons_zero, List.set_cons_succ]
          refine wpAnyH_take (i := 6) (v := ?_) (by simp only [List.getElem?_toArray, List.getElem?_cons_succ, List.getElem?_cons_zero]; rfl) (by kernel_rfl) (by kernel_rfl) (by kernel_rfl) (fun _ _ _ h => h) (Or.inl ⟨by rfl, ?_⟩) (by assumption) ?_
          rotate_left
          · (intro wS hSw; (try dsimp only at hSw); go_simp; try with_reducible rfl)
          try simp only [Act.put, List.setIfInBounds_toArray, List.set_cons_zero, List.set_cons_succ]
          refine wpAnyH_take (i := 7) (v := ?_) (by simp only [List.getElem?_toArray, List.getElem?_cons_succ, List.getElem?_cons_zero]; rfl) (by kernel_rfl) (by kernel_rfl) (by kernel_rfl) (fun _ _ _ h => h) (Or.inl ⟨by rfl, ?_⟩) (by assumption) ?_
          rotate_left
          · (intro wS hSw; (try dsimp only at hSw); go_simp; try with_reducible rfl)
          try simp only [Act.put, List.setIfInBounds_toArray, List.set_cons_zero, List.set_cons_succ]
          refine wpAnyH_take (i := 8) (v := ?_) (by simp only [List.getElem?_toArray, List.getElem?_cons_succ, List.getElem?_cons_zero]; rfl) (by kernel_rfl) (by kernel_rfl) (by kernel_rfl) (fun _ _ _ h => h) (Or.inl ⟨by rfl, ?_⟩) (by assumption) ?_
          rotate_left
          · (intro wS hSw; (try dsimp only at hSw); go_simp; try with_reducible rfl)
          try simp only [Act.put, List.setIfInBounds_toArray, List.set_cons_zero, List.set_cons_succ]
          refine wpAnyH_take (i := 9) (v := ?_) (by simp only [List.getElem?_toArray, List.getElem?_cons_succ, List.getElem?_cons_zero]; rfl) (by kernel_rfl) (by kernel_rfl) (by kernel_rfl) (fun _ _ _ h => h) (Or.inl ⟨by rfl, ?_⟩) (by assumption) ?_
          rotate_left
          · (intro wS hSw; (try dsimp only at hSw); go_simp; try with_reducible rfl)
          try simp only [Act.put, List.setIfInBounds_toArray, List.set_cons_zero, List.set_cons_succ]
          refine wpAnyH_take (i := 10) (v := ?_) (by simp only [List.getElem?_toArray, List.getElem?_cons_succ, List.getElem?_cons_zero]; rfl) (by kernel_rfl) (by kernel_rfl) (by kernel_rfl) (fun _ _ _ h => h) (Or.inl ⟨by rfl, ?_⟩) (by assumption) ?_
          rotate_left
          · (intro wS hSw; (try dsimp only at hSw); go_simp; try with_reducible rfl)
          try simp only [Act.put, List.setIfInBounds_toArray, List.set_cons_zero, List.set_cons_succ]
          refine wpAnyH_take (i := 11) (v := ?_) (by simp only [List.getElem?_toArray, List.getElem?_cons_succ, List.getElem?_cons_zero]; rfl) (by kernel_rfl) (by kernel_rfl) (by kernel_rfl) (fun _ _ _ h => h) (Or.inl ⟨by rfl, ?_⟩) (by assumption) ?_
          rotate_left
          · (intro wS hSw; (try dsimp only at hSw); go_simp; try with_reducible rfl)
          try simp only [Act.put, List.setIfInBounds_toArray, List.set_cons_zero, List.set_cons_succ]
          refine wpAnyH_take (i := 12) (v := undef) (by simp only [List.getElem?_toArray, List.getElem?_cons_succ, List.getElem?_cons_zero]; rfl) (by kernel_rfl) (by kernel_rfl) (by kernel_rfl) (fun _ _ _ h => h) (Or.inr ⟨by rfl, rfl⟩) (by assumption) ?_
          try simp only [Act.put, List.setIfInBounds_toArray, List.set_cons_zero, List.set_cons_succ]
          refine wpAnyH_take (i := 13) (v := undef) (by simp only [List.getElem?_toArray, List.getElem?_cons_succ, List.getElem?_cons_zero]; rfl) (by kernel_rfl) (by kernel_rfl) (by kernel_rfl) (fun _ _ _ h => h) (Or.inr ⟨by rfl, rfl⟩) (by assumption) ?_
          try simp only [Act.put, List.setIfInBounds_toArray, List.set_cons_zero, List.set_cons_succ]
          refine wpAnyH_take (i := 14) (v := undef) (by simp only [List.getElem?_toArray, List.getElem?_cons_succ, List.getElem?_cons_zero]; rfl) (by kernel_rfl) (by kernel_rfl) (by kernel_rfl) (fun _ _ _ h => h) (Or.inr ⟨by rfl, rfl⟩) (by assumption) ?_
          try simp only [Act.put, List.setIfInBounds_toArray, List.set_cons_zero, List.set_cons_succ]
          refine wpAnyH_take (i := 15) (v := ?_) (by simp only [List.getElem?_toArray, List.getElem?_cons_succ, List.getElem?_cons_zero]; rfl) (by kernel_rfl) (by kernel_rfl) (by kernel_rfl) (fun _ _ _ h => h) (Or.inl ⟨by rfl, ?_⟩) (by assumption) ?_
          rotate_left
          · (intro wS hSw; (try dsimp only at hSw); go_simp; try with_reducible rfl)
          try simp only [Act.put, List.setIfInBounds_toArray, List.set_cons_zero, List.set_cons_succ]
          refine wpAnyH_take (i := 16) (v := ?_) (by simp only [List.getElem?_toArray, List.getElem?_cons_succ, List.getElem?_cons_zero]; rfl) (by kernel_rfl) (by kernel_rfl) (by kernel_rfl) (fun _ _ _ h => h) (Or.inl ⟨by rfl, ?_⟩) (by assumption) ?_
          rotate_left
          · (intro wS hSw; (try dsimp only at hSw); go_simp; try with_reducible rfl)
          try simp only [Act.put, List.setIfInBounds_toArray, List.set_cons_zero, List.set_cons_succ]
          refine wpAnyH_take (i := 17) (v := ?_) (by simp only [List.getElem?_toArray, List.getElem?_cons_succ, List.getElem?_cons_zero]; rfl) (by kernel_rfl) (by kernel_rfl) (by kernel_rfl) (fun _ _ _ h => h) (Or.inl ⟨by rfl, ?_⟩) (by assumption) ?_
          rotate_left
          · (intro wS hSw; (try dsimp only at hSw); go_simp; try with_reducible rfl)
          try simp only [Act.put, List.setIfInBounds_toArray, List.set_cons_zero, List.set_cons_succ]
          refine wpAnyH_take (i := 18) (v := .agg (nums .i64 qs).toArray) (by simp only [List.getElem?_toArray, List.getElem?_cons_succ, List.getElem?_cons_zero]; rfl) (by kernel_rfl) (by kernel_rfl) (by kernel_rfl) (fun _ _ _ h => h) (Or.inl ⟨by rfl, ?_⟩) (by assumption) ?_
          · (intro wS hSw; (try dsimp only at hSw); exact load_row_exec (by rfl) (KQ8.out.below hSw) (by rfl) (by rw [HM.out]; exact row49))
          try simp only [Act.put, List.setIfInBounds_toArray, List.set_cons_zero, List.set_cons_succ]
          refine wpAnyH_take (i := 20) (v := .agg (nums .i64 qs).toArray) (by simp only [List.getElem?_toArray, List.getElem?_cons_succ, List.getElem?_cons_zero]; rfl) (by kernel_rfl) (by kernel_rfl) (by kernel_rfl) (fun _ _ _ h => h) (Or.inl ⟨by rfl, ?_⟩) (by assumption) ?_
          · (intro wS hSw; (try dsimp only at hSw); exact load_row_exec (by rfl) (KQ8.out.below hSw) (by rfl) (by rw [HM.out]; exact row49))
          try simp only [Act.put, List.setIfInBounds_toArray, List.set_cons_zero, List.set_cons_succ]
          refine wpAnyH_take (i := 21) (v := ?_) (by simp only [List.getElem?_toArray, List.getElem?_cons_succ, List.getElem?_cons_zero]; rfl) (by kernel_rfl) (by kernel_rfl) (by kernel_rfl) (fun _ _ _ h => h) (Or.inl ⟨by rfl, ?_⟩) (by assumption) ?_
          rotate_left
          · (intro wS hSw; (try dsimp only at hSw); go_simp; try with_reducible rfl)
          try simp only [Act.put, List.setIfInBounds_toArray, List.set_cons_zero, List.set_cons_succ]
          refine wpAnyH_take (i := 22) (v := .bool (qs == zero12)) (by simp only [List.getElem?_toArray, List.getElem?_cons_succ, List.getElem?_cons_zero]; rfl) (by kernel_rfl) (by kernel_rfl) (by kernel_rfl) (fun _ _ _ h => h) (Or.inl ⟨by rfl, ?_⟩) (by assumption) ?_
          · (intro wS hSw; (try dsimp only at hSw); exact eq_row_exec (by rfl) eqrow49 qs zero12 HM.out rfl (qs == zero12) rfl (by rfl) (by rfl))
          try simp only [Act.put, List.setIfInBounds_toArray, List.set_cons_zero, List.set_cons_succ]
          refine wpAnyH_ready (rs := [19]) (by kernel_rfl) (by simp) ?_
          refine AllReadyH.cons (by simp only [List.getElem?_toArray, List.getElem?_cons_succ, List.getElem?_cons_zero]; rfl) (fun K hK => ?_) AllReadyH.nil
          go_simp
          refine (ptr_Empty.calls qs HM.out _).mono ?_
          rintro e9 w9 ⟨rfl, hB⟩
          have B9 := Aside0.mk (below_step hHeld hB)
          clear hB
          go_wp2_with fail
          refine hK.out _ _ ?_ (fun hHeld => ?_)
          · (try dsimp only); exact B9.out
          clear hK K
          try simp only [Act.put, List.setIfInBounds_toArray, List.set_cons_zero, List.set_cons_succ]
          refine wpAnyH_take (i := 23) (v := ?_) (by simp only [List.getElem?_toArray, List.getElem?_cons_succ, List.getElem?_cons_zero]; rfl) (by kernel_rfl) (by kernel_rfl) (by kernel_rfl) (fun _ _ _ h => h) (Or.inl ⟨by rfl, ?_⟩) (by assumption) ?_
          rotate_left
          · (intro wS hSw; (try dsimp only at hSw); go_simp; try with_reducible rfl)
          try simp only [Act.put, List.setIfInBounds_toArray, List.set_cons_zero, List.set_cons_succ]
          refine wpAnyH_take (i := 24) (v := ?_) (by simp only [List.getElem?_toArray, List.getElem?_cons_succ, List.getElem?_cons_zero]; rfl) (by kernel_rfl) (by kernel_rfl) (by kernel_rfl) (fun _ _ _ h => h) (Or.inl ⟨by rfl, ?_⟩) (by assumption) ?_
          rotate_left
          · (intro wS hSw; (try dsimp only at hSw); go_simp; try with_reducible rfl)
          try simp only [Act.put, List.setIfInBounds_toArray, List.set_cons_zero, List.set_cons_succ]
          refine wpAnyH_take (i := 25) (v := ?_) (by simp only [List.getElem?_toArray, List.getElem?_cons_succ, List.getElem?_cons_zero]; rfl) (by kernel_rfl) (by kernel_rfl) (by kernel_rfl) (fun _ _ _ h => h) (Or.inl ⟨by rfl, ?_⟩) (by assumption) ?_
          rotate_left
          · (intro wS hSw; (try dsimp only at hSw); go_simp; try with_reducible rfl)
          try simp only [Act.put, List.setIfInBounds_toArray, List.set_cons_zero, List.set_cons_succ]
          refine wpAnyH_ready (rs := [26]) (by kernel_rfl) (by simp) ?_
          refine AllReadyH.cons (by simp only [List.getElem?_toArray, List.getElem?_cons_succ, List.getElem?_cons_zero]; rfl) (fun K hK => ?_) AllReadyH.nil
          go_simp
          refine (purlinlaw8_awake.calls _).mono ?_
          rintro e10 w10 ⟨rfl, hB⟩
          have B10 := Aside0.mk (below_step hHeld hB)
          clear hB
          go_wp2_with fail
          refine hK.out _ _ ?_ (fun hHeld => ?_)
          · (try dsimp only); exact B10.out
          clear hK K
          try simp only [Act.put, List.setIfInBounds_toArray, List.set_cons_zero, List.set_cons_succ]
          refine wpAnyH_take (i := 27) (v := ?_) (by simp only [List.getElem?_toArray, List.getElem?_cons_succ, List.getElem?_cons_zero]; rfl) (by kernel_rfl) (by kernel_rfl) (by kernel_rfl) (fun _ _ _ h => h) (Or.inl ⟨by rfl, ?_⟩) (by assumption) ?_
          rotate_left
          · (intro wS hSw; (try dsimp only at hSw); go_simp; try with_reducible rfl)
          try simp only [Act.put, List.setIfInBounds_toArray, List.set_cons_zero, List.set_cons_succ]
          refine wpAnyH_take (i := 28) (v := ?_) (by simp only [List.getElem?_toArray, List.getElem?_cons_succ, List.getElem?_cons_zero]; rfl) (by kernel_rfl) (by kernel_rfl) (by kernel_rfl) (fun _ _ _ h => h) (Or.inl ⟨by rfl, ?_⟩) (by assumption) ?_
          rotate_left
          · (intro wS hSw; (try dsimp only at hSw); go_simp; try with_reducible rfl)
          try simp only [Act.put, List.setIfInBounds_toArray, List.set_cons_zero, List.set_cons_succ]
          refine wpAnyH_done (by kernel_rfl) ?_ _
          refine NoPanic.normal ?_
          go_wp2
          go_ret
          exact ⟨rfl, below_step B8.out hHeld⟩
    · have HLP := Aside0.mk (show ptrLayZ ps = (sealZ 80 (ptrBody ps), 0) from by rw [ptrLayZ, if_pos h1])
      have HLQ := Aside0.mk (show ptrLayZ qs = ([], 2) from by rw [ptrLayZ, if_neg h2])
      clear h1 h2
      go_enter Try.func11, Try.ntmps11
      go_wp2_with (first | ((with_reducible refine gate_dst (N := 4) rfl ?_); refine box_event ?hg4 (N := 4) ?hd4 (cs := (nums .i64 ps).toArray) (t := 49) ?hr4 ?_; (case hd4 => rfl); (case hg4 => rfl); (case hr4 => first | (go_simp; done) | (go_simp; rfl)); intro g4 hg w0a hbox hb; have Ba := Aside0.mk (below_step HB0.out hb); have Ka := Aside0.mk (show HA w0a g4 49 .i64 ps from hbox); clear hg hbox hb) | ((with_reducible refine gate_dst (N := 5) rfl ?_); refine box_event ?hg5 (N := 5) ?hd5 (cs := (nums .i64 qs).toArray) (t := 49) ?hr5 ?_; (case hd5 => rfl); (case hg5 => rfl); (case hr5 => first | (go_simp; done) | (go_simp; rfl)); intro g5 hg w0 hbox hb; have B0 := Aside0.mk (below_step Ba.out hb); have K0 := Aside0.mk (show HA w0 g5 49 .i64 qs from hbox); have KP0 := Aside0.mk (Ka.out.below hb); clear hg hbox hb) | ((with_reducible refine gate_dst (N := 17) rfl ?_); refine load_row_event rfl _ rfl KP0.out rfl (by rw [HL.out]; exact row49) ?_))
      refine (ptr_Lay.calls ps HL.out w0).mono ?_
      rintro e1 w1 ⟨vx, rfl, hx, hB⟩
      rw [HLP.out] at hx
      rw [HLP.out]
      have HX1 := Aside0.mk (Kd.R_bound hx)
      have B1 := Aside0.mk (below_step B0.out hB)
      have KP1 := Aside0.mk (KP0.out.below hB)
      have KQ1 := Aside0.mk (K0.out.below hB)
      clear hx hB
      go_wp2_with (first | ((with_reducible refine gate_dst (N := 22) rfl ?_); refine load_row_event rfl _ rfl KQ1.out rfl (by rw [HM.out]; exact row49) ?_))
      refine (ptr_Lay.calls qs HM.out w1).mono ?_
      rintro e2 w2 ⟨vy, rfl, hy, hB⟩
      rw [HLQ.out] at hy
      rw [HLQ.out]
      have HY2 := Aside0.mk (Kd.R_bound hy)
      have HX2 := Aside0.mk (Kd.R_below HX1.out hB)
      have B2 := Aside0.mk (below_step B1.out hB)
      have KP2 := Aside0.mk (KP1.out.below hB)
      have KQ2 := Aside0.mk (KQ1.out.below hB)
      have S12 := Aside0.mk hB.size
      clear hy hB
      obtain ⟨Ax, cx, rfl⟩ := Kd.R_slice HX2.out
      obtain ⟨Ay, cy, rfl⟩ := Kd.R_slice HY2.out
      go_wp2_with fail
      refine (purlinlaw8_awake.calls w2).mono ?_
      rintro e17 w17 ⟨rfl, hD⟩
      have B17 := Aside0.mk (below_step B2.out hD)
      clear hD
      go_wp2
      go_ret
      exact ⟨rfl, B17.out⟩
  · have HLP := Aside0.mk (show ptrLayZ ps = ([], 2) from by rw [ptrLayZ, if_neg h1])
    by_cases h2 : ptrOk qs = true
    · have HLQ := Aside0.mk (show ptrLayZ qs = (sealZ 80 (ptrBody qs), 0) from by rw [ptrLayZ, if_pos h2])
      clear h1 h2
      go_enter Try.func11, Try.ntmps11
      go_wp2_with (first | ((with_reducible refine gate_dst (N := 4) rfl ?_); refine box_event ?hg4 (N := 4) ?hd4 (cs := (nums .i64 ps).toArray) (t := 49) ?hr4 ?_; (case hd4 => rfl); (case hg4 => rfl); (case hr4 => first | (go_simp; done) | (go_simp; rfl)); intro g4 hg w0a hbox hb; have Ba := Aside0.mk (below_step HB0.out hb); have Ka := Aside0.mk (show HA w0a g4 49 .i64 ps from hbox); clear hg hbox hb) | ((with_reducible refine gate_dst (N := 5) rfl ?_); refine box_event ?hg5 (N := 5) ?hd5 (cs := (nums .i64 qs).toArray) (t := 49) ?hr5 ?_; (case hd5 => rfl); (case hg5 => rfl); (case hr5 => first | (go_simp; done) | (go_simp; rfl)); intro g5 hg w0 hbox hb; have B0 := Aside0.mk (below_step Ba.out hb); have K0 := Aside0.mk (show HA w0 g5 49 .i64 qs from hbox); have KP0 := Aside0.mk (Ka.out.below hb); clear hg hbox hb) | ((with_reducible refine gate_dst (N := 17) rfl ?_); refine load_row_event rfl _ rfl KP0.out rfl (by rw [HL.out]; exact row49) ?_))
      refine (ptr_Lay.calls ps HL.out w0).mono ?_
      rintro e1 w1 ⟨vx, rfl, hx, hB⟩
      rw [HLP.out] at hx
      rw [HLP.out]
      have HX1 := Aside0.mk (Kd.R_bound hx)
      have B1 := Aside0.mk (below_step B0.out hB)
      have KP1 := Aside0.mk (KP0.out.below hB)
      have KQ1 := Aside0.mk (K0.out.below hB)
      clear hx hB
      go_wp2_with (first | ((with_reducible refine gate_dst (N := 22) rfl ?_); refine load_row_event rfl _ rfl KQ1.out rfl (by rw [HM.out]; exact row49) ?_))
      refine (ptr_Lay.calls qs HM.out w1).mono ?_
      rintro e2 w2 ⟨vy, rfl, hy, hB⟩
      rw [HLQ.out] at hy
      rw [HLQ.out]
      have HY2 := Aside0.mk (Kd.R_bound hy)
      have HX2 := Aside0.mk (Kd.R_below HX1.out hB)
      have B2 := Aside0.mk (below_step B1.out hB)
      have KP2 := Aside0.mk (KP1.out.below hB)
      have KQ2 := Aside0.mk (KQ1.out.below hB)
      have S12 := Aside0.mk hB.size
      clear hy hB
      obtain ⟨Ax, cx, rfl⟩ := Kd.R_slice HX2.out
      obtain ⟨Ay, cy, rfl⟩ := Kd.R_slice HY2.out
      go_wp2_with fail
      refine (purlinlaw8_awake.calls w2).mono ?_
      rintro e17 w17 ⟨rfl, hD⟩
      have B17 := Aside0.mk (below_step B2.out hD)
      clear hD
      go_wp2
      go_ret
      exact ⟨rfl, B17.out⟩
    · have HLQ := Aside0.mk (show ptrLayZ qs = ([], 2) from by rw [ptrLayZ, if_neg h2])
      clear h1 h2
      go_enter Try.func11, Try.ntmps11
      go_wp2_with (first | ((with_reducible refine gate_dst (N := 4) rfl ?_); refine box_event ?hg4 (N := 4) ?hd4 (cs := (nums .i64 ps).toArray) (t := 49) ?hr4 ?_; (case hd4 => rfl); (case hg4 => rfl); (case hr4 => first | (go_simp; done) | (go_simp; rfl)); intro g4 hg w0a hbox hb; have Ba := Aside0.mk (below_step HB0.out hb); have Ka := Aside0.mk (show HA w0a g4 49 .i64 ps from hbox); clear hg hbox hb) | ((with_reducible refine gate_dst (N := 5) rfl ?_); refine box_event ?hg5 (N := 5) ?hd5 (cs := (nums .i64 qs).toArray) (t := 49) ?hr5 ?_; (case hd5 => rfl); (case hg5 => rfl); (case hr5 => first | (go_simp; done) | (go_simp; rfl)); intro g5 hg w0 hbox hb; have B0 := Aside0.mk (below_step Ba.out hb); have K0 := Aside0.mk (show HA w0 g5 49 .i64 qs from hbox); have KP0 := Aside0.mk (Ka.out.below hb); clear hg hbox hb) | ((with_reducible refine gate_dst (N := 17) rfl ?_); refine load_row_event rfl _ rfl KP0.out rfl (by rw [HL.out]; exact row49) ?_))
      refine (ptr_Lay.calls ps HL.out w0).mono ?_
      rintro e1 w1 ⟨vx, rfl, hx, hB⟩
      rw [HLP.out] at hx
      rw [HLP.out]
      have HX1 := Aside0.mk (Kd.R_bound hx)
      have B1 := Aside0.mk (below_step B0.out hB)
      have KP1 := Aside0.mk (KP0.out.below hB)
      have KQ1 := Aside0.mk (K0.out.below hB)
      clear hx hB
      go_wp2_with (first | ((with_reducible refine gate_dst (N := 22) rfl ?_); refine load_row_event rfl _ rfl KQ1.out rfl (by rw [HM.out]; exact row49) ?_))
      refine (ptr_Lay.calls qs HM.out w1).mono ?_
      rintro e2 w2 ⟨vy, rfl, hy, hB⟩
      rw [HLQ.out] at hy
      rw [HLQ.out]
      have HY2 := Aside0.mk (Kd.R_bound hy)
      have HX2 := Aside0.mk (Kd.R_below HX1.out hB)
      have B2 := Aside0.mk (below_step B1.out hB)
      have KP2 := Aside0.mk (KP1.out.below hB)
      have KQ2 := Aside0.mk (KQ1.out.below hB)
      have S12 := Aside0.mk hB.size
      clear hy hB
      obtain ⟨Ax, cx, rfl⟩ := Kd.R_slice HX2.out
      obtain ⟨Ay, cy, rfl⟩ := Kd.R_slice HY2.out
      go_wp2_with fail
      refine (purlinlaw8_awake.calls w2).mono ?_
      rintro e17 w17 ⟨rfl, hD⟩
      have B17 := Aside0.mk (below_step B2.out hD)
      clear hD
      go_wp2
      go_ret
      exact ⟨rfl, B17.out⟩
theorem byte_of_wf' {a : Int} (h : (Lit.int .u8 a).wf = true) : 0 ≤ a ∧ a < 256 := By.of_wf (l := [a]) (by intro x hx; simp at hx; rw [hx]; exact h) a (by simp)
theorem purlinlaw8_PtrApart.walk (ps qs : List Int) (at_ by_ : Int) (w : World) (hl : ps.length = 12) (hw : ∀ x ∈ ps, (Lit.int .i64 x).wf = true) (hm : qs.length = 12) (hw2 : ∀ x ∈ qs, (Lit.int .i64 x).wf = true) (w2 : (Lit.int .i64 at_).wf = true) (w3 : (Lit.int .u8 by_).wf = true) :
    Calls Try.prog 11 #[.agg (nums .i64 ps).toArray, .agg (nums .i64 qs).toArray, .int .i64 at_, .int .u8 by_] w fun e w' => e = .returned (.bool true) ∧ Below w.heap.size w w' :=
  purlinlaw8_PtrApart.calls ps qs at_ by_ w hl hm (byte_of_wf' w3)
end Go.Proofs.Ytnhpmmmkcemnmaa.Pc
