/- ptr.Read: its walk, by hand. -/
/- ptr.Lay and the document's: their walks, by hand. -/
import Derived.Test.YtnhpmmmkcemnmaaHpa
import Derived.Test.YtnhpmmmkcemnmaaPcx15
import Derived.Test.YtnhpmmmkcemnmaaQp
import Derived.Test.YtnhpmmmkcemnmaaQr
import Derived.Deep.RegionHeld3
namespace Go.Proofs.Ytnhpmmmkcemnmaa.Pc
open Go.RowKit Go.Proofs.YtnhpmmmkcemnmaaW.PrintWords Go.Proofs.YtnhpmmmkcemnmaaW.PrintLast Go.Proofs.YtnhpmmmkcemnmaaW.PrintMore
set_option linter.unusedVariables false
set_option linter.unusedSimpArgs false

set_option maxHeartbeats 1600000 in
set_option maxRecDepth 100000 in
theorem ptr_Read.calls (A : Option Addr) (c : Nat) (l : List Int) (w : World) (hr : Kd.C (Kd.int .u8) w A l.length l) (hc : l.length ≤ c) (by_ : By l) :
    Calls Try.prog 48 #[.slice A l.length c] w fun e w' => e = .returned (.tuple #[.agg (nums .i64 (ptrReadZ l).1).toArray, .int .i64 (ptrReadZ l).2]) ∧ Below w.heap.size w w' := by
  have HR := Aside0.mk hr
  have HC := Aside0.mk hc
  have HY := Aside0.mk by_
  have HB := Aside0.mk (Below.refl w.heap.size w)
  have F := Aside0.mk (seal_Open.is 80 l by_ 400 (by omega))
  obtain ⟨X, e, hX⟩ : ∃ X e, ptrReadZ l = (X, e) := ⟨_, _, rfl⟩
  rw [hX]
  have HX := Aside0.mk hX
  clear hr hc by_ hX
  by_cases hk : kindZ l = 80
  · have F1 := Aside0.mk (show seal_Open.f 400 80 l = some (bodyOf l, 0) from by rw [F.out, if_pos ⟨by omega, hk⟩]; rfl)
    have HK := Aside0.mk hk
    have HXL := Aside0.mk (show (bodyOf l).length = 123 from by have := kindZ_len (b := l) (by omega); unfold bodyOf; simp; omega)
    have HXB := Aside0.mk (bodyOf_by HY.out)
    clear F hk
    obtain ⟨x, hx⟩ : ∃ x, x = bodyOf l := ⟨_, rfl⟩
    have HX0 := Aside0.mk hx
    rw [← hx] at F1 HXL HXB
    clear hx
    go_enter Try.func48, Try.ntmps48
    go_wp2_with (first | ((with_reducible refine gate_dst (N := 2) rfl ?_); refine box_event ?hg (N := 2) ?hd (cs := (nums .i64 zero12).toArray) (t := 49) ?hr ?_; (case hd => rfl); (case hg => rfl); (case hr => first | (go_simp; done) | (go_simp; rfl)); intro g2 hg w0 hbox hb; have B0 := Aside0.mk (below_step HB.out hb); have K2 := Aside0.mk (show HA w0 g2 49 .i64 zero12 from hbox); have G2 := Aside0.mk (show w.heap.size ≤ g2 from by omega); clear hg hbox hb HB))
    refine (seal_Open.calls 400 80 _ _ l x 0 w0 (Kd.C_below HR.out B0.out) HC.out F1.out).mono ?_
    rintro e1 w1 ⟨vx, rfl, hx, hB⟩
    obtain ⟨gx, cx, hv, hgl, _, hcx, hcell⟩ := R_at hx (by rw [HXL.out]; omega)
    subst hv
    have GL := Aside0.mk hgl
    have B1 := Aside0.mk (below_step B0.out hB)
    have K21 := Aside0.mk (K2.out.below hB)
    have HCX := Aside0.mk hcell
    have XL := HXL.out
    rw [XL] at hcx
    rw [XL]
    clear hx hB hcell hgl
    go_wp2_with (first | ((with_reducible refine gate_dst (N := 6) rfl ?_); refine box_event ?hg (N := 6) ?hd (cs := (nums .i64 zero12).toArray) (t := 49) ?hr ?_; (case hd => rfl); (case hg => rfl); (case hr => first | (go_simp; done) | (go_simp; rfl)); intro g6 hg w2 hbox hb; have B2 := Aside0.mk (hb); have K6 := Aside0.mk (show HA w2 g6 49 .i64 zero12 from hbox); have G6 := Aside0.mk (show w1.heap.size ≤ g6 from by omega); clear hg hbox hb))
    go_loopg [18] 12 (fun gk v18 w' => ∃ k : Nat, v18 = .int .i64 (k : Int) ∧ Aside0 (k + gk = 12) ∧ Aside0 (HA w' g6 49 .i64 (ptrPart x k)) ∧ Aside0 (Below w1.heap.size w1 w'))
    case atStart => exact ⟨0, rfl, ⟨rfl⟩, K6, B2⟩
    case round =>
     clear B2 K6
     obtain ⟨k, rfl, HK12, HA6, HB⟩ := hrel
     have hk := HK12.out
     cases gk with
     | zero =>
      obtain rfl : k = 12 := by omega
      clear hk
      have d1 : decide (((12 : Nat) : Int) < 12) = false := by decide
      rw [ptrPart_all] at HA6
      obtain ⟨ps, hps⟩ : ∃ ps, ps = ptrOf x := ⟨_, rfl⟩
      rw [← hps] at HA6
      have HPS := Aside0.mk hps
      have HPL := Aside0.mk (show ps.length = 12 from by rw [hps]; exact ptrOf_len x)
      have HPO := Aside0.mk (show ptrOk ps = true from by rw [hps]; exact ptrOf_ok HXB.out)
      clear hps
      have HLZ := Aside0.mk (show ptrLayZ ps = (sealZ 80 (ptrBody ps), 0) from by rw [ptrLayZ, if_pos HPO.out])
      have HSB := Aside0.mk (sealZ_by (k := 80) (by omega) (by omega) (ptrBody_by HPO.out))
      go_wp2_with (first | ((with_reducible refine gate_dst (N := 40) rfl ?_); refine load_row_event rfl _ rfl HA6.out rfl (by rw [HPL.out]; exact row49) ?_))
      refine (ptr_Lay.calls ps HPL.out _).mono ?_
      rintro e3 w3 ⟨vy, rfl, hy, hB⟩
      rw [HLZ.out] at hy
      rw [HLZ.out]
      have B3 := Aside0.mk (below_step HB.out hB)
      have HA63 := Aside0.mk (HA6.out.below hB)
      obtain ⟨Ay, cy, rfl⟩ := Kd.R_slice hy
      have hRy := Kd.R_reads' hy
      have HCy := Aside0.mk hRy.2.2
      have HCy2 := Aside0.mk hRy.2.1
      clear hy hB hRy
      go_wp2_with fail
      refine (bytes_Equal.calls _ _ (sealZ 80 (ptrBody ps)) _ _ l (sealZ 80 (ptrBody ps) == l) w3 HCy.out HCy2.out (Kd.C_below HR.out (below_step B1.out B3.out)) HC.out (bytes_Equal_is _ _ HSB.out HY.out)).mono ?_
      rintro e4 w4 ⟨rfl, hD⟩
      have hK2 := (K21.out.below0 B3.out K21.out.lt).below hD.below
      have B4 := Aside0.mk (below_step B3.out hD.below)
      have HA64 := Aside0.mk (HA63.out.below hD.below)
      have K24 := Aside0.mk hK2
      clear hK2 hD
      by_cases hs : sealZ 80 (ptrBody ps) = l
      · have d2 : (sealZ 80 (ptrBody ps) == l) = true := beq_iff_eq.mpr hs
        rw [d2]
        go_wp2_with (first | ((with_reducible refine gate_dst (N := 49) rfl ?_); refine load_row_event rfl _ rfl HA64.out rfl (by rw [HPL.out]; exact row49) ?_) | ((with_reducible refine gate_store (t := 49) (p := 2) rfl ?_); refine store_row_event (w0 := w) rfl rfl 2 _ rfl (new := ps) K24.out rfl rfl (by rw [HPL.out]; exact row49) HPL.out.symm G2.out (below_step B1.out B4.out) ?_; intro w5 hk hgr hb; have K25 := Aside0.mk hk; have B5 := Aside0.mk hb; clear hk hgr hb))
        have HZ := Aside0.mk (show ptrReadZ l = (ps, 0) from by rw [ptrReadZ, ← HX0.out, ← HPS.out, if_pos ⟨HK.out, hs⟩])
        obtain ⟨rfl, rfl⟩ := Prod.mk.inj (HX.out.symm.trans HZ.out)
        refine bodyPost_ret (results_row rfl _ _ K25.out (by rw [HPL.out]; exact row49) rfl) rfl ⟨rfl, B5.out⟩
      · have d2 : (sealZ 80 (ptrBody ps) == l) = false := beq_eq_false_iff_ne.mpr hs
        rw [d2]
        go_wp2_with (first | ((with_reducible refine gate_store (t := 49) (p := 2) rfl ?_); refine store_row_event (w0 := w) rfl rfl 2 _ rfl (new := zero12) K24.out rfl rfl row49 rfl G2.out (below_step B1.out B4.out) ?_; intro w5 hk hgr hb; have K25 := Aside0.mk hk; have B5 := Aside0.mk hb; clear hk hgr hb))
        have HZ := Aside0.mk (show ptrReadZ l = (zero12, 3) from by rw [ptrReadZ, ← HX0.out, ← HPS.out, if_neg (fun z => hs z.2)])
        obtain ⟨rfl, rfl⟩ := Prod.mk.inj (HX.out.symm.trans HZ.out)
        refine bodyPost_ret (results_row rfl _ _ K25.out row49 rfl) rfl ⟨rfl, B5.out⟩
     | succ m =>
      have d1 : decide ((k : Int) < 12) = true := decide_eq_true (by omega)
      have d6 : (k : Int) < 12 := by omega
      have d7 : (0 : Int) ≤ (k : Int) := by omega
      have C0 := Aside0.mk (HCX.out (2 * k) (by rw [HXL.out]; omega))
      have C1 := Aside0.mk (HCX.out (2 * k + 1) (by rw [HXL.out]; omega))
      have b0 := HXB.out.getD (2 * k)
      have b1 := HXB.out.getD (2 * k + 1)
      obtain ⟨p, hp⟩ : ∃ p, p = x.getD (2 * k) 0 := ⟨_, rfl⟩
      obtain ⟨q, hq⟩ : ∃ q, q = x.getD (2 * k + 1) 0 := ⟨_, rfl⟩
      rw [← hp] at C0 b0
      rw [← hq] at C1 b1
      have HP := Aside0.mk hp
      have HQ := Aside0.mk hq
      clear hp hq hk
      go_wp2
      have hm1 : IntKind.i64.wrap (2 * (k : Int)) = 2 * (k : Int) := IntWalk.i64_in _ (by omega)
      have hm2 : IntKind.i64.wrap (2 * (k : Int) + 1) = 2 * (k : Int) + 1 := IntWalk.i64_in _ (by omega)
      have hm3 : (2 * (k : Int)).toNat = 2 * k := by omega
      have hm4 : (2 * (k : Int) + 1).toNat = 2 * k + 1 := by omega
      have hm5 : (0 : Int) ≤ 2 * (k : Int) := by omega
      have hm6 : (0 : Int) ≤ 2 * (k : Int) + 1 := by omega
      have hm7 : 2 * (k : Int) < 123 := by omega
      have hm8 : 2 * (k : Int) + 1 < 123 := by omega
      obtain ⟨p0, p1⟩ := b0
      obtain ⟨q0, q1⟩ := b1
      have hn1 : IntKind.i64.wrap p = p := IntWalk.i64_in _ (by omega)
      have hn2 : IntKind.i64.wrap q = q := IntWalk.i64_in _ (by omega)
      have hn3 : IntKind.i64.wrap (p * 256) = p * 256 := IntWalk.i64_in _ (by omega)
      have hn4 : bits .or .i64 (p * 256) q = p * 256 + q := or8 p q p0 (by omega) q0 q1
      refine wp_region_noPanic ?_
      refine wp_region_held_drew (S := (fun w' => Below w1.heap.size w1 w')) (by kernel_rfl) ?_ (fun hHeld => ?_)
      · (try dsimp only); exact below_drew HB.out
      refine wpAnyH_take (i := 0) (v := ?_) (by simp only [List.getElem?_toArray, List.getElem?_cons_succ, List.getElem?_cons_zero]; rfl) (by kernel_rfl) (by kernel_rfl) (by kernel_rfl) (fun _ _ _ h => h) (Or.inl ⟨by rfl, ?_⟩) (by assumption) ?_
      rotate_left
      · (intro wS hSw; (try dsimp only at hSw); go_simp; try with_reducible rfl)
      try simp only [Act.put, List.setIfInBounds_toArray, List.set_cons_zero, List.set_cons_succ]
      refine wpAnyH_take (i := 1) (v := ?_) (by simp only [List.getElem?_toArray, List.getElem?_cons_succ, List.getElem?_cons_zero]; rfl) (by kernel_rfl) (by kernel_rfl) (by kernel_rfl) (fun _ _ _ h => h) (Or.inl ⟨by rfl, ?_⟩) (by assumption) ?_
      rotate_left
      · (intro wS hSw; (try dsimp only at hSw); go_simp; try with_reducible rfl)
      try simp only [Act.put, List.setIfInBounds_toArray, List.set_cons_zero, List.set_cons_succ]
      refine wpAnyH_take (i := 2) (v := ?_) (by simp only [List.getElem?_toArray, List.getElem?_cons_succ, List.getElem?_cons_zero]; rfl) (by kernel_rfl) (by kernel_rfl) (by kernel_rfl) (fun _ _ _ h => h) (Or.inl ⟨by rfl, ?_⟩) (by assumption) ?_
      rotate_left
      · (intro wS hSw; (try dsimp only at hSw); go_simp; try with_reducible rfl)
      try simp only [Act.put, List.setIfInBounds_toArray, List.set_cons_zero, List.set_cons_succ]
      refine wpAnyH_take (i := 3) (v := ?_) (by simp only [List.getElem?_toArray, List.getElem?_cons_succ, List.getElem?_cons_zero]; rfl) (by kernel_rfl) (by kernel_rfl) (by kernel_rfl) (fun _ _ _ h => h) (Or.inl ⟨by rfl, ?_⟩) (by assumption) ?_
      rotate_left
      · (intro wS hSw; (try dsimp only at hSw); go_simp; try with_reducible rfl)
      try simp only [Act.put, List.setIfInBounds_toArray, List.set_cons_zero, List.set_cons_succ]
      refine wpAnyH_take (i := 4) (v := ?_) (by simp only [List.getElem?_toArray, List.getElem?_cons_succ, List.getElem?_cons_zero]; rfl) (by kernel_rfl) (by kernel_rfl) (by kernel_rfl) (fun _ _ _ h => h) (Or.inl ⟨by rfl, ?_⟩) (by assumption) ?_
      rotate_left
      · (intro wS hSw; (try dsimp only at hSw); go_simp; try with_reducible rfl)
      try simp only [Act.put, List.setIfInBounds_toArray, List.set_cons_zero, List.set_cons_succ]
      refine wpAnyH_take (i := 5) (v := ?_) (by simp only [List.getElem?_toArray, List.getElem?_cons_succ, List.getElem?_cons_zero]; rfl) (by kernel_rfl) (by kernel_rfl) (by kernel_rfl) (fun _ _ _ h => h) (Or.inl ⟨by rfl, ?_⟩) (by assumption) ?_
      rotate_left
      · (intro wS hSw; (try dsimp only at hSw); have hc := pw_cell hSw C0.out GL.out; go_simp; try with_reducible rfl)
      try simp only [Act.put, List.setIfInBounds_toArray, List.set_cons_zero, List.set_cons_succ]
      refine wpAnyH_take (i := 6) (v := ?_) (by simp only [List.getElem?_toArray, List.getElem?_cons_succ, List.getElem?_cons_zero]; rfl) (by kernel_rfl) (by kernel_rfl) (by kernel_rfl) (fun _ _ _ h => h) (Or.inl ⟨by rfl, ?_⟩) (by assumption) ?_
      rotate_left
      · (intro wS hSw; (try dsimp only at hSw); go_simp; try with_reducible rfl)
      try simp only [Act.put, List.setIfInBounds_toArray, List.set_cons_zero, List.set_cons_succ]
      refine wpAnyH_take (i := 7) (v := ?_) (by simp only [List.getElem?_toArray, List.getElem?_cons_succ, List.getElem?_cons_zero]; rfl) (by kernel_rfl) (by kernel_rfl) (by kernel_rfl) (fun _ _ _ h => h) (Or.inl ⟨by rfl, ?_⟩) (by assumption) ?_
      rotate_left
      · (intro wS hSw; (try dsimp only at hSw); go_simp; try with_reducible rfl)
      try simp only [Act.put, List.setIfInBounds_toArray, List.set_cons_zero, List.set_cons_succ]
      refine wpAnyH_take (i := 8) (v := ?_) (by simp only [List.getElem?_toArray, List.getElem?_cons_succ, List.getElem?_cons_zero]; rfl) (by kernel_rfl) (by kernel_rfl) (by kernel_rfl) (fun _ _ _ h => h) (Or.inl ⟨by rfl, ?_⟩) (by assumption) ?_
      rotate_left
      · (intro wS hSw; (try dsimp only at hSw); go_simp; try with_reducible rfl)
      try simp only [Act.put, List.setIfInBounds_toArray, List.set_cons_zero, List.set_cons_succ]
      refine wpAnyH_take (i := 9) (v := ?_) (by simp only [List.getElem?_toArray, List.getElem?_cons_succ, List.getElem?_cons_zero]; rfl) (by kernel_rfl) (by kernel_rfl) (by kernel_rfl) (fun _ _ _ h => h) (Or.inl ⟨by rfl, ?_⟩) (by assumption) ?_
      rotate_left
      · (intro wS hSw; (try dsimp only at hSw); go_simp; try with_reducible rfl)
      try simp only [Act.put, List.setIfInBounds_toArray, List.set_cons_zero, List.set_cons_succ]
      refine wpAnyH_take (i := 10) (v := ?_) (by simp only [List.getElem?_toArray, List.getElem?_cons_succ, List.getElem?_cons_zero]; rfl) (by kernel_rfl) (by kernel_rfl) (by kernel_rfl) (fun _ _ _ h => h) (Or.inl ⟨by rfl, ?_⟩) (by assumption) ?_
      rotate_left
      · (intro wS hSw; (try dsimp only at hSw); go_simp; try with_reducible rfl)
      try simp only [Act.put, List.setIfInBounds_toArray, List.set_cons_zero, List.set_cons_succ]
      refine wpAnyH_take (i := 11) (v := ?_) (by simp only [List.getElem?_toArray, List.getElem?_cons_succ, List.getElem?_cons_zero]; rfl) (by kernel_rfl) (by kernel_rfl) (by kernel_rfl) (fun _ _ _ h => h) (Or.inl ⟨by rfl, ?_⟩) (by assumption) ?_
      rotate_left
      · (intro wS hSw; (try dsimp only at hSw); go_simp; try with_reducible rfl)
      try simp only [Act.put, List.setIfInBounds_toArray, List.set_cons_zero, List.set_cons_succ]
      refine wpAnyH_take (i := 12) (v := ?_) (by simp only [List.getElem?_toArray, List.getElem?_cons_succ, List.getElem?_cons_zero]; rfl) (by kernel_rfl) (by kernel_rfl) (by kernel_rfl) (fun _ _ _ h => h) (Or.inl ⟨by rfl, ?_⟩) (by assumption) ?_
      rotate_left
      · (intro wS hSw; (try dsimp only at hSw); go_simp; try with_reducible rfl)
      try simp only [Act.put, List.setIfInBounds_toArray, List.set_cons_zero, List.set_cons_succ]
      refine wpAnyH_take (i := 13) (v := ?_) (by simp only [List.getElem?_toArray, List.getElem?_cons_succ, List.getElem?_cons_zero]; rfl) (by kernel_rfl) (by kernel_rfl) (by kernel_rfl) (fun _ _ _ h => h) (Or.inl ⟨by rfl, ?_⟩) (by assumption) ?_
      rotate_left
      · (intro wS hSw; (try dsimp only at hSw); have hc := pw_cell hSw C1.out GL.out; go_simp; try with_reducible rfl)
      try simp only [Act.put, List.setIfInBounds_toArray, List.set_cons_zero, List.set_cons_succ]
      refine wpAnyH_take (i := 14) (v := ?_) (by simp only [List.getElem?_toArray, List.getElem?_cons_succ, List.getElem?_cons_zero]; rfl) (by kernel_rfl) (by kernel_rfl) (by kernel_rfl) (fun _ _ _ h => h) (Or.inl ⟨by rfl, ?_⟩) (by assumption) ?_
      rotate_left
      · (intro wS hSw; (try dsimp only at hSw); go_simp; try with_reducible rfl)
      try simp only [Act.put, List.setIfInBounds_toArray, List.set_cons_zero, List.set_cons_succ]
      refine wpAnyH_take (i := 15) (v := ?_) (by simp only [List.getElem?_toArray, List.getElem?_cons_succ, List.getElem?_cons_zero]; rfl) (by kernel_rfl) (by kernel_rfl) (by kernel_rfl) (fun _ _ _ h => h) (Or.inl ⟨by rfl, ?_⟩) (by assumption) ?_
      rotate_left
      · (intro wS hSw; (try dsimp only at hSw); go_simp; try with_reducible rfl)
      try simp only [Act.put, List.setIfInBounds_toArray, List.set_cons_zero, List.set_cons_succ]
      refine wpAnyH_take (i := 16) (v := ?_) (by simp only [List.getElem?_toArray, List.getElem?_cons_succ, List.getElem?_cons_zero]; rfl) (by kernel_rfl) (by kernel_rfl) (by kernel_rfl) (fun _ _ _ h => h) (Or.inl ⟨by rfl, ?_⟩) (by assumption) ?_
      rotate_left
      · (intro wS hSw; (try dsimp only at hSw); go_simp; try with_reducible rfl)
      try simp only [Act.put, List.setIfInBounds_toArray, List.set_cons_zero, List.set_cons_succ]
      refine wpAnyH_ready (rs := [17]) (by kernel_rfl) (by simp) ?_
      refine AllReadyH.cons (by simp only [List.getElem?_toArray, List.getElem?_cons_succ, List.getElem?_cons_zero]; rfl) (fun K hK => ?_) AllReadyH.nil
      refine store_cell_step (w0 := w1) (by rfl) (.tmp 37) (.tmp 36) (by rfl) (HA.drew HA6.out) k (by rw [ptrPart_len _ _ (by omega)]; omega) (p * 256 + q) (by rfl) (by rfl) G6.out (below_drew HB.out) ?_
      intro w3 hk3 hg3 hb3
      have K3 := Aside0.mk (show HA w3 g6 49 .i64 (ptrPart x (k + 1)) from by have e := ptrPart_set x k (by omega); rw [← HP.out, ← HQ.out] at e; rw [e] at hk3; exact hk3)
      have B3 := Aside0.mk hb3
      clear hk3 hg3 hb3
      refine hK.out _ _ ?_ (fun hHeld => ?_)
      · (try dsimp only); exact B3.out
      clear hK K
      try simp only [Act.put, List.setIfInBounds_toArray, List.set_cons_zero, List.set_cons_succ]
      refine wpAnyH_done (by kernel_rfl) ?_ _
      refine NoPanic.normal ?_
      clear hn1 hn2 hn3 hn4 hm1 hm2 hm3 hm4 hm5 hm6 hm7 hm8
      go_wp2
      go_roundg m
      case measure => have := HK12.out; omega
      case rel => exact ⟨k + 1, by first | rfl | go_num, ⟨by have := HK12.out; omega⟩, K3, B3⟩
  · have F1 := Aside0.mk (show seal_Open.f 400 80 l = some ([], 3) from by rw [F.out, if_neg (fun z => hk z.2)])
    obtain ⟨rfl, rfl⟩ := Prod.mk.inj (HX.out.symm.trans (ptrRead_none hk))
    clear F hk
    go_enter Try.func48, Try.ntmps48
    go_wp2_with (first | ((with_reducible refine gate_dst (N := 2) rfl ?_); refine box_event ?hg (N := 2) ?hd (cs := (nums .i64 zero12).toArray) (t := 49) ?hr ?_; (case hd => rfl); (case hg => rfl); (case hr => first | (go_simp; done) | (go_simp; rfl)); intro g2 hg w0 hbox hb; have B0 := Aside0.mk (below_step HB.out hb); have K2 := Aside0.mk (show HA w0 g2 49 .i64 zero12 from hbox); have G2 := Aside0.mk (show w.heap.size ≤ g2 from by omega); clear hg hbox hb HB))
    refine (seal_Open.calls 400 80 _ _ l [] 3 w0 (Kd.C_below HR.out B0.out) HC.out F1.out).mono ?_
    rintro e1 w1 ⟨vx, rfl, hx, hB⟩
    have B1 := Aside0.mk (below_step B0.out hB)
    have K21 := Aside0.mk (K2.out.below hB)
    clear hx hB
    go_wp2_with (first | ((with_reducible refine gate_store (t := 49) (p := 2) rfl ?_); refine store_row_event (w0 := w) rfl rfl 2 _ rfl (new := zero12) K21.out rfl rfl row49 rfl G2.out B1.out ?_; intro w2 hk hgr hb; have K22 := Aside0.mk hk; have B2 := Aside0.mk hb; clear hk hgr hb))
    refine bodyPost_ret (results_row rfl _ _ K22.out row49 rfl) rfl ⟨rfl, B2.out⟩
end Go.Proofs.Ytnhpmmmkcemnmaa.Pc
