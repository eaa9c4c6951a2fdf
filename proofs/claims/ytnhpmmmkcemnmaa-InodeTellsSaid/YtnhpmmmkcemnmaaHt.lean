/- What is asked of every program that is one, of inodes: its walk, by hand. -/
import Derived.Test.YtnhpmmmkcemnmaaHr
namespace Go.Proofs.Ytnhpmmmkcemnmaa.Pc
open Go.RowKit Go.Proofs.YtnhpmmmkcemnmaaW.PrintWords Go.Proofs.YtnhpmmmkcemnmaaW.PrintLast Go.Proofs.YtnhpmmmkcemnmaaW.PrintMore
set_option linter.unusedVariables false
set_option linter.unusedSimpArgs false

def aw44 : List Int := [0, 0, 0, 0, 0, 0, 0, 0, 0, 0, 0, 1, 1, 300, 0, 0, 0, 0, 0, 0, 0, 0, 0, 0, 0, 0, 0, 0, 0, 0, 0, 0, 0, 0, 0, 0, 0, 0, 0, 0, 0, 0, 0, 0]
set_option maxRecDepth 100000 in
theorem aw_ok : okTo aw44 4 = true := by decide
theorem aw_zero : (aw44.drop 0).take 11 = zero11 := rfl
theorem may_zero : mayZ zero11 = true := by decide
theorem place18 : inode_Place.f 10 18 = some (2, 0, 0) := by decide +kernel
theorem need300 : inode_Need.f 300 = some 3 := by decide +kernel
set_option maxHeartbeats 3200000 in
set_option maxRecDepth 100000 in
theorem purlinlaw7_awake.calls (w : World) : Calls Try.prog 62 #[] w fun e w' => e = .returned (.bool true) ∧ Below w.heap.size w w' := by
  have HB := Aside0.mk (Below.refl w.heap.size w)
  obtain ⟨is, his⟩ : ∃ is : List Int, is = aw44 := ⟨_, rfl⟩
  have HIS := Aside0.mk his
  have HIL := Aside0.mk (show is.length = 44 from by rw [his]; rfl)
  have HIO := Aside0.mk (show okTo is 4 = true from by rw [his]; exact aw_ok)
  have HI3 := Aside0.mk (show is.getD 13 0 = 300 from by rw [his]; rfl)
  have HI0 := Aside0.mk (show (is.drop 0).take 11 = zero11 from by rw [his]; rfl)
  clear his
  obtain ⟨X, hX⟩ : ∃ X, X = sealZ 73 (bodyTo is 4) := ⟨_, rfl⟩
  have HLZ := Aside0.mk (show layIZ is = (X, 0) from by rw [layIZ, if_pos HIO.out, hX])
  have HXB := Aside0.mk (show By X from by rw [hX]; exact sealI_by is)
  have HXL := Aside0.mk (show X.length = 128 from by rw [hX]; exact sealI_len HIL.out)
  have HXR := Aside0.mk (show readIZ X = (is, 0) from by rw [hX]; exact readI_laid HIL.out HIO.out)
  clear hX
  go_enter Try.func62, Try.ntmps62
  go_wp2_with fail
  refine (show Calls Try.prog 63 #[.agg (nums .i64 aw44).toArray] w _ from (inode_Lay.calls aw44 rfl w).mono ?_)
  rintro e1 w1 ⟨vx, rfl, hx, hB⟩
  rw [← HIS.out, HLZ.out] at hx
  rw [← HIS.out, HLZ.out]
  have B1 := Aside0.mk hB
  have HX1 := Aside0.mk hx
  clear hx hB
  obtain ⟨Ax, cx, rfl⟩ := Kd.R_slice HX1.out
  go_wp2_with fail
  refine (inode_Read.calls _ _ X w1 (Kd.R_reads' HX1.out).2.2 (Kd.R_reads' HX1.out).2.1 HXB.out).mono ?_
  rintro e2 w2 ⟨rfl, hB⟩
  rw [HXR.out]
  have B2 := Aside0.mk (below_step B1.out hB)
  clear hB HX1
  go_wp2_with (first | ((with_reducible refine gate_dst (N := 3) rfl ?_); refine box_event ?hg3 (N := 3) ?hd3 (cs := (nums .i64 zero44).toArray) (t := 74) ?hr3 ?_; (case hd3 => rfl); (case hg3 => rfl); (case hr3 => first | (go_simp; done) | (go_simp; rfl)); intro g3 hg w3 hbox hb; have B3 := Aside0.mk (below_step B2.out hb); have K3 := Aside0.mk (show HA w3 g3 74 .i64 zero44 from hbox); have G3 := Aside0.mk (show w.heap.size ≤ g3 from by have := B2.out.size; omega); clear hg hbox hb) | ((with_reducible refine gate_store (t := 74) (p := 3) rfl ?_); refine store_row_event (w0 := w) rfl rfl 3 _ rfl (new := is) K3.out rfl rfl (by rw [HIL.out]; exact row74) HIL.out.symm G3.out B3.out ?_; intro w4 hk hgr hb; have K4 := Aside0.mk (show HA w4 g3 74 .i64 is from hk); have B4 := Aside0.mk hb; clear hk hgr hb))
  refine (inode_Place.calls 10 18 2 0 0 w4 place18).mono ?_
  rintro e5 w5 ⟨rfl, hD⟩
  have B5 := Aside0.mk (below_step B4.out hD.below)
  have K5 := Aside0.mk (K4.out.below hD.below)
  have hc := (show w5.cell? ⟨g3, 13, none⟩ = some (.int .i64 300) from by have h := K5.out.cell 13 (by rw [HIL.out]; omega); rw [HI3.out] at h; exact h)
  have hxl : ((X.length : Int) == 128) = true := (by rw [HXL.out]; rfl)
  clear hD
  go_wp2_with (first | ((with_reducible refine gate_dst (N := 43) rfl ?_); (try (refine gate_guard (by rfl) ?_; dsimp only)); refine Kd.event_run rfl (w1 := w5) (load_mid_exec (lo := 0) (n := 11) rfl K5.out rfl row73 (by rw [HIL.out]; omega)) ?_) | ((with_reducible refine gate_dst (N := 45) rfl ?_); (try (refine gate_guard (by rfl) ?_; dsimp only)); refine eq_row_event rfl (.tmp 43) (.tmp 44) rfl eqrow73 ((is.drop 0).take 11) zero11 (by rw [HI0.out]; rfl) rfl true (by rw [HI0.out]; rfl) rfl rfl ?_))
  refine (inode_Need.calls 300 3 w5 need300).mono ?_
  rintro e6 w6 ⟨rfl, hD⟩
  have B6 := Aside0.mk (below_step B5.out hD.below)
  clear hD hc
  go_wp2_with fail
  refine (show Calls Try.prog 71 #[.agg (nums .i64 zero11).toArray] w6 _ from (inode_May.calls zero11 rfl w6).mono ?_)
  rintro e7 w7 ⟨rfl, hB⟩
  rw [may_zero]
  have B7 := Aside0.mk (below_step B6.out hB)
  clear hB
  go_wp2
  go_ret
  exact ⟨rfl, B7.out⟩
end Go.Proofs.Ytnhpmmmkcemnmaa.Pc
