/- inode.Lay: its walk, by hand. -/
import Derived.Test.YtnhpmmmkcemnmaaHm
namespace Go.Proofs.Ytnhpmmmkcemnmaa.Pc
open Go.RowKit Go.Proofs.YtnhpmmmkcemnmaaW.PrintWords Go.Proofs.YtnhpmmmkcemnmaaW.PrintLast Go.Proofs.YtnhpmmmkcemnmaaW.PrintMore
set_option linter.unusedVariables false
set_option linter.unusedSimpArgs false

theorem index_four_run {is : List Int} (hl : is.length = 44) (k : Nat) (hk : k < 4) (W : World) :
    (Instr.index 74 (.agg (nums .i64 is).toArray) (.int .i64 (k : Int))).run Try.prog W = .ok (.agg (nums .i64 (chunk is k)).toArray) W := by
  have hsz : (sizeOf 73).run Try.prog W = .ok 11 W := by
    have := row73.size
    cases hq : Try.prog.info? 73 with
    | none => rw [hq] at this; cases this
    | some j =>
      rw [hq] at this
      simp only [Option.map_some, Option.some.injEq] at this
      simp [sizeOf, typeInfo, hq, this]
  have hp := part_row row73 is (k * 11) (by omega) W
  have h0 : (0 : Int) ≤ (k : Int) ∧ (k : Int) < ((4 : Nat) : Int) := by omega
  simp only [Instr.index, Sem.run_bind, run_underlying Try.underlying74 W, asIntOf, Result.andThen_ok, Sem.run_pure]
  rw [if_pos h0]
  simp only [Sem.run_bind, hsz, Result.andThen_ok, Int.toNat_natCast]
  rw [hp, chunk, Nat.mul_comm]

set_option maxHeartbeats 3200000 in
set_option maxRecDepth 100000 in
theorem inode_Lay.calls (is : List Int) (hl : is.length = 44) (w : World) :
    Calls Try.prog 63 #[.agg (nums .i64 is).toArray] w fun e w' => ∃ v : Value, e = .returned (.tuple #[v, .int .i64 (layIZ is).2]) ∧ Kd.R (Kd.int .u8) 5 w' w.heap.size (fun _ => True) v (layIZ is).1 ∧ Below w.heap.size w w' := by
  have HL := Aside0.mk hl
  have HB := Aside0.mk (Below.refl w.heap.size w)
  obtain ⟨X, e, hX⟩ : ∃ X e, layIZ is = (X, e) := ⟨_, _, rfl⟩
  rw [hX]
  have HX := Aside0.mk hX
  clear hl hX
  go_enter Try.func63, Try.ntmps63
  go_wp2_with (first | ((with_reducible refine gate_dst (N := 1) rfl ?_); refine box_event ?hg (N := 1) ?hd (cs := (nums .i64 is).toArray) (t := 74) ?hr ?_; (case hd => rfl); (case hg => rfl); (case hr => first | (go_simp; done) | (go_simp; rfl)); intro g0 hg w0 hbox hb; have B0 := Aside0.mk (below_step HB.out hb); have K0 := Aside0.mk (show HA w0 g0 74 .i64 is from hbox); clear hg hbox hb HB) | ((with_reducible refine gate_dst (N := 7) rfl ?_); refine load_row_event rfl _ rfl K0.out rfl (by rw [HL.out]; exact row74) ?_))
  go_loopg [4, 8] 4 (fun gk v4 v8 w' => ∃ k : Nat, v8 = .int .i64 (k : Int) ∧ Aside0 (k + gk = 4) ∧ Aside0 (okTo is k = true) ∧ Aside0 (Kd.R (Kd.int .u8) 5 w' w.heap.size (fun _ => True) v4 (bodyTo is k)) ∧ Aside0 (Below w.heap.size w w'))
  case atStart => exact ⟨0, rfl, ⟨rfl⟩, ⟨rfl⟩, ⟨Kd.R_nil _ _ _ _ _⟩, B0⟩
  case round =>
    clear B0 K0
    obtain ⟨k, rfl, HK, HOK, HR, HB⟩ := hrel
    have hk := HK.out
    cases gk with
    | zero =>
      obtain rfl : k = 4 := by omega
      have d1 : decide (((4 : Nat) : Int) < 4) = false := by decide
      clear hk
      have HY := Aside0.mk (show X = sealZ 73 (bodyTo is 4) ∧ e = 0 from by
        have h := HX.out
        rw [layIZ, if_pos HOK.out] at h
        exact ⟨(Prod.mk.inj h).1.symm, (Prod.mk.inj h).2.symm⟩)
      obtain ⟨A, c, rfl⟩ := Kd.R_slice HR.out
      have F := Aside0.mk (seal_Seal.yes 73 (bodyTo is 4) (by omega) (by omega) (by omega) (bodyTo_by is 4) (by rw [bodyTo_len HL.out 4 (Nat.le_refl _)]; omega) 400 (by omega))
      have hR := Kd.R_reads' HR.out
      have HC := Aside0.mk hR.2.2
      have HC2 := Aside0.mk hR.2.1
      clear hR
      go_wp2_with fail
      refine (seal_Seal.calls 400 73 _ _ (bodyTo is 4) _ 0 _ HC.out HC2.out F.out).mono ?_
      rintro e1 w1 ⟨vx, rfl, hx, hB⟩
      have HX1 := Aside0.mk (Kd.R_lower hx HB.out.size)
      have B1 := Aside0.mk (below_step HB.out hB)
      clear hx hB
      obtain ⟨hy1, hy2⟩ := HY.out
      subst hy1
      subst hy2
      go_wp2
      go_ret2
      exact ⟨_, rfl, HX1.out, B1.out⟩
    | succ m =>
      have d1 : decide ((k : Int) < 4) = true := decide_eq_true (by omega)
      have d6 : (k : Int) < 4 := by omega
      have HK4 := Aside0.mk (show k < 4 from by omega)
      have hix := index_four_run HL.out k HK4.out
      obtain ⟨c, hc⟩ : ∃ c, c = chunk is k := ⟨_, rfl⟩
      rw [← hc] at hix
      have HC := Aside0.mk hc
      have HCL := Aside0.mk (show c.length = 11 from by rw [hc]; exact chunk_len HL.out k HK4.out)
      have HRb := Aside0.mk (Kd.R_bound HR.out)
      clear hc hk HR
      go_wp2_with (first | ((with_reducible refine gate_dst (N := 6) rfl ?_); refine box_event ?hg6 (N := 6) ?hd6 (cs := (nums .i64 zero11).toArray) (t := 73) ?hr6 ?_; (case hd6 => rfl); (case hg6 => rfl); (case hr6 => first | (go_simp; done) | (go_simp; rfl)); intro g6 hg w1 hbox hb; have G6 := Aside0.mk (show wr.heap.size ≤ g6 from by omega); have B1 := Aside0.mk (below_step HB.out hb); have K6 := Aside0.mk (show HA w1 g6 73 .i64 zero11 from hbox); have HR1 := Aside0.mk (Kd.R_below HRb.out hb); clear hg hbox hb HRb) | ((with_reducible refine gate_store (t := 73) (p := 6) rfl ?_); refine store_row_event (w0 := w) rfl rfl 6 _ rfl (new := c) K6.out rfl rfl (by rw [HCL.out]; exact row73) HCL.out.symm (by have := G6.out; have := HB.out.size; omega) B1.out ?_; intro w2 hk hgr hb; have K62 := Aside0.mk (show HA w2 g6 73 .i64 c from hk); have B2 := Aside0.mk hb; have HR2 := Aside0.mk (Kd.R_grown HR1.out hgr (fun k hk e => by cases e; have := hk.2.2.1; have := G6.out; omega)); clear hk hgr hb HR1) | ((with_reducible refine gate_dst (N := 11) rfl ?_); refine load_row_event rfl _ rfl K62.out rfl (by rw [HCL.out]; exact row73) ?_))
      refine (inode_May.calls c HCL.out w2).mono ?_
      rintro e3 w3 ⟨rfl, hB⟩
      have B3 := Aside0.mk (below_step B2.out hB)
      have K63 := Aside0.mk (K62.out.below hB)
      have HR3 := Aside0.mk (Kd.R_below HR2.out hB)
      clear hB HR2
      cases hm : mayZ c with
      | false =>
        have HY := Aside0.mk (show layIZ is = ([], 2) from by
          rw [layIZ, if_neg]
          rw [okTo_no HK4.out (by rw [← HC.out]; exact hm)]
          exact Bool.false_ne_true)
        obtain ⟨rfl, rfl⟩ := Prod.mk.inj (HX.out.symm.trans HY.out)
        clear hm
        go_wp2
        go_ret2
        exact ⟨_, rfl, Kd.R_nil _ _ _ _ _, B3.out⟩
      | true =>
        have HQ := Aside0.mk (show okTo is (k + 1) = true from by rw [okTo_succ, HOK.out, ← HC.out, hm]; rfl)
        clear hm
        go_wp2_with (first | ((with_reducible refine gate_dst (N := 15) rfl ?_); refine load_row_event rfl _ rfl K63.out rfl (by rw [HCL.out]; exact row73) ?_))
        refine (inode_laid.calls c HCL.out w3).mono ?_
        rintro e4 w4 ⟨v4, rfl, hr, hB⟩
        have B4 := Aside0.mk (below_step B3.out hB)
        have HR4 := Aside0.mk (Kd.R_below HR3.out hB)
        obtain ⟨Al, cl, rfl⟩ := Kd.R_slice hr
        have HRl := Aside0.mk (Kd.R_reads' hr).2.2
        clear hr hB HR3
        go_wp2_with (first | ((with_reducible refine gate_builtin (b := .append) (xs := #[.tmp 14, .tmp 16]) rfl ?_); at_builtin; refine Kd.R_append_rows (Kd.int .u8) (w0 := w) w.heap.size rfl (.tmp 14) (.tmp 16) 22 5 (.int .u8 0) 1 rfl Try.underlying22 info5 rfl (by decide) (by omega) _ (bodyTo is k) (laidZ c) _ _ _ (fun _ => True) (fun _ => False) rfl rfl (Kd.R_mono HR4.out (fun _ _ => trivial)) HRl.out (fun _ _ h => h) (fun _ h => h.elim) (fun _ _ => trivial) B4.out B4.out.size (by rw [bodyTo_len HL.out k (by have := HK4.out; omega), laidZ_len HCL.out]; have := HK4.out; omega) ?_; intro v5 w5 hr hb _hg _ha; have HR5 := Aside0.mk (show Kd.R (Kd.int .u8) 5 w5 w.heap.size (fun _ => True) v5 (bodyTo is (k + 1)) from by rw [bodyTo_succ, ← HC.out]; exact hr); have B5 := Aside0.mk hb; clear hr hb _hg _ha HR4))
        go_roundg m
        case measure => have := HK.out; omega
        case rel => exact ⟨k + 1, by first | rfl | go_num, ⟨by have := HK.out; omega⟩, HQ, HR5, B5⟩
end Go.Proofs.Ytnhpmmmkcemnmaa.Pc
