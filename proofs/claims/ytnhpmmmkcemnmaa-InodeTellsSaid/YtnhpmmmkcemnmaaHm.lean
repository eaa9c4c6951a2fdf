/- inode.laid: its walk, by hand. -/
import Derived.Test.YtnhpmmmkcemnmaaHk
namespace Go.Proofs.Ytnhpmmmkcemnmaa.Pc
open Go.RowKit Go.Proofs.YtnhpmmmkcemnmaaW.PrintWords Go.Proofs.YtnhpmmmkcemnmaaW.PrintLast Go.Proofs.YtnhpmmmkcemnmaaW.PrintMore
set_option linter.unusedVariables false
set_option linter.unusedSimpArgs false

theorem shr_0 (x : Int) : shr .i64 x 0 = x := by simp [shr]
theorem shr_8 (x : Int) : shr .i64 x 8 = x / 256 := rfl
theorem shr_16 (x : Int) : shr .i64 x 16 = x / 65536 := rfl
theorem shr_24 (x : Int) : shr .i64 x 24 = x / 16777216 := rfl
theorem wl {a : Int} (h0 : -9223372036854775808 ≤ a) (h1 : a ≤ 9223372036854775807) : wrap64 a = a := by unfold wrap64; omega
theorem fix_step (k : Nat) (l : List Int) (a : Int) (j : Nat) (hj : j ≤ 10) (hl : l.length ≤ 1000) : inode_fix.l0 (k + 1) l a (j : Int) = inode_fix.l0 k (l ++ [shr .i64 a (8 * (j : Int)) % 256]) a ((j : Int) - 1) := by
  simp only [inode_fix.l0]
  rw [if_pos (by omega), wl (by omega) (by omega), if_pos (by omega), if_pos (by omega), wl (by omega) (by omega)]
theorem fix_end (k : Nat) (l : List Int) (a : Int) : inode_fix.l0 (k + 1) l a (-1) = some l := by
  simp only [inode_fix.l0]
  rw [if_neg (by omega)]
theorem fix1 (l : List Int) (a : Int) (hl : l.length ≤ 900) : inode_fix.f 10 l a 1 = some (l ++ [a % 256]) := by
  unfold inode_fix.f
  rw [wl (by omega) (by omega), show (1 : Int) - 1 = ((0 : Nat) : Int) by omega, fix_step 9 l a 0 (by omega) (by omega), show ((0 : Nat) : Int) - 1 = -1 by omega, show 8 * ((0 : Nat) : Int) = 0 by omega, shr_0, fix_end]
theorem fix2 (l : List Int) (a : Int) (hl : l.length ≤ 900) : inode_fix.f 10 l a 2 = some (l ++ twoZ a) := by
  unfold inode_fix.f
  rw [wl (by omega) (by omega), show (2 : Int) - 1 = ((1 : Nat) : Int) by omega, fix_step 9 l a 1 (by omega) (by omega), show ((1 : Nat) : Int) - 1 = ((0 : Nat) : Int) by omega, fix_step 8 _ a 0 (by omega) (by simp; omega), show ((0 : Nat) : Int) - 1 = -1 by omega, show 8 * ((0 : Nat) : Int) = 0 by omega, show 8 * ((1 : Nat) : Int) = 8 by omega, shr_0, shr_8, fix_end]
  simp [twoZ]
theorem fix4 (l : List Int) (a : Int) (hl : l.length ≤ 900) : inode_fix.f 10 l a 4 = some (l ++ [a / 16777216 % 256, a / 65536 % 256, a / 256 % 256, a % 256]) := by
  unfold inode_fix.f
  rw [wl (by omega) (by omega), show (4 : Int) - 1 = ((3 : Nat) : Int) by omega, fix_step 9 l a 3 (by omega) (by omega), show ((3 : Nat) : Int) - 1 = ((2 : Nat) : Int) by omega, fix_step 8 _ a 2 (by omega) (by simp; omega), show ((2 : Nat) : Int) - 1 = ((1 : Nat) : Int) by omega, fix_step 7 _ a 1 (by omega) (by simp; omega), show ((1 : Nat) : Int) - 1 = ((0 : Nat) : Int) by omega, fix_step 6 _ a 0 (by omega) (by simp; omega), show ((0 : Nat) : Int) - 1 = -1 by omega, show 8 * ((0 : Nat) : Int) = 0 by omega, show 8 * ((1 : Nat) : Int) = 8 by omega, show 8 * ((2 : Nat) : Int) = 16 by omega, show 8 * ((3 : Nat) : Int) = 24 by omega, shr_0, shr_8, shr_16, shr_24, fix_end]
  simp
theorem head_len (i : List Int) : (headZ i).length = 7 := rfl
theorem flat_len (l : List Int) : (l.flatMap twoZ).length = 2 * l.length := by
  induction l with
  | nil => rfl
  | cons p l ih => rw [List.flatMap_cons, List.length_append, ih]; simp [twoZ]; omega
theorem flat_take {l : List Int} {k : Nat} (hk : k < l.length) : (l.take (k + 1)).flatMap twoZ = (l.take k).flatMap twoZ ++ twoZ (l.getD k 0) := by
  rw [take_snoc hk, List.flatMap_append]
  simp
theorem laid_all {i : List Int} (h : i.length = 11) : headZ i ++ ((i.drop 3).take 6).flatMap twoZ ++ twoZ (i[9]?.getD 0) ++ twoZ (i[10]?.getD 0) = laidZ i := by
  obtain ⟨a0, a1, a2, a3, a4, a5, a6, a7, a8, a9, a10, rfl⟩ := list11 h
  rfl
theorem laid_head {i : List Int} (h : i.length = 11) : ([] ++ [i[0]?.getD 0 % 256] ++ twoZ (i[1]?.getD 0) ++ [i[2]?.getD 0 / 16777216 % 256, i[2]?.getD 0 / 65536 % 256, i[2]?.getD 0 / 256 % 256, i[2]?.getD 0 % 256]) = headZ i := by
  obtain ⟨a0, a1, a2, a3, a4, a5, a6, a7, a8, a9, a10, rfl⟩ := list11 h
  rfl
theorem load_mid_exec {W : World} {ev : Operand → Value} {o : Oper} {ty : Nat} {x : Operand} (ho : o.op = .load ty x) {g te lo n : Nat} {k : IntKind} {cur : List Int} (hb : HA W g te k cur) (hx : ev x = .pointer (some ⟨g, lo, none⟩)) (hr : Row ty n) (hn : lo + n ≤ cur.length) :
    (execOp ev o).run Try.prog W = .ok (.value (.agg (nums k ((cur.drop lo).take n)).toArray)) W := by
  unfold execOp
  simp only [ho, hx, load_mid_run hb hr hn, Sem.run_bind, Sem.run_pure, Result.andThen_ok]

set_option maxHeartbeats 3200000 in
set_option maxRecDepth 100000 in
theorem inode_laid.calls (i : List Int) (hl : i.length = 11) (w : World) :
    Calls Try.prog 79 #[.agg (nums .i64 i).toArray] w fun e w' => ∃ v : Value, e = .returned v ∧ Kd.R (Kd.int .u8) 5 w' w.heap.size (fun _ => True) v (laidZ i) ∧ Below w.heap.size w w' := by
  have HL := Aside0.mk hl
  have HB := Aside0.mk (Below.refl w.heap.size w)
  clear hl
  go_enter Try.func79, Try.ntmps79
  go_wp2_with (first | ((with_reducible refine gate_dst (N := 1) rfl ?_); refine box_event ?hg (N := 1) ?hd (cs := (nums .i64 i).toArray) (t := 73) ?hr ?_; (case hd => rfl); (case hg => rfl); (case hr => first | (go_simp; done) | (go_simp; rfl)); intro g0 hg w0 hbox hb; have B0 := Aside0.mk (below_step HB.out hb); have K0 := Aside0.mk (show HA w0 g0 73 .i64 i from hbox); have SW := Aside0.mk hb.size; clear hg hbox hb HB))
  have GL := Aside0.mk K0.out.lt
  refine wp_region_noPanic ?_
  refine wp_region_held_drew (S := (fun w' => Below w0.heap.size w0 w')) (by kernel_rfl) ?_ (fun hHeld => ?_)
  · (try dsimp only); exact below_drew (Below.refl _ _)
  refine wpAnyH_take (i := 0) (v := ?_) (by simp only [List.getElem?_toArray, List.getElem?_cons_succ, List.getElem?_cons_zero]; rfl) (by kernel_rfl) (by kernel_rfl) (by kernel_rfl) (fun _ _ _ h => h) (Or.inl ⟨by rfl, ?_⟩) (by assumption) ?_
  rotate_left
  · (intro wS hSw; (try dsimp only at hSw); go_simp; try with_reducible rfl)
  try simp only [Act.put, List.setIfInBounds_toArray, List.set_cons_zero, List.set_cons_succ]
  refine wpAnyH_take (i := 1) (v := ?_) (by simp only [List.getElem?_toArray, List.getElem?_cons_succ, List.getElem?_cons_zero]; rfl) (by kernel_rfl) (by kernel_rfl) (by kernel_rfl) (fun _ _ _ h => h) (Or.inl ⟨by rfl, ?_⟩) (by assumption) ?_
  rotate_left
  · (intro wS hSw; (try dsimp only at hSw); have hc := pw_cell hSw (K0.out.cell 0 (by rw [HL.out]; omega)) GL.out; go_simp; try with_reducible rfl)
  try simp only [Act.put, List.setIfInBounds_toArray, List.set_cons_zero, List.set_cons_succ]
  refine wpAnyH_take (i := 3) (v := ?_) (by simp only [List.getElem?_toArray, List.getElem?_cons_succ, List.getElem?_cons_zero]; rfl) (by kernel_rfl) (by kernel_rfl) (by kernel_rfl) (fun _ _ _ h => h) (Or.inl ⟨by rfl, ?_⟩) (by assumption) ?_
  rotate_left
  · (intro wS hSw; (try dsimp only at hSw); go_simp; try with_reducible rfl)
  try simp only [Act.put, List.setIfInBounds_toArray, List.set_cons_zero, List.set_cons_succ]
  refine wpAnyH_take (i := 4) (v := ?_) (by simp only [List.getElem?_toArray, List.getElem?_cons_succ, List.getElem?_cons_zero]; rfl) (by kernel_rfl) (by kernel_rfl) (by kernel_rfl) (fun _ _ _ h => h) (Or.inl ⟨by rfl, ?_⟩) (by assumption) ?_
  rotate_left
  · (intro wS hSw; (try dsimp only at hSw); have hc := pw_cell hSw (K0.out.cell 1 (by rw [HL.out]; omega)) GL.out; go_simp; try with_reducible rfl)
  try simp only [Act.put, List.setIfInBounds_toArray, List.set_cons_zero, List.set_cons_succ]
  refine wpAnyH_take (i := 6) (v := ?_) (by simp only [List.getElem?_toArray, List.getElem?_cons_succ, List.getElem?_cons_zero]; rfl) (by kernel_rfl) (by kernel_rfl) (by kernel_rfl) (fun _ _ _ h => h) (Or.inl ⟨by rfl, ?_⟩) (by assumption) ?_
  rotate_left
  · (intro wS hSw; (try dsimp only at hSw); go_simp; try with_reducible rfl)
  try simp only [Act.put, List.setIfInBounds_toArray, List.set_cons_zero, List.set_cons_succ]
  refine wpAnyH_take (i := 7) (v := ?_) (by simp only [List.getElem?_toArray, List.getElem?_cons_succ, List.getElem?_cons_zero]; rfl) (by kernel_rfl) (by kernel_rfl) (by kernel_rfl) (fun _ _ _ h => h) (Or.inl ⟨by rfl, ?_⟩) (by assumption) ?_
  rotate_left
  · (intro wS hSw; (try dsimp only at hSw); have hc := pw_cell hSw (K0.out.cell 2 (by rw [HL.out]; omega)) GL.out; go_simp; try with_reducible rfl)
  try simp only [Act.put, List.setIfInBounds_toArray, List.set_cons_zero, List.set_cons_succ]
  refine wpAnyH_ready (rs := [2]) (by kernel_rfl) (by simp) ?_
  refine AllReadyH.cons (by simp only [List.getElem?_toArray, List.getElem?_cons_succ, List.getElem?_cons_zero]; rfl) (fun K hK => ?_) AllReadyH.nil
  go_simp
  refine (inode_fix.calls 10 (fun _ => True) (.slice none 0 0) [] (i[0]?.getD 0) 1 _ w0 _ hHeld (Kd.R_nil _ _ _ _ _) (fix1 [] _ (by simp))).mono ?_
  rintro e1 w1 ⟨v1, rfl, hr, hB, _⟩
  have HR1 := Aside0.mk (show Kd.R (Kd.int .u8) 5 w1 w0.heap.size (fun _ => True) v1 ([] ++ [i[0]?.getD 0 % 256]) from Kd.R_mono hr (fun _ _ => trivial))
  have HBw1 := Aside0.mk hB
  clear hr hB
  go_wp2_with fail
  refine hK.out _ _ ?_ (fun hHeld => ?_)
  · (try dsimp only); exact HBw1.out
  clear hK K
  try simp only [Act.put, List.setIfInBounds_toArray, List.set_cons_zero, List.set_cons_succ]
  refine wpAnyH_ready (rs := [5]) (by kernel_rfl) (by simp) ?_
  refine AllReadyH.cons (by simp only [List.getElem?_toArray, List.getElem?_cons_succ, List.getElem?_cons_zero]; rfl) (fun K hK => ?_) AllReadyH.nil
  go_simp
  refine (inode_fix.calls 10 (fun _ => True) v1 ([] ++ [i[0]?.getD 0 % 256]) (i[1]?.getD 0) 2 _ w0 _ hHeld HR1.out (fix2 _ _ (by simp))).mono ?_
  rintro e2 w2 ⟨v2, rfl, hr, hB, _⟩
  have HR2 := Aside0.mk (show Kd.R (Kd.int .u8) 5 w2 w0.heap.size (fun _ => True) v2 ([] ++ [i[0]?.getD 0 % 256] ++ twoZ (i[1]?.getD 0)) from Kd.R_mono hr (fun _ _ => trivial))
  have HBw2 := Aside0.mk hB
  clear hr hB
  go_wp2_with fail
  refine hK.out _ _ ?_ (fun hHeld => ?_)
  · (try dsimp only); exact HBw2.out
  clear hK K
  try simp only [Act.put, List.setIfInBounds_toArray, List.set_cons_zero, List.set_cons_succ]
  refine wpAnyH_ready (rs := [8]) (by kernel_rfl) (by simp) ?_
  refine AllReadyH.cons (by simp only [List.getElem?_toArray, List.getElem?_cons_succ, List.getElem?_cons_zero]; rfl) (fun K hK => ?_) AllReadyH.nil
  go_simp
  refine (inode_fix.calls 10 (fun _ => True) v2 ([] ++ [i[0]?.getD 0 % 256] ++ twoZ (i[1]?.getD 0)) (i[2]?.getD 0) 4 _ w0 _ hHeld HR2.out (fix4 _ _ (by simp [twoZ]))).mono ?_
  rintro e3 w3 ⟨v3, rfl, hr, hB, _⟩
  have HR3 := Aside0.mk (show Kd.R (Kd.int .u8) 5 w3 w0.heap.size (fun _ => True) v3 ([] ++ [i[0]?.getD 0 % 256] ++ twoZ (i[1]?.getD 0) ++ [i[2]?.getD 0 / 16777216 % 256, i[2]?.getD 0 / 65536 % 256, i[2]?.getD 0 / 256 % 256, i[2]?.getD 0 % 256]) from Kd.R_mono hr (fun _ _ => trivial))
  have HBw3 := Aside0.mk hB
  clear hr hB
  go_wp2_with fail
  refine hK.out _ _ ?_ (fun hHeld => ?_)
  · (try dsimp only); exact HBw3.out
  clear hK K
  try simp only [Act.put, List.setIfInBounds_toArray, List.set_cons_zero, List.set_cons_succ]
  refine wpAnyH_take (i := 9) (v := ?_) (by simp only [List.getElem?_toArray, List.getElem?_cons_succ, List.getElem?_cons_zero]; rfl) (by kernel_rfl) (by kernel_rfl) (by kernel_rfl) (fun _ _ _ h => h) (Or.inl ⟨by rfl, ?_⟩) (by assumption) ?_
  rotate_left
  · (intro wS hSw; (try dsimp only at hSw); go_simp; try with_reducible rfl)
  try simp only [Act.put, List.setIfInBounds_toArray, List.set_cons_zero, List.set_cons_succ]
  refine wpAnyH_done (by kernel_rfl) ?_ _
  refine NoPanic.normal ?_
  rw [laid_head HL.out] at HR3
  clear HR1 HR2 HBw1 HBw2 hHeld
  go_wp2_with (first | ((with_reducible refine gate_dst (N := 16) rfl ?_); refine Kd.event_run rfl (w1 := w3) (load_mid_exec (lo := 3) (n := 6) rfl (K0.out.below HBw3.out) rfl row71 (by rw [HL.out]; omega)) ?_))
  go_loopg [3, 17] 6 (fun gk v3 v17 w' => ∃ k : Nat, v17 = .int .i64 (k : Int) ∧ Aside0 (k + gk = 6) ∧ Aside0 (Kd.R (Kd.int .u8) 5 w' w0.heap.size (fun _ => True) v3 (headZ i ++ ((i.drop 3).take k).flatMap twoZ)) ∧ Aside0 (Below w0.heap.size w0 w'))
  case atStart => exact ⟨0, rfl, ⟨rfl⟩, ⟨by simpa using HR3.out⟩, HBw3⟩
  case round =>
    clear HR3 HBw3
    obtain ⟨k, rfl, HK, HR, HB⟩ := hrel
    have hk := HK.out
    cases gk with
    | zero =>
      obtain rfl : k = 6 := by omega
      have d1 : decide (((6 : Nat) : Int) < 6) = false := by decide
      clear hk
      go_wp2
      refine wp_region_noPanic ?_
      refine wp_region_held_drew (S := (fun w' => Below w0.heap.size w0 w')) (by kernel_rfl) ?_ (fun hHeld => ?_)
      · (try dsimp only); exact below_drew HB.out
      refine wpAnyH_take (i := 0) (v := ?_) (by simp only [List.getElem?_toArray, List.getElem?_cons_succ, List.getElem?_cons_zero]; rfl) (by kernel_rfl) (by kernel_rfl) (by kernel_rfl) (fun _ _ _ h => h) (Or.inl ⟨by rfl, ?_⟩) (by assumption) ?_
      rotate_left
      · (intro wS hSw; (try dsimp only at hSw); go_simp; try with_reducible rfl)
      try simp only [Act.put, List.setIfInBounds_toArray, List.set_cons_zero, List.set_cons_succ]
      refine wpAnyH_take (i := 1) (v := ?_) (by simp only [List.getElem?_toArray, List.getElem?_cons_succ, List.getElem?_cons_zero]; rfl) (by kernel_rfl) (by kernel_rfl) (by kernel_rfl) (fun _ _ _ h => h) (Or.inl ⟨by rfl, ?_⟩) (by assumption) ?_
      rotate_left
      · (intro wS hSw; (try dsimp only at hSw); go_simp; try with_reducible rfl)
      try simp only [Act.put, List.setIfInBounds_toArray, List.set_cons_zero, List.set_cons_succ]
      refine wpAnyH_take (i := 2) (v := ?_) (by simp only [List.getElem?_toArray, List.getElem?_cons_succ, List.getElem?_cons_zero]; rfl) (by kernel_rfl) (by kernel_rfl) (by kernel_rfl) (fun _ _ _ h => h) (Or.inl ⟨by rfl, ?_⟩) (by assumption) ?_
      rotate_left
      · (intro wS hSw; (try dsimp only at hSw); have hc := pw_cell hSw (K0.out.cell 9 (by rw [HL.out]; omega)) GL.out; go_simp; try with_reducible rfl)
      try simp only [Act.put, List.setIfInBounds_toArray, List.set_cons_zero, List.set_cons_succ]
      refine wpAnyH_take (i := 4) (v := ?_) (by simp only [List.getElem?_toArray, List.getElem?_cons_succ, List.getElem?_cons_zero]; rfl) (by kernel_rfl) (by kernel_rfl) (by kernel_rfl) (fun _ _ _ h => h) (Or.inl ⟨by rfl, ?_⟩) (by assumption) ?_
      rotate_left
      · (intro wS hSw; (try dsimp only at hSw); go_simp; try with_reducible rfl)
      try simp only [Act.put, List.setIfInBounds_toArray, List.set_cons_zero, List.set_cons_succ]
      refine wpAnyH_take (i := 5) (v := ?_) (by simp only [List.getElem?_toArray, List.getElem?_cons_succ, List.getElem?_cons_zero]; rfl) (by kernel_rfl) (by kernel_rfl) (by kernel_rfl) (fun _ _ _ h => h) (Or.inl ⟨by rfl, ?_⟩) (by assumption) ?_
      rotate_left
      · (intro wS hSw; (try dsimp only at hSw); have hc := pw_cell hSw (K0.out.cell 10 (by rw [HL.out]; omega)) GL.out; go_simp; try with_reducible rfl)
      try simp only [Act.put, List.setIfInBounds_toArray, List.set_cons_zero, List.set_cons_succ]
      refine wpAnyH_ready (rs := [3]) (by kernel_rfl) (by simp) ?_
      refine AllReadyH.cons (by simp only [List.getElem?_toArray, List.getElem?_cons_succ, List.getElem?_cons_zero]; rfl) (fun K hK => ?_) AllReadyH.nil
      go_simp
      refine (inode_fix.calls 10 (fun _ => True) u3 (headZ i ++ ((i.drop 3).take 6).flatMap twoZ) (i[9]?.getD 0) 2 _ w0 _ hHeld (Kd.R_drew HR.out) (fix2 _ _ (by rw [List.length_append, head_len, flat_len, List.length_take]; omega))).mono ?_
      rintro e4 w4 ⟨v4, rfl, hr, hB, _⟩
      have HR4 := Aside0.mk (show Kd.R (Kd.int .u8) 5 w4 w0.heap.size (fun _ => True) v4 (headZ i ++ ((i.drop 3).take 6).flatMap twoZ ++ twoZ (i[9]?.getD 0)) from Kd.R_mono hr (fun _ _ => trivial))
      have HBw4 := Aside0.mk hB
      clear hr hB
      go_wp2_with fail
      refine hK.out _ _ ?_ (fun hHeld => ?_)
      · (try dsimp only); exact HBw4.out
      clear hK K
      try simp only [Act.put, List.setIfInBounds_toArray, List.set_cons_zero, List.set_cons_succ]
      refine wpAnyH_ready (rs := [6]) (by kernel_rfl) (by simp) ?_
      refine AllReadyH.cons (by simp only [List.getElem?_toArray, List.getElem?_cons_succ, List.getElem?_cons_zero]; rfl) (fun K hK => ?_) AllReadyH.nil
      go_simp
      refine (inode_fix.calls 10 (fun _ => True) v4 (headZ i ++ ((i.drop 3).take 6).flatMap twoZ ++ twoZ (i[9]?.getD 0)) (i[10]?.getD 0) 2 _ w0 _ hHeld HR4.out (fix2 _ _ (by rw [List.length_append, List.length_append, head_len, flat_len, List.length_take]; simp [twoZ]; omega))).mono ?_
      rintro e5 w5 ⟨v5, rfl, hr, hB, _⟩
      have HR5 := Aside0.mk (show Kd.R (Kd.int .u8) 5 w5 w0.heap.size (fun _ => True) v5 (headZ i ++ ((i.drop 3).take 6).flatMap twoZ ++ twoZ (i[9]?.getD 0) ++ twoZ (i[10]?.getD 0)) from Kd.R_mono hr (fun _ _ => trivial))
      have HBw5 := Aside0.mk hB
      clear hr hB
      go_wp2_with fail
      refine hK.out _ _ ?_ (fun hHeld => ?_)
      · (try dsimp only); exact HBw5.out
      clear hK K
      try simp only [Act.put, List.setIfInBounds_toArray, List.set_cons_zero, List.set_cons_succ]
      refine wpAnyH_take (i := 7) (v := ?_) (by simp only [List.getElem?_toArray, List.getElem?_cons_succ, List.getElem?_cons_zero]; rfl) (by kernel_rfl) (by kernel_rfl) (by kernel_rfl) (fun _ _ _ h => h) (Or.inl ⟨by rfl, ?_⟩) (by assumption) ?_
      rotate_left
      · (intro wS hSw; (try dsimp only at hSw); go_simp; try with_reducible rfl)
      try simp only [Act.put, List.setIfInBounds_toArray, List.set_cons_zero, List.set_cons_succ]
      refine wpAnyH_done (by kernel_rfl) ?_ _
      refine NoPanic.normal ?_
      go_wp2
      go_ret
      exact ⟨_, rfl, Kd.R_lower (by have h := HR5.out; rw [laid_all HL.out] at h; exact h) SW.out, below_step B0.out HBw5.out⟩
    | succ m =>
      have d1 : decide ((k : Int) < 6) = true := decide_eq_true (by omega)
      have d2 : (0 : Int) ≤ (k : Int) := by omega
      have d3 : (k : Int) < 6 := by omega
      have hix := index_arr_run Try.underlying71 ((i.drop 3).take 6) k (by omega) (by rw [List.length_take, List.length_drop, HL.out]; omega)
      have HKL := Aside0.mk (show k < (i.drop 3).length from by rw [List.length_drop, HL.out]; omega)
      have HK6 := Aside0.mk (show k < 6 from by omega)
      obtain ⟨p, hp⟩ : ∃ p, p = ((i.drop 3).take 6).getD k 0 := ⟨_, rfl⟩
      rw [← hp] at hix
      have HP := Aside0.mk (show p = (i.drop 3).getD k 0 from by rw [hp, List.getD_eq_getElem?_getD, List.getElem?_take, if_pos HK6.out, ← List.getD_eq_getElem?_getD])
      clear hp hk
      go_wp2_with fail
      refine (inode_fix.calls 10 (fun _ => True) u3 (headZ i ++ ((i.drop 3).take k).flatMap twoZ) p 2 _ w0 _ HB.out HR.out (fix2 _ _ (by rw [List.length_append, head_len, flat_len, List.length_take]; have := HK6.out; omega))).mono ?_
      rintro e4 w4 ⟨v4, rfl, hr, hB, _⟩
      have HR4 := Aside0.mk (show Kd.R (Kd.int .u8) 5 w4 w0.heap.size (fun _ => True) v4 (headZ i ++ ((i.drop 3).take (k + 1)).flatMap twoZ) from by rw [flat_take HKL.out, ← HP.out, ← List.append_assoc]; exact Kd.R_mono hr (fun _ _ => trivial))
      have HB4 := Aside0.mk hB
      clear hr hB
      go_wp2
      go_roundg m
      case measure => have := HK.out; omega
      case rel => exact ⟨k + 1, by first | rfl | go_num, ⟨by have := HK.out; omega⟩, HR4, HB4⟩
end Go.Proofs.Ytnhpmmmkcemnmaa.Pc
