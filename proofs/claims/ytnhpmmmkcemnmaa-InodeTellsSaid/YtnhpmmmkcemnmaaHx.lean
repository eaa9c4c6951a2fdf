/- The document's Read of inodes: its walk, by hand. -/
import Derived.Test.YtnhpmmmkcemnmaaHv
import Derived.Test.YtnhpmmmkcemnmaaHr
namespace Go.Proofs.Ytnhpmmmkcemnmaa.Pc
open Go.RowKit Go.Proofs.YtnhpmmmkcemnmaaW.PrintWords Go.Proofs.YtnhpmmmkcemnmaaW.PrintLast Go.Proofs.YtnhpmmmkcemnmaaW.PrintMore
set_option linter.unusedVariables false
set_option linter.unusedSimpArgs false

theorem or16 (p q : Int) (h0 : 0 ≤ p) (h1 : p < 140737488355328) (h2 : 0 ≤ q) (h3 : q < 65536) : bits .or .i64 (p * 65536) q = p * 65536 + q :=
  bits_join .i64 63 (by decide) (fun n a b => IntWalk.i64_in n (by omega)) 16 (p * 65536) q (by omega) (by omega) (by omega) h2 (by omega) (by omega)
theorem at2_range {b : List Int} (h : By b) (k : Nat) : 0 ≤ at2 b k ∧ at2 b k < 65536 := by
  have h1 := h.getD k
  have h2 := h.getD (k + 1)
  unfold at2
  omega
theorem at_is {l : List Int} (h : By l) (n : Nat) (hn : n + 1 < l.length) (hl : l.length ≤ 1000) : purlinref7_at.f l (n : Int) = some (at2 l n) := by
  have h1 := h.getD n
  have h2 := h.getD (n + 1)
  unfold purlinref7_at.f
  rw [wl (a := (n : Int) + 1) (by omega) (by omega), if_pos (by omega), if_pos (by omega), if_pos (by omega), if_pos (by omega)]
  have r1 : rd l (n : Int) = l.getD n 0 := rd_getD l n
  have r2 : rd l ((n : Int) + 1) = l.getD (n + 1) 0 := by rw [show (n : Int) + 1 = ((n + 1 : Nat) : Int) by omega]; exact rd_getD l (n + 1)
  rw [r1, r2, wl (a := l.getD n 0) (by omega) (by omega), wl (a := l.getD (n + 1) 0) (by omega) (by omega), wl (by omega) (by omega), or8 _ _ h1.1 (by omega) h2.1 h2.2]
  rfl
/-- The cells of a sector's body, from an offset on. -/
def Cells (w : World) (g o n : Nat) (b : List Int) : Prop := ∀ j, j < n → w.cell? ⟨g, o + j, none⟩ = some (.int .u8 (b.getD j 0))
theorem cells_grown {w w' : World} {row : Option Nat} {g o n : Nat} {b : List Int} (h : Cells w g o n b) (hg : w.grownBy w' row) (hne : some g ≠ row) : Cells w' g o n b := fun j hj => grown_cell hg (h j hj) hne
theorem ref_at {g o m : Nat} (b : List Int) (c : Nat) (a : Int) (n : Nat) (w : World) (hb : By b) (hc : Cells w g o m b) (hl : b.length = m) (hmc : m ≤ c) (ha : a = (n : Int)) (hn : n + 1 < 54) (hm : 54 ≤ m ∧ m ≤ 1000) :
    Calls Try.prog 82 #[.slice (some ⟨g, o, none⟩) m c, .int .i64 a] w fun e w' => e = .returned (.int .i64 (at2 b n)) ∧ Drawn0 w w' := by
  subst hl
  subst ha
  refine purlinref7_at.calls (some ⟨g, o, none⟩) c b (n : Int) (at2 b n) w (Kd.C_of_reads (enc := Value.int .u8) (h1 := fun _ => rfl) (d := (0 : Int)) ⟨rfl, by omega, fun _ => ⟨_, rfl, fun j hj => ?_⟩⟩) hmc (at_is hb n (by omega) (by omega))
  rw [Addr.add_mid]
  exact hc j hj
/-- An inode so far: all but the pointers from j on. -/
def refPart (b : List Int) (j : Nat) : List Int := (inodeOf b).take (3 + j) ++ (List.replicate (6 - j) 0 ++ (inodeOf b).drop 9)
def refFour (x : List Int) (k j : Nat) : List Int := readTo x k ++ (refPart (x.drop (23 * k)) j ++ List.replicate (33 - 11 * k) 0)
theorem refPart_len (b : List Int) (j : Nat) (hj : j ≤ 6) : (refPart b j).length = 11 := by
  unfold refPart
  simp [inodeOf]
  omega
theorem refFour_len (x : List Int) (k j : Nat) (hk : k < 4) (hj : j ≤ 6) : (refFour x k j).length = 44 := by
  unfold refFour
  rw [List.length_append, List.length_append, readTo_len, refPart_len _ _ hj, List.length_replicate]
  omega
theorem refPart_set (b : List Int) (j : Nat) (hj : j < 6) : (refPart b j).set (3 + j) (at2 b (7 + 2 * j)) = refPart b (j + 1) := by
  have : j = 0 ∨ j = 1 ∨ j = 2 ∨ j = 3 ∨ j = 4 ∨ j = 5 := by omega
  rcases this with rfl | rfl | rfl | rfl | rfl | rfl <;> rfl
theorem refPart_all (b : List Int) : refPart b 6 = inodeOf b := rfl
theorem refFour_set (x : List Int) (k j : Nat) (hk : k < 4) (hj : j < 6) : (refFour x k j).set (11 * k + (3 + j)) (at2 (x.drop (23 * k)) (7 + 2 * j)) = refFour x k (j + 1) := by
  have hl := readTo_len x k
  have hp := refPart_len (x.drop (23 * k)) j (by omega)
  unfold refFour
  rw [List.set_append_right _ _ (by omega), hl, show 11 * k + (3 + j) - 11 * k = 3 + j by omega, List.set_append_left _ _ (by omega), refPart_set _ _ hj]
theorem refFour_all (x : List Int) (k : Nat) (hk : k < 4) : refFour x k 6 = fourPart x (k + 1) := by
  unfold refFour fourPart
  rw [refPart_all, readTo_succ, List.append_assoc, show 44 - 11 * (k + 1) = 33 - 11 * k by omega]
theorem refFour_put (x : List Int) (k : Nat) (hk : k < 4) : (fourPart x k).take (11 * k) ++ refPart (x.drop (23 * k)) 0 ++ (fourPart x k).drop (11 * k + (refPart (x.drop (23 * k)) 0).length) = refFour x k 0 := by
  have hl := readTo_len x k
  have h11 := refPart_len (x.drop (23 * k)) 0 (by omega)
  unfold fourPart refFour
  generalize refPart (x.drop (23 * k)) 0 = d at h11
  rw [h11, List.take_append_of_le_length (by omega), List.take_of_length_le (by omega), List.drop_append, show List.drop (11 * k + 11) (readTo x k) = [] from List.drop_eq_nil_of_le (by omega), hl, List.drop_replicate, List.nil_append, show 44 - 11 * k - (11 * k + 11 - 11 * k) = 33 - 11 * k by omega, List.append_assoc]
section
variable {ops : Array Oper} {o : Oper} {a : Act} {Q : Exit → Act → World → Prop} {Kc : Act → World → Prop}
theorem store_mid_step {w0 W : World} {ty n lo : Nat} (hw : Region.wanted o (yielded ops a.tmps) = true) (x y : Operand) (ho : o.op = .store ty x y) {g te : Nat} {k : IntKind} {cur new : List Int} (hb : HA W g te k cur) (hx : a.eval x = .pointer (some ⟨g, lo, none⟩)) (hy : a.eval y = .agg (nums k new).toArray) (hr : Row ty n) (hn : new.length = n) (hl : lo + n ≤ cur.length)
    (hg : w0.heap.size ≤ g) (HB : Below w0.heap.size w0 W)
    (h : ∀ w1, HA w1 g te k (cur.take lo ++ new ++ cur.drop (lo + new.length)) → W.grownBy w1 (some g) → Below w0.heap.size w0 w1 → Kc (a.put o.dst undef) w1) :
    if Region.wanted o (yielded ops a.tmps) = true then Oper.wp Try.prog o a W Kc Q else Kc (a.put o.dst undef) W :=
  skip_step hw (store_mid_exec ho hb hx hy hr hn hl) (h _ (HA.setCells new lo W cur hb (by omega)).1 (grown_setCells hb (by omega)) (HB.grown (grown_setCells hb (by omega)) HB.size (fun q hq => by injection hq with hq; omega)))
end

set_option maxHeartbeats 12800000 in
set_option maxRecDepth 100000 in
theorem purlinref7_Read.calls (A : Option Addr) (c : Nat) (l : List Int) (w : World) (hr : Kd.C (Kd.int .u8) w A l.length l) (hc : l.length ≤ c) (by_ : By l) :
    Calls Try.prog 66 #[.slice A l.length c] w fun e w' => e = .returned (.tuple #[.agg (nums .i64 (readIZ l).1).toArray, .int .i64 (readIZ l).2]) ∧ Below w.heap.size w w' := by
  have HR := Aside0.mk hr
  have HC := Aside0.mk hc
  have HY := Aside0.mk by_
  have HB := Aside0.mk (Below.refl w.heap.size w)
  have F := Aside0.mk (ref2_Open.is 73 l by_ 400 (by omega))
  obtain ⟨X, e, hX⟩ : ∃ X e, readIZ l = (X, e) := ⟨_, _, rfl⟩
  rw [hX]
  have HX := Aside0.mk hX
  clear hr hc by_ hX
  by_cases hk : kindZ l = 73
  · have F1 := Aside0.mk (show purlinref2_Open.f 400 73 l = some (bodyOf l, 0) from by rw [F.out, if_pos ⟨by omega, hk⟩]; rfl)
    have HK := Aside0.mk hk
    have HXL := Aside0.mk (show (bodyOf l).length = 123 from by have := kindZ_len (b := l) (by omega); unfold bodyOf; simp; omega)
    have HXBY := Aside0.mk (bodyOf_by HY.out)
    clear F hk
    obtain ⟨x, hx⟩ : ∃ x, x = bodyOf l := ⟨_, rfl⟩
    have HX0 := Aside0.mk hx
    rw [← hx] at F1 HXL HXBY
    clear hx
    go_enter Try.func66, Try.ntmps66
    go_wp2_with (first | ((with_reducible refine gate_dst (N := 2) rfl ?_); refine box_event ?hg2 (N := 2) ?hd2 (cs := (nums .i64 zero44).toArray) (t := 74) ?hr2 ?_; (case hd2 => rfl); (case hg2 => rfl); (case hr2 => first | (go_simp; done) | (go_simp; rfl)); intro g2 hg wq hbox hb; have Bq := Aside0.mk (below_step HB.out hb); have K2 := Aside0.mk (show HA wq g2 74 .i64 zero44 from hbox); have G2 := Aside0.mk (show w.heap.size ≤ g2 from by omega); clear hg hbox hb) | ((with_reducible refine gate_dst (N := 4) rfl ?_); refine box_event ?hg4 (N := 4) ?hd4 (cs := (nums .i64 zero44).toArray) (t := 74) ?hr4 ?_; (case hd4 => rfl); (case hg4 => rfl); (case hr4 => first | (go_simp; done) | (go_simp; rfl)); intro g4 hg w0 hbox hb; have B0 := Aside0.mk (below_step Bq.out hb); have K4 := Aside0.mk (show HA w0 g4 74 .i64 zero44 from hbox); have K20 := Aside0.mk (K2.out.below hb); have G4 := Aside0.mk (show w.heap.size ≤ g4 from by have := Bq.out.size; omega); have N24 := Aside0.mk (show some g2 ≠ some g4 from by have := K2.out.lt; intro h; injection h with h; omega); clear hg hbox hb))
    refine (purlinref2_Open.calls 400 73 _ _ l x 0 w0 (Kd.C_below HR.out B0.out) HC.out F1.out).mono ?_
    rintro e1 w1 ⟨vx, rfl, hx, hB⟩
    obtain ⟨gx, cx, hv, hgl, hgx, hcx, hcell⟩ := R_at hx (by rw [HXL.out]; omega)
    subst hv
    have NX := Aside0.mk (show some gx ≠ some g4 from by have := K4.out.lt; intro h; injection h with h; omega)
    have B1 := Aside0.mk (below_step B0.out hB)
    have K21 := Aside0.mk (K20.out.below hB)
    have K41 := Aside0.mk (K4.out.below hB)
    rw [HXL.out] at hcell hcx
    have HCX := Aside0.mk hcell
    have HCC := Aside0.mk hcx
    rw [HXL.out]
    clear hx hB hcell hgl hcx hgx
    go_wp2
    go_loopg [7] 4 (fun gk v7 w' => ∃ k : Nat, v7 = .int .i64 (k : Int) ∧ Aside0 (k + gk = 4) ∧ Aside0 (HA w' g4 74 .i64 (fourPart x k)) ∧ Aside0 (w1.grownBy w' (some g4)) ∧ Aside0 (Below w.heap.size w w'))
    case atStart => exact ⟨0, rfl, ⟨rfl⟩, K41, ⟨World.grownBy.refl _ _⟩, B1⟩
    case round =>
     obtain ⟨k, rfl, HK4, HA6, HB, HW⟩ := hrel
     have hk := HK4.out
     cases gk with
     | zero =>
      obtain rfl : k = 4 := by omega
      clear hk
      have d1 : decide (((4 : Nat) : Int) < 4) = false := by decide
      rw [fourPart_all] at HA6
      obtain ⟨is, his⟩ : ∃ is, is = readTo x 4 := ⟨_, rfl⟩
      rw [← his] at HA6
      have HIS := Aside0.mk his
      have HIL := Aside0.mk (show is.length = 44 from by rw [his]; exact readTo_len x 4)
      clear his
      have HSB := Aside0.mk (sealI_by is)
      have HRD := Aside0.mk (show readIZ l = if okTo is 4 = true ∧ sealZ 73 (bodyTo is 4) = l then (is, 0) else (zero44, 3) from by
        unfold readIZ
        rw [← HX0.out, ← HIS.out]
        by_cases h : okTo is 4 = true ∧ sealZ 73 (bodyTo is 4) = l
        · rw [if_pos h, if_pos ⟨HK.out, h.1, h.2⟩]
        · rw [if_neg h, if_neg (fun z => h z.2)])
      have K2r := Aside0.mk (show HA wr g2 74 .i64 zero44 from K21.out.grown HB.out N24.out)
      go_wp2_with (first | ((with_reducible refine gate_dst (N := 61) rfl ?_); refine load_row_event rfl _ rfl HA6.out rfl (by rw [HIL.out]; exact row74) ?_))
      refine (purlinref7_Lay.calls is HIL.out _).mono ?_
      rintro e3 w3 ⟨vy, rfl, hy, hB⟩
      have B3 := Aside0.mk (below_step HW.out hB)
      have HA63 := Aside0.mk (HA6.out.below hB)
      have K23 := Aside0.mk (K2r.out.below hB)
      by_cases ho : okTo is 4 = true
      · have hlz : layIZ is = (sealZ 73 (bodyTo is 4), 0) := by rw [layIZ, if_pos ho]
        rw [hlz] at hy
        rw [hlz]
        have HO := Aside0.mk ho
        obtain ⟨Ay, cy, rfl⟩ := Kd.R_slice hy
        have hRy := Kd.R_reads' hy
        have HCy := Aside0.mk hRy.2.2
        have HCy2 := Aside0.mk hRy.2.1
        clear hy hB hRy hlz ho
        have hs1 := Kd.C_string (P := Try.prog) (src := 22) (dst := 9) (c := cy) Try.underlying22 Try.underlying5 Try.underlying9 HCy.out
        have hs2 := Kd.C_string (P := Try.prog) (src := 22) (dst := 9) (c := c) Try.underlying22 Try.underlying5 Try.underlying9 (Kd.C_below HR.out B3.out)
        by_cases hs : sealZ 73 (bodyTo is 4) = l
        · have d2 : ((strOfNums (sealZ 73 (bodyTo is 4))).toList != (strOfNums l).toList) = false := bne_eq_false_iff_eq.mpr ((strs_eq HSB.out HY.out).2 hs)
          have d3 : ((strOfNums (sealZ 73 (bodyTo is 4))).toList == (strOfNums l).toList) = true := beq_iff_eq.mpr ((strs_eq HSB.out HY.out).2 hs)
          have HZ := Aside0.mk (show readIZ l = (is, 0) from by rw [HRD.out, if_pos ⟨HO.out, hs⟩])
          clear hs
          go_wp2_with (first | ((with_reducible refine gate_dst (N := 75) rfl ?_); refine load_row_event rfl _ rfl HA63.out rfl (by rw [HIL.out]; exact row74) ?_) | ((with_reducible refine gate_store (t := 74) (p := 2) rfl ?_); refine store_row_event (w0 := w) rfl rfl 2 _ rfl (new := is) K23.out rfl rfl (by rw [HIL.out]; exact row74) HIL.out.symm G2.out B3.out ?_; intro w5 hk hgr hb; have K25 := Aside0.mk hk; have B5 := Aside0.mk hb; clear hk hgr hb))
          obtain ⟨rfl, rfl⟩ := Prod.mk.inj (HX.out.symm.trans HZ.out)
          refine bodyPost_ret (results_row rfl _ _ K25.out (by rw [HIL.out]; exact row74) rfl) rfl ⟨rfl, B5.out⟩
        · have d2 : ((strOfNums (sealZ 73 (bodyTo is 4))).toList != (strOfNums l).toList) = true := bne_iff_ne.mpr (fun h => hs ((strs_eq HSB.out HY.out).1 h))
          have d3 : ((strOfNums (sealZ 73 (bodyTo is 4))).toList == (strOfNums l).toList) = false := beq_eq_false_iff_ne.mpr (fun h => hs ((strs_eq HSB.out HY.out).1 h))
          have HZ := Aside0.mk (show readIZ l = (zero44, 3) from by rw [HRD.out, if_neg (fun z => hs z.2)])
          clear hs
          go_wp2_with (first | ((with_reducible refine gate_store (t := 74) (p := 2) rfl ?_); refine store_row_event (w0 := w) rfl rfl 2 _ rfl (new := zero44) K23.out rfl rfl row74 rfl G2.out B3.out ?_; intro w5 hk hgr hb; have K25 := Aside0.mk hk; have B5 := Aside0.mk hb; clear hk hgr hb))
          obtain ⟨rfl, rfl⟩ := Prod.mk.inj (HX.out.symm.trans HZ.out)
          refine bodyPost_ret (results_row rfl _ _ K25.out row74 rfl) rfl ⟨rfl, B5.out⟩
      · have hlz : layIZ is = ([], 2) := by rw [layIZ, if_neg ho]
        rw [hlz]
        have HZ := Aside0.mk (show readIZ l = (zero44, 3) from by rw [HRD.out, if_neg (fun z => ho z.1)])
        clear hy hB hlz ho
        go_wp2_with (first | ((with_reducible refine gate_store (t := 74) (p := 2) rfl ?_); refine store_row_event (w0 := w) rfl rfl 2 _ rfl (new := zero44) K23.out rfl rfl row74 rfl G2.out B3.out ?_; intro w5 hk hgr hb; have K25 := Aside0.mk hk; have B5 := Aside0.mk hb; clear hk hgr hb))
        obtain ⟨rfl, rfl⟩ := Prod.mk.inj (HX.out.symm.trans HZ.out)
        refine bodyPost_ret (results_row rfl _ _ K25.out row74 rfl) rfl ⟨rfl, B5.out⟩
     | succ m =>
      have d1 : decide ((k : Int) < 4) = true := decide_eq_true (by omega)
      have d6 : (k : Int) < 4 := by omega
      have d7 : (0 : Int) ≤ (k : Int) := by omega
      have HKL := Aside0.mk (show k < 4 from by omega)
      obtain ⟨b, hb⟩ : ∃ b, b = x.drop (23 * k) := ⟨_, rfl⟩
      have HBX := Aside0.mk hb
      have HXB := Aside0.mk (show By b from by rw [hb]; exact HXBY.out.drop_ _)
      obtain ⟨nn, hnn⟩ : ∃ nn, nn = 123 - 23 * k := ⟨_, rfl⟩
      obtain ⟨cc, hcc⟩ : ∃ cc, cc = cx - 23 * k := ⟨_, rfl⟩
      have HLB := Aside0.mk (show b.length = nn from by rw [hb, List.length_drop, HXL.out, hnn])
      have HCXK := Aside0.mk (show nn ≤ cc from by have := HCC.out; omega)
      have HKN := Aside0.mk (show 54 ≤ nn ∧ nn ≤ 1000 from by omega)
      have HCB := Aside0.mk (show Cells w1 gx (23 * k) nn b from fun j hj => by
        have h := HCX.out (23 * k + j) (by omega)
        rw [h, hb, getD_drop])
      obtain ⟨i0, hi0, _, hsz0, _⟩ := info_parts info5
      have hcut := cut_from (P := Try.prog) 22 5 .i64 Try.underlying22 hi0 1 hsz0 (some ⟨gx, 0, none⟩) 123 cx (23 * (k : Int)) (by omega) (by omega)
      rw [show (23 * (k : Int)).toNat = 23 * k by omega, if_neg (by have := HCC.out; have := HKL.out; omega), Option.map_some, Addr.add_mid, Nat.mul_one, Nat.zero_add, ← hnn, ← hcc] at hcut
      have n0 : (0 : Int) < (nn : Int) := by omega
      have n1 : 0 < nn := by omega
      clear hk hi0 hsz0 hb hnn hcc
      go_wp2
      clear hcut
      have C0 := Aside0.mk (show w1.cell? ⟨gx, 23 * k, none⟩ = some (.int .u8 (b.getD 0 0)) from by have h := HCB.out 0 (by have := HKN.out; omega); rw [Nat.add_zero] at h; exact h)
      obtain ⟨r0, r1⟩ := HXB.out.getD 0
      obtain ⟨r2, r3⟩ := at2_range HXB.out 3
      obtain ⟨r4, r5⟩ := at2_range HXB.out 5
      have hm1 : IntKind.i64.wrap (b[0]?.getD 0) = b[0]?.getD 0 := IntWalk.i64_in _ (by rw [← List.getD_eq_getElem?_getD]; omega)
      have hm2 : IntKind.i64.wrap (at2 b 3 * 65536) = at2 b 3 * 65536 := IntWalk.i64_in _ (by omega)
      have hm3 : bits .or .i64 (at2 b 3 * 65536) (at2 b 5) = at2 b 3 * 65536 + at2 b 5 := or16 _ _ r2 (by omega) r4 r5
      clear r0 r1 r2 r3 r4 r5
      refine wp_region_noPanic ?_
      refine wp_region_held_drew (S := (fun w' => w1.grownBy w' (some g4))) (by kernel_rfl) ?_ (fun hHeld => ?_)
      · (try dsimp only); exact grown_drew HB.out
      refine wpAnyH_take (i := 0) (v := ?_) (by simp only [List.getElem?_toArray, List.getElem?_cons_succ, List.getElem?_cons_zero]; rfl) (by kernel_rfl) (by kernel_rfl) (by kernel_rfl) (fun _ _ _ h => h) (Or.inl ⟨by rfl, ?_⟩) (by assumption) ?_
      rotate_left
      · (intro wS hSw; (try dsimp only at hSw); go_simp; try with_reducible rfl)
      try simp only [Act.put, List.setIfInBounds_toArray, List.set_cons_zero, List.set_cons_succ]
      refine wpAnyH_take (i := 1) (v := ?_) (by simp only [List.getElem?_toArray, List.getElem?_cons_succ, List.getElem?_cons_zero]; rfl) (by kernel_rfl) (by kernel_rfl) (by kernel_rfl) (fun _ _ _ h => h) (Or.inl ⟨by rfl, ?_⟩) (by assumption) ?_
      rotate_left
      · (intro wS hSw; (try dsimp only at hSw); go_simp; try with_reducible rfl)
      try simp only [Act.put, List.setIfInBounds_toArray, List.set_cons_zero, List.set_cons_succ]
      refine wpAnyH_take (i := 2) (v := ?_) (by simp only [List.getElem?_toArray, List.getElem?_cons_succ, List.getElem?_cons_zero]; rfl) (by kernel_rfl) (by kernel_rfl) (by kernel_rfl) (fun _ _ _ h => h) (Or.inl ⟨by rfl, ?_⟩) (by assumption) ?_
      rotate_left
      · (intro wS hSw; (try dsimp only at hSw); go_simp; try with_reducible rfl)
      try simp only [Act.put, List.setIfInBounds_toArray, List.set_cons_zero, List.set_cons_succ]
      refine wpAnyH_take (i := 3) (v := ?_) (by simp only [List.getElem?_toArray, List.getElem?_cons_succ, List.getElem?_cons_zero]; rfl) (by kernel_rfl) (by kernel_rfl) (by kernel_rfl) (fun _ _ _ h => h) (Or.inl ⟨by rfl, ?_⟩) (by assumption) ?_
      rotate_left
      · (intro wS hSw; (try dsimp only at hSw); have hc := grown_cell hSw C0.out NX.out; go_simp; try with_reducible rfl)
      try simp only [Act.put, List.setIfInBounds_toArray, List.set_cons_zero, List.set_cons_succ]
      refine wpAnyH_take (i := 4) (v := ?_) (by simp only [List.getElem?_toArray, List.getElem?_cons_succ, List.getElem?_cons_zero]; rfl) (by kernel_rfl) (by kernel_rfl) (by kernel_rfl) (fun _ _ _ h => h) (Or.inl ⟨by rfl, ?_⟩) (by assumption) ?_
      rotate_left
      · (intro wS hSw; (try dsimp only at hSw); go_simp; try with_reducible rfl)
      try simp only [Act.put, List.setIfInBounds_toArray, List.set_cons_zero, List.set_cons_succ]
      refine wpAnyH_take (i := 5) (v := ?_) (by simp only [List.getElem?_toArray, List.getElem?_cons_succ, List.getElem?_cons_zero]; rfl) (by kernel_rfl) (by kernel_rfl) (by kernel_rfl) (fun _ _ _ h => h) (Or.inl ⟨by rfl, ?_⟩) (by assumption) ?_
      rotate_left
      · (intro wS hSw; (try dsimp only at hSw); go_simp; try with_reducible rfl)
      try simp only [Act.put, List.setIfInBounds_toArray, List.set_cons_zero, List.set_cons_succ]
      refine wpAnyH_take (i := 7) (v := ?_) (by simp only [List.getElem?_toArray, List.getElem?_cons_succ, List.getElem?_cons_zero]; rfl) (by kernel_rfl) (by kernel_rfl) (by kernel_rfl) (fun _ _ _ h => h) (Or.inl ⟨by rfl, ?_⟩) (by assumption) ?_
      rotate_left
      · (intro wS hSw; (try dsimp only at hSw); go_simp; try with_reducible rfl)
      try simp only [Act.put, List.setIfInBounds_toArray, List.set_cons_zero, List.set_cons_succ]
      refine wpAnyH_take (i := 10) (v := ?_) (by simp only [List.getElem?_toArray, List.getElem?_cons_succ, List.getElem?_cons_zero]; rfl) (by kernel_rfl) (by kernel_rfl) (by kernel_rfl) (fun _ _ _ h => h) (Or.inl ⟨by rfl, ?_⟩) (by assumption) ?_
      rotate_left
      · (intro wS hSw; (try dsimp only at hSw); go_simp; try with_reducible rfl)
      try simp only [Act.put, List.setIfInBounds_toArray, List.set_cons_zero, List.set_cons_succ]
      refine wpAnyH_take (i := 13) (v := ?_) (by simp only [List.getElem?_toArray, List.getElem?_cons_succ, List.getElem?_cons_zero]; rfl) (by kernel_rfl) (by kernel_rfl) (by kernel_rfl) (fun _ _ _ h => h) (Or.inl ⟨by rfl, ?_⟩) (by assumption) ?_
      rotate_left
      · (intro wS hSw; (try dsimp only at hSw); go_simp; try with_reducible rfl)
      try simp only [Act.put, List.setIfInBounds_toArray, List.set_cons_zero, List.set_cons_succ]
      refine wpAnyH_take (i := 15) (v := ?_) (by simp only [List.getElem?_toArray, List.getElem?_cons_succ, List.getElem?_cons_zero]; rfl) (by kernel_rfl) (by kernel_rfl) (by kernel_rfl) (fun _ _ _ h => h) (Or.inl ⟨by rfl, ?_⟩) (by assumption) ?_
      rotate_left
      · (intro wS hSw; (try dsimp only at hSw); go_simp; try with_reducible rfl)
      try simp only [Act.put, List.setIfInBounds_toArray, List.set_cons_zero, List.set_cons_succ]
      refine wpAnyH_ready (rs := [6]) (by kernel_rfl) (by simp) ?_
      refine AllReadyH.cons (by simp only [List.getElem?_toArray, List.getElem?_cons_succ, List.getElem?_cons_zero]; rfl) (fun K hK => ?_) AllReadyH.nil
      go_simp
      refine (ref_at b cc 1 1 _ HXB.out (cells_grown HCB.out hHeld NX.out) HLB.out HCXK.out rfl (by omega) HKN.out).mono ?_
      rintro ewa wa ⟨rfl, hD⟩
      have Gwa := Aside0.mk (grown_below hHeld hD.below)
      have Kwa := Aside0.mk (HA.below (HA.drew HA6.out) hD.below)
      have Bwa := Aside0.mk (below_step (below_drew HW.out) hD.below)
      clear hD
      go_wp2_with fail
      refine hK.out _ _ ?_ (fun hHeld => ?_)
      · (try dsimp only); exact Gwa.out
      clear hK K
      try simp only [Act.put, List.setIfInBounds_toArray, List.set_cons_zero, List.set_cons_succ]
      refine wpAnyH_ready (rs := [8]) (by kernel_rfl) (by simp) ?_
      refine AllReadyH.cons (by simp only [List.getElem?_toArray, List.getElem?_cons_succ, List.getElem?_cons_zero]; rfl) (fun K hK => ?_) AllReadyH.nil
      go_simp
      refine (ref_at b cc 3 3 _ HXB.out (cells_grown HCB.out hHeld NX.out) HLB.out HCXK.out rfl (by omega) HKN.out).mono ?_
      rintro ewb wb ⟨rfl, hD⟩
      have Gwb := Aside0.mk (grown_below hHeld hD.below)
      have Kwb := Aside0.mk (HA.below Kwa.out hD.below)
      have Bwb := Aside0.mk (below_step Bwa.out hD.below)
      clear hD
      go_wp2_with fail
      refine hK.out _ _ ?_ (fun hHeld => ?_)
      · (try dsimp only); exact Gwb.out
      clear hK K
      try simp only [Act.put, List.setIfInBounds_toArray, List.set_cons_zero, List.set_cons_succ]
      refine wpAnyH_take (i := 9) (v := ?_) (by simp only [List.getElem?_toArray, List.getElem?_cons_succ, List.getElem?_cons_zero]; rfl) (by kernel_rfl) (by kernel_rfl) (by kernel_rfl) (fun _ _ _ h => h) (Or.inl ⟨by rfl, ?_⟩) (by assumption) ?_
      rotate_left
      · (intro wS hSw; (try dsimp only at hSw); go_simp; try with_reducible rfl)
      try simp only [Act.put, List.setIfInBounds_toArray, List.set_cons_zero, List.set_cons_succ]
      refine wpAnyH_ready (rs := [11]) (by kernel_rfl) (by simp) ?_
      refine AllReadyH.cons (by simp only [List.getElem?_toArray, List.getElem?_cons_succ, List.getElem?_cons_zero]; rfl) (fun K hK => ?_) AllReadyH.nil
      go_simp
      refine (ref_at b cc 5 5 _ HXB.out (cells_grown HCB.out hHeld NX.out) HLB.out HCXK.out rfl (by omega) HKN.out).mono ?_
      rintro ewc wc ⟨rfl, hD⟩
      have Gwc := Aside0.mk (grown_below hHeld hD.below)
      have Kwc := Aside0.mk (HA.below Kwb.out hD.below)
      have Bwc := Aside0.mk (below_step Bwb.out hD.below)
      clear hD
      go_wp2_with fail
      refine hK.out _ _ ?_ (fun hHeld => ?_)
      · (try dsimp only); exact Gwc.out
      clear hK K
      try simp only [Act.put, List.setIfInBounds_toArray, List.set_cons_zero, List.set_cons_succ]
      refine wpAnyH_take (i := 12) (v := ?_) (by simp only [List.getElem?_toArray, List.getElem?_cons_succ, List.getElem?_cons_zero]; rfl) (by kernel_rfl) (by kernel_rfl) (by kernel_rfl) (fun _ _ _ h => h) (Or.inl ⟨by rfl, ?_⟩) (by assumption) ?_
      rotate_left
      · (intro wS hSw; (try dsimp only at hSw); go_simp; try with_reducible rfl)
      try simp only [Act.put, List.setIfInBounds_toArray, List.set_cons_zero, List.set_cons_succ]
      refine wpAnyH_ready (rs := [14]) (by kernel_rfl) (by simp) ?_
      refine AllReadyH.cons (by simp only [List.getElem?_toArray, List.getElem?_cons_succ, List.getElem?_cons_zero]; rfl) (fun K hK => ?_) AllReadyH.nil
      go_simp
      refine (ref_at b cc 19 19 _ HXB.out (cells_grown HCB.out hHeld NX.out) HLB.out HCXK.out rfl (by omega) HKN.out).mono ?_
      rintro ewd wd ⟨rfl, hD⟩
      have Gwd := Aside0.mk (grown_below hHeld hD.below)
      have Kwd := Aside0.mk (HA.below Kwc.out hD.below)
      have Bwd := Aside0.mk (below_step Bwc.out hD.below)
      clear hD
      go_wp2_with fail
      refine hK.out _ _ ?_ (fun hHeld => ?_)
      · (try dsimp only); exact Gwd.out
      clear hK K
      try simp only [Act.put, List.setIfInBounds_toArray, List.set_cons_zero, List.set_cons_succ]
      refine wpAnyH_ready (rs := [16]) (by kernel_rfl) (by simp) ?_
      refine AllReadyH.cons (by simp only [List.getElem?_toArray, List.getElem?_cons_succ, List.getElem?_cons_zero]; rfl) (fun K hK => ?_) AllReadyH.nil
      go_simp
      refine (ref_at b cc 21 21 _ HXB.out (cells_grown HCB.out hHeld NX.out) HLB.out HCXK.out rfl (by omega) HKN.out).mono ?_
      rintro ewe we ⟨rfl, hD⟩
      have Gwe := Aside0.mk (grown_below hHeld hD.below)
      have Kwe := Aside0.mk (HA.below Kwd.out hD.below)
      have Bwe := Aside0.mk (below_step Bwd.out hD.below)
      clear hD
      go_wp2_with fail
      refine hK.out _ _ ?_ (fun hHeld => ?_)
      · (try dsimp only); exact Gwe.out
      clear hK K
      try simp only [Act.put, List.setIfInBounds_toArray, List.set_cons_zero, List.set_cons_succ]
      refine wpAnyH_take (i := 17) (v := ?_) (by simp only [List.getElem?_toArray, List.getElem?_cons_succ, List.getElem?_cons_zero]; rfl) (by kernel_rfl) (by kernel_rfl) (by kernel_rfl) (fun _ _ _ h => h) (Or.inl ⟨by rfl, ?_⟩) (by assumption) ?_
      rotate_left
      · (intro wS hSw; (try dsimp only at hSw); go_simp; try with_reducible rfl)
      try simp only [Act.put, List.setIfInBounds_toArray, List.set_cons_zero, List.set_cons_succ]
      refine wpAnyH_take (i := 18) (v := ?_) (by simp only [List.getElem?_toArray, List.getElem?_cons_succ, List.getElem?_cons_zero]; rfl) (by kernel_rfl) (by kernel_rfl) (by kernel_rfl) (fun _ _ _ h => h) (Or.inl ⟨by rfl, ?_⟩) (by assumption) ?_
      rotate_left
      · (intro wS hSw; (try dsimp only at hSw); go_simp; try with_reducible rfl)
      try simp only [Act.put, List.setIfInBounds_toArray, List.set_cons_zero, List.set_cons_succ]
      refine wpAnyH_ready (rs := [19]) (by kernel_rfl) (by simp) ?_
      refine AllReadyH.cons (by simp only [List.getElem?_toArray, List.getElem?_cons_succ, List.getElem?_cons_zero]; rfl) (fun K hK => ?_) AllReadyH.nil
      refine store_mid_step (w0 := w) (lo := k * 11) (by rfl) (.tmp 45) (.tmp 44) (by rfl) (new := refPart b 0) Kwe.out (by rfl) (by rfl) row73 rfl (by rw [fourPart_len _ _ (by have := HKL.out; omega)]; have := HKL.out; omega) G4.out Bwe.out ?_
      intro wf hk hgr hb
      have Kf := Aside0.mk (show HA wf g4 74 .i64 (refFour x k 0) from by rw [Nat.mul_comm k 11, HBX.out, refFour_put x k HKL.out] at hk; exact hk)
      have Gf := Aside0.mk (hHeld.trans hgr)
      have Bf := Aside0.mk hb
      clear hk hgr hb
      refine hK.out _ _ ?_ (fun hHeld => ?_)
      · (try dsimp only); exact Gf.out
      clear hK K
      try simp only [Act.put, List.setIfInBounds_toArray, List.set_cons_zero, List.set_cons_succ]
      refine wpAnyH_done (by kernel_rfl) ?_ _
      refine NoPanic.normal ?_
      clear hm1 hm2 hm3
      go_wp2
      obtain ⟨wo, rfl⟩ : ∃ wo : World, wo = wr := ⟨_, rfl⟩
      go_loopg [9] 6 (fun gk v9 w' => ∃ j : Nat, v9 = .int .i64 (j : Int) ∧ Aside0 (j + gk = 6) ∧ Aside0 (HA w' g4 74 .i64 (refFour x k j)) ∧ Aside0 (w1.grownBy w' (some g4)) ∧ Aside0 (Below w.heap.size w w'))
      case atStart => exact ⟨0, rfl, ⟨rfl⟩, Kf, Gf, Bf⟩
      case round =>
       obtain ⟨j, rfl, HJ, HAj, HBj, HWj⟩ := hrel
       have hj := HJ.out
       cases gk with
       | succ m2 =>
        have f1 : decide ((j : Int) < 6) = true := decide_eq_true (by omega)
        have f2 : (0 : Int) ≤ (j : Int) := by omega
        have f3 : (j : Int) < 6 := by omega
        have HJ6 := Aside0.mk (show j < 6 from by omega)
        clear hj
        go_wp2
        have hm1 : IntKind.i64.wrap (2 * (j : Int)) = 2 * (j : Int) := IntWalk.i64_in _ (by omega)
        have hm2 : IntKind.i64.wrap (7 + 2 * (j : Int)) = 7 + 2 * (j : Int) := IntWalk.i64_in _ (by omega)
        refine wp_region_noPanic ?_
        refine wp_region_held_drew (S := (fun w' => w1.grownBy w' (some g4))) (by kernel_rfl) ?_ (fun hHeld => ?_)
        · (try dsimp only); exact grown_drew HBj.out
        refine wpAnyH_take (i := 0) (v := ?_) (by simp only [List.getElem?_toArray, List.getElem?_cons_succ, List.getElem?_cons_zero]; rfl) (by kernel_rfl) (by kernel_rfl) (by kernel_rfl) (fun _ _ _ h => h) (Or.inl ⟨by rfl, ?_⟩) (by assumption) ?_
        rotate_left
        · (intro wS hSw; (try dsimp only at hSw); go_simp; try with_reducible rfl)
        try simp only [Act.put, List.setIfInBounds_toArray, List.set_cons_zero, List.set_cons_succ]
        refine wpAnyH_take (i := 1) (v := ?_) (by simp only [List.getElem?_toArray, List.getElem?_cons_succ, List.getElem?_cons_zero]; rfl) (by kernel_rfl) (by kernel_rfl) (by kernel_rfl) (fun _ _ _ h => h) (Or.inl ⟨by rfl, ?_⟩) (by assumption) ?_
        rotate_left
        · (intro wS hSw; (try dsimp only at hSw); go_simp; try with_reducible rfl)
        try simp only [Act.put, List.setIfInBounds_toArray, List.set_cons_zero, List.set_cons_succ]
        refine wpAnyH_take (i := 2) (v := ?_) (by simp only [List.getElem?_toArray, List.getElem?_cons_succ, List.getElem?_cons_zero]; rfl) (by kernel_rfl) (by kernel_rfl) (by kernel_rfl) (fun _ _ _ h => h) (Or.inl ⟨by rfl, ?_⟩) (by assumption) ?_
        rotate_left
        · (intro wS hSw; (try dsimp only at hSw); go_simp; try with_reducible rfl)
        try simp only [Act.put, List.setIfInBounds_toArray, List.set_cons_zero, List.set_cons_succ]
        refine wpAnyH_take (i := 3) (v := ?_) (by simp only [List.getElem?_toArray, List.getElem?_cons_succ, List.getElem?_cons_zero]; rfl) (by kernel_rfl) (by kernel_rfl) (by kernel_rfl) (fun _ _ _ h => h) (Or.inl ⟨by rfl, ?_⟩) (by assumption) ?_
        rotate_left
        · (intro wS hSw; (try dsimp only at hSw); go_simp; try with_reducible rfl)
        try simp only [Act.put, List.setIfInBounds_toArray, List.set_cons_zero, List.set_cons_succ]
        refine wpAnyH_take (i := 4) (v := ?_) (by simp only [List.getElem?_toArray, List.getElem?_cons_succ, List.getElem?_cons_zero]; rfl) (by kernel_rfl) (by kernel_rfl) (by kernel_rfl) (fun _ _ _ h => h) (Or.inl ⟨by rfl, ?_⟩) (by assumption) ?_
        rotate_left
        · (intro wS hSw; (try dsimp only at hSw); go_simp; try with_reducible rfl)
        try simp only [Act.put, List.setIfInBounds_toArray, List.set_cons_zero, List.set_cons_succ]
        refine wpAnyH_take (i := 5) (v := ?_) (by simp only [List.getElem?_toArray, List.getElem?_cons_succ, List.getElem?_cons_zero]; rfl) (by kernel_rfl) (by kernel_rfl) (by kernel_rfl) (fun _ _ _ h => h) (Or.inl ⟨by rfl, ?_⟩) (by assumption) ?_
        rotate_left
        · (intro wS hSw; (try dsimp only at hSw); go_simp; try with_reducible rfl)
        try simp only [Act.put, List.setIfInBounds_toArray, List.set_cons_zero, List.set_cons_succ]
        refine wpAnyH_take (i := 7) (v := ?_) (by simp only [List.getElem?_toArray, List.getElem?_cons_succ, List.getElem?_cons_zero]; rfl) (by kernel_rfl) (by kernel_rfl) (by kernel_rfl) (fun _ _ _ h => h) (Or.inl ⟨by rfl, ?_⟩) (by assumption) ?_
        rotate_left
        · (intro wS hSw; (try dsimp only at hSw); go_simp; try with_reducible rfl)
        try simp only [Act.put, List.setIfInBounds_toArray, List.set_cons_zero, List.set_cons_succ]
        refine wpAnyH_take (i := 8) (v := ?_) (by simp only [List.getElem?_toArray, List.getElem?_cons_succ, List.getElem?_cons_zero]; rfl) (by kernel_rfl) (by kernel_rfl) (by kernel_rfl) (fun _ _ _ h => h) (Or.inl ⟨by rfl, ?_⟩) (by assumption) ?_
        rotate_left
        · (intro wS hSw; (try dsimp only at hSw); go_simp; try with_reducible rfl)
        try simp only [Act.put, List.setIfInBounds_toArray, List.set_cons_zero, List.set_cons_succ]
        refine wpAnyH_ready (rs := [6]) (by kernel_rfl) (by simp) ?_
        refine AllReadyH.cons (by simp only [List.getElem?_toArray, List.getElem?_cons_succ, List.getElem?_cons_zero]; rfl) (fun K hK => ?_) AllReadyH.nil
        go_simp
        refine (ref_at b cc (7 + 2 * (j : Int)) (7 + 2 * j) _ HXB.out (cells_grown HCB.out hHeld NX.out) HLB.out HCXK.out (by omega) (by have := HJ6.out; omega) HKN.out).mono ?_
        rintro e20 w20 ⟨rfl, hD⟩
        have G20 := Aside0.mk (grown_below hHeld hD.below)
        have K20 := Aside0.mk ((HA.drew HAj.out).below hD.below)
        have B20 := Aside0.mk (below_step (below_drew HWj.out) hD.below)
        clear hD
        go_wp2_with fail
        refine hK.out _ _ ?_ (fun hHeld => ?_)
        · (try dsimp only); exact G20.out
        clear hK K
        try simp only [Act.put, List.setIfInBounds_toArray, List.set_cons_zero, List.set_cons_succ]
        refine wpAnyH_take (i := 9) (v := ?_) (by simp only [List.getElem?_toArray, List.getElem?_cons_succ, List.getElem?_cons_zero]; rfl) (by kernel_rfl) (by kernel_rfl) (by kernel_rfl) (fun _ _ _ h => h) (Or.inl ⟨by rfl, ?_⟩) (by assumption) ?_
        rotate_left
        · (intro wS hSw; (try dsimp only at hSw); go_simp; try with_reducible rfl)
        try simp only [Act.put, List.setIfInBounds_toArray, List.set_cons_zero, List.set_cons_succ]
        refine wpAnyH_ready (rs := [10]) (by kernel_rfl) (by simp) ?_
        refine AllReadyH.cons (by simp only [List.getElem?_toArray, List.getElem?_cons_succ, List.getElem?_cons_zero]; rfl) (fun K hK => ?_) AllReadyH.nil
        refine store_cell_step (w0 := w) (by rfl) (.tmp 59) (.tmp 56) (by rfl) K20.out (k * 11 + 3 + j) (by rw [refFour_len _ _ _ HKL.out (by have := HJ6.out; omega)]; have := HKL.out; have := HJ6.out; omega) (at2 b (7 + 2 * j)) (by rfl) (by rfl) G4.out B20.out ?_
        intro w21 hk hgr hb
        have K21 := Aside0.mk (show HA w21 g4 74 .i64 (refFour x k (j + 1)) from by rw [HBX.out, show k * 11 + 3 + j = 11 * k + (3 + j) by omega, refFour_set x k j HKL.out HJ6.out] at hk; exact hk)
        have G21 := Aside0.mk (hHeld.trans hgr)
        have B21 := Aside0.mk hb
        clear hk hgr hb
        refine hK.out _ _ ?_ (fun hHeld => ?_)
        · (try dsimp only); exact G21.out
        clear hK K
        try simp only [Act.put, List.setIfInBounds_toArray, List.set_cons_zero, List.set_cons_succ]
        refine wpAnyH_done (by kernel_rfl) ?_ _
        refine NoPanic.normal ?_
        clear hm1 hm2
        go_wp2
        go_roundg m2
        case measure => have := HJ.out; omega
        case rel => exact ⟨j + 1, by first | rfl | go_num, ⟨by have := HJ.out; omega⟩, K21, G21, B21⟩
       | zero =>
        obtain rfl : j = 6 := by omega
        have f1 : decide (((6 : Nat) : Int) < 6) = false := by decide
        rw [refFour_all x k HKL.out] at HAj
        clear hj
        go_wp2
        go_roundg m
        case measure => have := HK4.out; omega
        case rel => exact ⟨k + 1, by first | rfl | go_num, ⟨by have := HK4.out; omega⟩, HAj, HBj, HWj⟩
  · have F1 := Aside0.mk (show purlinref2_Open.f 400 73 l = some ([], 3) from by rw [F.out, if_neg (fun z => hk z.2)])
    obtain ⟨rfl, rfl⟩ := Prod.mk.inj (HX.out.symm.trans (readI_none hk))
    clear F hk
    go_enter Try.func66, Try.ntmps66
    go_wp2_with (first | ((with_reducible refine gate_dst (N := 2) rfl ?_); refine box_event ?hg2 (N := 2) ?hd2 (cs := (nums .i64 zero44).toArray) (t := 74) ?hr2 ?_; (case hd2 => rfl); (case hg2 => rfl); (case hr2 => first | (go_simp; done) | (go_simp; rfl)); intro g2 hg wq hbox hb; have Bq := Aside0.mk (below_step HB.out hb); have K2 := Aside0.mk (show HA wq g2 74 .i64 zero44 from hbox); have G2 := Aside0.mk (show w.heap.size ≤ g2 from by omega); clear hg hbox hb) | ((with_reducible refine gate_dst (N := 4) rfl ?_); refine box_event ?hg4 (N := 4) ?hd4 (cs := (nums .i64 zero44).toArray) (t := 74) ?hr4 ?_; (case hd4 => rfl); (case hg4 => rfl); (case hr4 => first | (go_simp; done) | (go_simp; rfl)); intro g4 hg w0 hbox hb; have B0 := Aside0.mk (below_step Bq.out hb); have K4 := Aside0.mk (show HA w0 g4 74 .i64 zero44 from hbox); have K20 := Aside0.mk (K2.out.below hb); clear hg hbox hb))
    refine (purlinref2_Open.calls 400 73 _ _ l [] 3 w0 (Kd.C_below HR.out B0.out) HC.out F1.out).mono ?_
    rintro e1 w1 ⟨vx, rfl, hx, hB⟩
    have B1 := Aside0.mk (below_step B0.out hB)
    have K21 := Aside0.mk (K20.out.below hB)
    have K41 := Aside0.mk (K4.out.below hB)
    clear hx hB
    go_wp2_with (first | ((with_reducible refine gate_dst (N := 18) rfl ?_); refine load_row_event rfl _ rfl K41.out rfl row74 ?_) | ((with_reducible refine gate_store (t := 74) (p := 2) rfl ?_); refine store_row_event (w0 := w) rfl rfl 2 _ rfl (new := zero44) K21.out rfl rfl row74 rfl G2.out B1.out ?_; intro w2 hk hgr hb; have K22 := Aside0.mk hk; have B2 := Aside0.mk hb; clear hk hgr hb))
    refine bodyPost_ret (results_row rfl _ _ K22.out row74 rfl) rfl ⟨rfl, B2.out⟩
end Go.Proofs.Ytnhpmmmkcemnmaa.Pc
