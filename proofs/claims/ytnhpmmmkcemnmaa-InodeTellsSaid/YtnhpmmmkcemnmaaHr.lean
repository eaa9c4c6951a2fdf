/- inode.Read: its walk, by hand. -/
import Derived.Test.YtnhpmmmkcemnmaaHq
import Derived.Test.YtnhpmmmkcemnmaaPcx15
namespace Go.Proofs.Ytnhpmmmkcemnmaa.Pc
open Go.RowKit Go.Proofs.YtnhpmmmkcemnmaaW.PrintWords Go.Proofs.YtnhpmmmkcemnmaaW.PrintLast Go.Proofs.YtnhpmmmkcemnmaaW.PrintMore
set_option linter.unusedVariables false
set_option linter.unusedSimpArgs false

theorem HA.setCells {te : Nat} {k : IntKind} {g : Nat} : ∀ (new : List Int) (lo : Nat) (w : World) (cur : List Int), HA w g te k cur → lo + new.length ≤ cur.length →
    HA (w.setCells g lo (nums k new)) g te k (cur.take lo ++ new ++ cur.drop (lo + new.length)) ∧ ∀ q, q ≠ g → (w.setCells g lo (nums k new)).heap[q]? = w.heap[q]? := by
  intro new
  induction new with
  | nil =>
    intro lo w cur h hl
    refine ⟨?_, fun q _ => rfl⟩
    simpa [nums, World.setCells] using h
  | cons a r ih =>
    intro lo w cur h hl
    have hl' : lo + 1 + r.length ≤ (cur.set lo a).length := by
      rw [List.length_set]
      simp at hl
      omega
    obtain ⟨h1, h2⟩ := ih (lo + 1) (w.setCell ⟨g, lo, none⟩ (.int k a)) (cur.set lo a) (h.set_ lo a) hl'
    have e : (cur.set lo a).take (lo + 1) ++ r ++ (cur.set lo a).drop (lo + 1 + r.length) = cur.take lo ++ (a :: r) ++ cur.drop (lo + (a :: r).length) := by
      have hlo : lo < cur.length := by simp at hl; omega
      rw [List.drop_set_of_lt (by omega), List.take_set, show lo + (a :: r).length = lo + 1 + r.length by simp; omega, List.take_succ_eq_append_getElem hlo, List.set_append_right _ _ (by rw [List.length_take]; exact Nat.min_le_left _ _), List.length_take, Nat.min_eq_left (by omega), Nat.sub_self]
      simp
    refine ⟨?_, fun q hq => (h2 q hq).trans (Below.heap_setCell _ _ _ q hq)⟩
    rw [e] at h1
    exact h1
section
variable {ops : Array Oper} {rest : List Oper} {o : Oper} {a : Act} {Q : Exit → Act → World → Prop}
theorem store_mid_exec {W : World} {ev : Operand → Value} {o : Oper} {ty n lo : Nat} {x y : Operand} (ho : o.op = .store ty x y) {g te : Nat} {k : IntKind} {cur new : List Int} (hb : HA W g te k cur) (hx : ev x = .pointer (some ⟨g, lo, none⟩)) (hy : ev y = .agg (nums k new).toArray) (hr : Row ty n) (hn : new.length = n) (hl : lo + n ≤ cur.length) :
    (execOp ev o).run Try.prog W = .ok .skip (W.setCells g lo (nums k new)) := by
  have ht : W.there g lo (nums k new).toArray.size := fun j hj => by
    rw [nums_size] at hj
    exact ⟨by rw [hb.cell (lo + j) (by omega)]; rfl, hb.frozen _⟩
  have := run_storeAt_mid (P := Try.prog) W g lo ty (nums k new).toArray ht (by rw [hr.size, nums_size, hn]) nums_one
  unfold execOp
  simp only [ho, hx, hy, this, Sem.run_bind, Sem.run_pure, Result.andThen_ok]
theorem grown_setCells {W : World} {g te lo : Nat} {k : IntKind} {cur new : List Int} (hb : HA W g te k cur) (hl : lo + new.length ≤ cur.length) : W.grownBy (W.setCells g lo (nums k new)) (some g) := by
  have key : ∀ (vs : List Value) (o : Nat) (w : World), (w.setCells g o vs).os = w.os ∧ (w.setCells g o vs).tape = w.tape ∧ (w.setCells g o vs).output = w.output ∧ (w.setCells g o vs).heap.size = w.heap.size := by
    intro vs
    induction vs with
    | nil => intro o w; exact ⟨rfl, rfl, rfl, rfl⟩
    | cons v r ih =>
      intro o w
      obtain ⟨h1, h2, h3, h4⟩ := ih (o + 1) (w.setCell ⟨g, o, none⟩ v)
      exact ⟨h1, h2, h3, h4.trans (by simp [World.setCell])⟩
  obtain ⟨h1, h2, h3, h4⟩ := key (nums k new) lo W
  exact ⟨h1, h2, h3, by rw [h4]; exact Nat.le_refl _, fun q _ hne => (HA.setCells new lo W cur hb hl).2 q (fun e => hne (by rw [e]))⟩
theorem store_mid_event {w0 W : World} (hgd : o.guard = none) (hd : o.dst = none) {ty n lo : Nat} (p : Tmp) (y : Operand) (ho : o.op = .store ty (.tmp p) y) {g te : Nat} {k : IntKind} {cur new : List Int} (hb : HA W g te k cur) (hx : a.eval (.tmp p) = .pointer (some ⟨g, lo, none⟩)) (hy : a.eval y = .agg (nums k new).toArray) (hr : Row ty n) (hn : new.length = n) (hl : lo + n ≤ cur.length)
    (hg : w0.heap.size ≤ g) (HB : Below w0.heap.size w0 W)
    (h : ∀ w1, HA w1 g te k (cur.take lo ++ new ++ cur.drop (lo + new.length)) → W.grownBy w1 (some g) → Below w0.heap.size w0 w1 → wpList Try.prog ops Q rest a w1) : wpList Try.prog ops Q (o :: rest) a W :=
  store_event hgd ho hd (store_mid_exec ho hb hx hy hr hn hl) (fun w' e => e ▸ h _ (HA.setCells new lo W cur hb (by omega)).1 (grown_setCells hb (by omega)) (HB.grown (grown_setCells hb (by omega)) HB.size (fun q hq => by injection hq with hq; omega)))
end
/-- A number out of a sector's body. -/
theorem num_at (x : List Int) (hx : By x) (g gx cx off m : Nat) (w1 w : World) (HCX : ∀ i, i < 123 → w1.cell? ⟨gx, i, none⟩ = some (.int .u8 (x.getD i 0))) (hgx : gx < w1.heap.size) (hcx : 123 ≤ cx) (hv : HS w g (.slice (some ⟨gx, off, none⟩) (123 - off) (cx - off))) (hm : 0 < m ∧ m ≤ 4) (hoff : off + m < 123) (hg : w1.heap.size ≤ g) (hB : Below w1.heap.size w1 w) :
    Calls Try.prog 81 #[.pointer (some ⟨g, 0, none⟩), .int .i64 (m : Int)] w fun e w' => e = .returned (.int .i64 (numZ x off m)) ∧ HS w' g (.slice (some ⟨gx, off + m, none⟩) (123 - (off + m)) (cx - (off + m))) ∧ w.grownBy w' (some g) ∧ Below w1.heap.size w1 w' := by
  have h := inode_number.calls x g gx off (123 - off) (cx - off) m w1 w hv (fun j hj => pw_cell hB (HCX (off + j) (by omega)) hgx) hx hm (by omega) (by omega) (by omega) (by omega) (by omega) hg hB
  rw [show 123 - off - m = 123 - (off + m) by omega, show cx - off - m = cx - (off + m) by omega] at h
  exact h
/-- An inode so far: three numbers, and j of eight. -/
def inoPart (b : List Int) (j : Nat) : List Int := (inodeOf b).take (3 + j) ++ List.replicate (8 - j) 0
theorem inoPart_len (b : List Int) (j : Nat) (hj : j ≤ 8) : (inoPart b j).length = 11 := by
  unfold inoPart
  rw [List.length_append, List.length_take, List.length_replicate]
  simp [inodeOf]
  omega
theorem inoPart_all (b : List Int) : inoPart b 8 = inodeOf b := by
  unfold inoPart
  rw [List.take_of_length_le (by simp [inodeOf])]
  simp
theorem ino_at (b : List Int) (j : Nat) (hj : j < 8) : (inodeOf b).getD (3 + j) 0 = at2 b (7 + 2 * j) := by
  have : j = 0 ∨ j = 1 ∨ j = 2 ∨ j = 3 ∨ j = 4 ∨ j = 5 ∨ j = 6 ∨ j = 7 := by omega
  rcases this with rfl | rfl | rfl | rfl | rfl | rfl | rfl | rfl <;> rfl
theorem inoPart_set (b : List Int) (j : Nat) (hj : j < 8) : (inoPart b j).set (3 + j) (at2 b (7 + 2 * j)) = inoPart b (j + 1) := by
  have hl : (inodeOf b).length = 11 := rfl
  unfold inoPart
  have h1 : ((inodeOf b).take (3 + j)).length = 3 + j := by rw [List.length_take, hl]; omega
  rw [List.set_append_right _ _ (by omega), h1, Nat.sub_self, show 3 + (j + 1) = (3 + j) + 1 by omega, take_snoc (by rw [hl]; omega), ino_at b j hj, show 8 - j = (8 - (j + 1)) + 1 by omega, List.replicate_succ, List.set_cons_zero]
  simp
theorem getD_drop (x : List Int) (a b : Nat) : (x.drop a).getD b 0 = x.getD (a + b) 0 := by
  rw [List.getD_eq_getElem?_getD, List.getElem?_drop, ← List.getD_eq_getElem?_getD]
theorem num1 (x : List Int) (o : Nat) : numZ x o 1 = (x.drop o).getD 0 0 := by
  rw [getD_drop]
  show 0 * 256 + x.getD (o + 0) 0 = _
  omega
theorem num2 (x : List Int) (o j : Nat) : numZ x (o + j) 2 = at2 (x.drop o) j := by
  unfold at2
  rw [getD_drop, getD_drop]
  show (0 * 256 + x.getD (o + j + 0) 0) * 256 + x.getD (o + j + 1) 0 = _
  rw [show o + (j + 1) = o + j + 1 by omega, show o + j + 0 = o + j by omega]
  omega
theorem num4 (x : List Int) (o j : Nat) : numZ x (o + j) 4 = at2 (x.drop o) j * 65536 + at2 (x.drop o) (j + 2) := by
  unfold at2
  rw [getD_drop, getD_drop, getD_drop, getD_drop]
  show (((0 * 256 + x.getD (o + j + 0) 0) * 256 + x.getD (o + j + 1) 0) * 256 + x.getD (o + j + 2) 0) * 256 + x.getD (o + j + 3) 0 = _
  rw [show o + (j + 1) = o + j + 1 by omega, show o + j + 0 = o + j by omega, show o + (j + 2) = o + j + 2 by omega, show o + (j + 2 + 1) = o + j + 3 by omega]
  omega
theorem inoPart_zero (x : List Int) (o : Nat) : inoPart (x.drop o) 0 = [numZ x o 1, numZ x (o + 1) 2, numZ x (o + 3) 4, 0, 0, 0, 0, 0, 0, 0, 0] := by
  rw [num1, num2, num4]
  rfl
/-- Four inodes so far. -/
def fourPart (x : List Int) (k : Nat) : List Int := readTo x k ++ List.replicate (44 - 11 * k) 0
theorem fourPart_len (x : List Int) (k : Nat) (hk : k ≤ 4) : (fourPart x k).length = 44 := by
  unfold fourPart
  rw [List.length_append, readTo_len, List.length_replicate]
  omega
theorem fourPart_zero (x : List Int) : fourPart x 0 = zero44 := rfl
theorem fourPart_all (x : List Int) : fourPart x 4 = readTo x 4 := by
  unfold fourPart
  simp
theorem fourPart_put (x : List Int) (k : Nat) (hk : k < 4) : (fourPart x k).take (11 * k) ++ inodeOf (x.drop (23 * k)) ++ (fourPart x k).drop (11 * k + (inodeOf (x.drop (23 * k))).length) = fourPart x (k + 1) := by
  have hl := readTo_len x k
  have h11 : (inodeOf (x.drop (23 * k))).length = 11 := rfl
  unfold fourPart
  rw [readTo_succ]
  generalize inodeOf (x.drop (23 * k)) = d at h11
  rw [h11, List.take_append_of_le_length (by omega), List.take_of_length_le (by omega), List.drop_append, show List.drop (11 * k + 11) (readTo x k) = [] from List.drop_eq_nil_of_le (by omega), hl, List.drop_replicate, List.nil_append, show 44 - 11 * k - (11 * k + 11 - 11 * k) = 44 - 11 * (k + 1) by omega]
set_option maxHeartbeats 6400000 in
set_option maxRecDepth 100000 in
theorem inode_Read.calls (A : Option Addr) (c : Nat) (l : List Int) (w : World) (hr : Kd.C (Kd.int .u8) w A l.length l) (hc : l.length ≤ c) (by_ : By l) :
    Calls Try.prog 65 #[.slice A l.length c] w fun e w' => e = .returned (.tuple #[.agg (nums .i64 (readIZ l).1).toArray, .int .i64 (readIZ l).2]) ∧ Below w.heap.size w w' := by
  have HR := Aside0.mk hr
  have HC := Aside0.mk hc
  have HY := Aside0.mk by_
  have HB := Aside0.mk (Below.refl w.heap.size w)
  have F := Aside0.mk (seal_Open.is 73 l by_ 400 (by omega))
  obtain ⟨X, e, hX⟩ : ∃ X e, readIZ l = (X, e) := ⟨_, _, rfl⟩
  rw [hX]
  have HX := Aside0.mk hX
  clear hr hc by_ hX
  by_cases hk : kindZ l = 73
  · have F1 := Aside0.mk (show seal_Open.f 400 73 l = some (bodyOf l, 0) from by rw [F.out, if_pos ⟨by omega, hk⟩]; rfl)
    have HK := Aside0.mk hk
    have HXL := Aside0.mk (show (bodyOf l).length = 123 from by have := kindZ_len (b := l) (by omega); unfold bodyOf; simp; omega)
    have HXB := Aside0.mk (bodyOf_by HY.out)
    clear F hk
    obtain ⟨x, hx⟩ : ∃ x, x = bodyOf l := ⟨_, rfl⟩
    have HX0 := Aside0.mk hx
    rw [← hx] at F1 HXL HXB
    clear hx
    go_enter Try.func65, Try.ntmps65
    go_wp2_with (first | ((with_reducible refine gate_dst (N := 2) rfl ?_); refine box_event ?hg2 (N := 2) ?hd2 (cs := (nums .i64 zero44).toArray) (t := 74) ?hr2 ?_; (case hd2 => rfl); (case hg2 => rfl); (case hr2 => first | (go_simp; done) | (go_simp; rfl)); intro g2 hg w0 hbox hb; have B0 := Aside0.mk (below_step HB.out hb); have K2 := Aside0.mk (show HA w0 g2 74 .i64 zero44 from hbox); have G2 := Aside0.mk (show w.heap.size ≤ g2 from by omega); clear hg hbox hb))
    refine (seal_Open.calls 400 73 _ _ l x 0 w0 (Kd.C_below HR.out B0.out) HC.out F1.out).mono ?_
    rintro e1 w1 ⟨vx, rfl, hx, hB⟩
    obtain ⟨gx, cx, hv, hgl, _, hcx, hcell⟩ := R_at hx (by rw [HXL.out]; omega)
    subst hv
    have GL := Aside0.mk hgl
    have B1 := Aside0.mk (below_step B0.out hB)
    have K21 := Aside0.mk (K2.out.below hB)
    rw [HXL.out] at hcell hcx
    have HCX := Aside0.mk hcell
    have HCC := Aside0.mk hcx
    rw [HXL.out]
    clear hx hB hcell hgl hcx
    go_wp2_with (first | ((with_reducible refine gate_dst (N := 6) rfl ?_); refine box_event ?hg6 (N := 6) ?hd6 (cs := (nums .i64 zero44).toArray) (t := 74) ?hr6 ?_; (case hd6 => rfl); (case hg6 => rfl); (case hr6 => first | (go_simp; done) | (go_simp; rfl)); intro g6 hg w2 hbox hb; have B2 := Aside0.mk hb; have K6 := Aside0.mk (show HA w2 g6 74 .i64 zero44 from hbox); have G6 := Aside0.mk (show w1.heap.size ≤ g6 from by omega); clear hg hbox hb))
    go_loopg [21] 4 (fun gk v21 w' => ∃ k : Nat, v21 = .int .i64 (k : Int) ∧ Aside0 (k + gk = 4) ∧ Aside0 (HA w' g6 74 .i64 (fourPart x k)) ∧ Aside0 (Below w1.heap.size w1 w'))
    case atStart => exact ⟨0, rfl, ⟨rfl⟩, K6, B2⟩
    case round =>
     clear B2 K6
     obtain ⟨k, rfl, HK4, HA6, HB⟩ := hrel
     have hk := HK4.out
     cases gk with
     | zero =>
      obtain rfl : k = 4 := by omega
      clear hk
      have d1 : decide (((4 : Nat) : Int) < 4) = false := by decide
      rw [fourPart_all] at HA6
      obtain ⟨is, his⟩ : ∃ is, is = readTo x 4 := ⟨_, rfl⟩
      rw [← his] at HA6
      have HIS := Aside0.mk his
      have HIL := Aside0.mk (show is.length = 44 from by rw [his]; exact readTo_len x 4)
      clear his
      have HSB := Aside0.mk (sealI_by is)
      have HRD := Aside0.mk (show readIZ l = if okTo is 4 = true ∧ sealZ 73 (bodyTo is 4) = l then (is, 0) else (zero44, 3) from by
        unfold readIZ
        rw [← HX0.out, ← HIS.out]
        by_cases h : okTo is 4 = true ∧ sealZ 73 (bodyTo is 4) = l
        · rw [if_pos h, if_pos ⟨HK.out, h.1, h.2⟩]
        · rw [if_neg h, if_neg (fun z => h z.2)])
      go_wp2_with (first | ((with_reducible refine gate_dst (N := 49) rfl ?_); refine load_row_event rfl _ rfl HA6.out rfl (by rw [HIL.out]; exact row74) ?_))
      refine (inode_Lay.calls is HIL.out _).mono ?_
      rintro e3 w3 ⟨vy, rfl, hy, hB⟩
      have B3 := Aside0.mk (below_step HB.out hB)
      have HA63 := Aside0.mk (HA6.out.below hB)
      have K23 := Aside0.mk (K21.out.below0 B3.out K21.out.lt)
      by_cases ho : okTo is 4 = true
      · have hlz : layIZ is = (sealZ 73 (bodyTo is 4), 0) := by rw [layIZ, if_pos ho]
        rw [hlz] at hy
        rw [hlz]
        have HO := Aside0.mk ho
        obtain ⟨Ay, cy, rfl⟩ := Kd.R_slice hy
        have hRy := Kd.R_reads' hy
        have HCy := Aside0.mk hRy.2.2
        have HCy2 := Aside0.mk hRy.2.1
        clear hy hB hRy hlz ho
        go_wp2_with fail
        refine (bytes_Equal.calls _ _ (sealZ 73 (bodyTo is 4)) _ _ l (sealZ 73 (bodyTo is 4) == l) w3 HCy.out HCy2.out (Kd.C_below HR.out (below_step B1.out B3.out)) HC.out (bytes_Equal_is _ _ HSB.out HY.out)).mono ?_
        rintro e4 w4 ⟨rfl, hD⟩
        have B4 := Aside0.mk (below_step B3.out hD.below)
        have HA64 := Aside0.mk (HA63.out.below hD.below)
        have K24 := Aside0.mk (K23.out.below hD.below)
        clear hD
        by_cases hs : sealZ 73 (bodyTo is 4) = l
        · have d2 : (sealZ 73 (bodyTo is 4) == l) = true := beq_iff_eq.mpr hs
          rw [d2]
          have HZ := Aside0.mk (show readIZ l = (is, 0) from by rw [HRD.out, if_pos ⟨HO.out, hs⟩])
          clear hs d2
          go_wp2_with (first | ((with_reducible refine gate_dst (N := 62) rfl ?_); refine load_row_event rfl _ rfl HA64.out rfl (by rw [HIL.out]; exact row74) ?_) | ((with_reducible refine gate_store (t := 74) (p := 2) rfl ?_); refine store_row_event (w0 := w) rfl rfl 2 _ rfl (new := is) K24.out rfl rfl (by rw [HIL.out]; exact row74) HIL.out.symm G2.out (below_step B1.out B4.out) ?_; intro w5 hk hgr hb; have K25 := Aside0.mk hk; have B5 := Aside0.mk hb; clear hk hgr hb))
          obtain ⟨rfl, rfl⟩ := Prod.mk.inj (HX.out.symm.trans HZ.out)
          refine bodyPost_ret (results_row rfl _ _ K25.out (by rw [HIL.out]; exact row74) rfl) rfl ⟨rfl, B5.out⟩
        · have d2 : (sealZ 73 (bodyTo is 4) == l) = false := beq_eq_false_iff_ne.mpr hs
          rw [d2]
          have HZ := Aside0.mk (show readIZ l = (zero44, 3) from by rw [HRD.out, if_neg (fun z => hs z.2)])
          clear hs d2
          go_wp2_with (first | ((with_reducible refine gate_store (t := 74) (p := 2) rfl ?_); refine store_row_event (w0 := w) rfl rfl 2 _ rfl (new := zero44) K24.out rfl rfl row74 rfl G2.out (below_step B1.out B4.out) ?_; intro w5 hk hgr hb; have K25 := Aside0.mk hk; have B5 := Aside0.mk hb; clear hk hgr hb))
          obtain ⟨rfl, rfl⟩ := Prod.mk.inj (HX.out.symm.trans HZ.out)
          refine bodyPost_ret (results_row rfl _ _ K25.out row74 rfl) rfl ⟨rfl, B5.out⟩
      · have hlz : layIZ is = ([], 2) := by rw [layIZ, if_neg ho]
        rw [hlz]
        have HZ := Aside0.mk (show readIZ l = (zero44, 3) from by rw [HRD.out, if_neg (fun z => ho z.1)])
        clear hy hB hlz ho
        go_wp2_with (first | ((with_reducible refine gate_store (t := 74) (p := 2) rfl ?_); refine store_row_event (w0 := w) rfl rfl 2 _ rfl (new := zero44) K23.out rfl rfl row74 rfl G2.out (below_step B1.out B3.out) ?_; intro w5 hk hgr hb; have K25 := Aside0.mk hk; have B5 := Aside0.mk hb; clear hk hgr hb))
        obtain ⟨rfl, rfl⟩ := Prod.mk.inj (HX.out.symm.trans HZ.out)
        refine bodyPost_ret (results_row rfl _ _ K25.out row74 rfl) rfl ⟨rfl, B5.out⟩
     | succ m =>
      have d1 : decide ((k : Int) < 4) = true := decide_eq_true (by omega)
      have d6 : (k : Int) < 4 := by omega
      have d7 : (0 : Int) ≤ (k : Int) := by omega
      have HKL := Aside0.mk (show k < 4 from by omega)
      obtain ⟨i0, hi0, _, hsz0, _⟩ := info_parts info5
      have hcut := cut_from (P := Try.prog) 22 5 .i64 Try.underlying22 hi0 1 hsz0 (some ⟨gx, 0, none⟩) 123 cx ((k : Int) * 23) (by omega) (by omega)
      rw [show ((k : Int) * 23).toNat = 23 * k by omega, if_neg (by have := HCC.out; have := HKL.out; omega), Option.map_some, Addr.add_mid, Nat.mul_one, Nat.zero_add] at hcut
      clear hk hi0 hsz0
      go_wp2_with (first | ((with_reducible refine gate_dst (N := 8) rfl ?_); refine box_event ?hg8 (N := 8) ?hd8 (cs := #[.slice none 0 0]) (t := 22) ?hr8 ?_; (case hd8 => rfl); (case hg8 => rfl); (case hr8 => first | (go_simp; done) | (go_simp; rfl)); intro g8 hg w3 hbox hb; have B3 := Aside0.mk (below_step HB.out hb); have K8 := Aside0.mk (show HS w3 g8 (.slice none 0 0) from hbox); have G8 := Aside0.mk (show w1.heap.size ≤ g8 from by have := HB.out.size; omega); have N68 := Aside0.mk (show some g6 ≠ some g8 from by have := HA6.out.lt; intro h; injection h with h; omega); have HA63 := Aside0.mk (HA6.out.below hb); clear hg hbox hb) | ((with_reducible refine gate_store (t := 22) (p := 8) rfl ?_); refine store_slice_event (w0 := w1) rfl rfl 8 _ rfl K8.out (some ⟨gx, 23 * k, none⟩) (123 - 23 * k) (cx - 23 * k) rfl rfl G8.out B3.out ?_; intro w4 hs hgr hb; have K84 := Aside0.mk hs; have B4 := Aside0.mk hb; have HA64 := Aside0.mk (HA63.out.grown hgr N68.out); clear hs hgr hb hcut))
      refine (num_at x HXB.out g8 gx cx (23 * k) 1 w1 w4 HCX.out GL.out HCC.out K84.out (by omega) (by have := HKL.out; omega) G8.out B4.out).mono ?_
      rintro e5 w5 ⟨rfl, hs, hgr, hb⟩
      have K85 := Aside0.mk hs
      have B5 := Aside0.mk hb
      have HA65 := Aside0.mk (HA64.out.grown hgr N68.out)
      clear hs hgr hb
      go_wp2_with fail
      refine (num_at x HXB.out g8 gx cx (23 * k + 1) 2 w1 w5 HCX.out GL.out HCC.out K85.out (by omega) (by have := HKL.out; omega) G8.out B5.out).mono ?_
      rintro e6 w6 ⟨rfl, hs, hgr, hb⟩
      have K86 := Aside0.mk hs
      have B6 := Aside0.mk hb
      have HA66 := Aside0.mk (HA65.out.grown hgr N68.out)
      clear hs hgr hb
      go_wp2_with fail
      refine (num_at x HXB.out g8 gx cx (23 * k + 3) 4 w1 w6 HCX.out GL.out HCC.out K86.out (by omega) (by have := HKL.out; omega) G8.out B6.out).mono ?_
      rintro e7 w7 ⟨rfl, hs, hgr, hb⟩
      have K87 := Aside0.mk hs
      have B7 := Aside0.mk hb
      have HA67 := Aside0.mk (HA66.out.grown hgr N68.out)
      clear hs hgr hb
      have HI0 := Aside0.mk (inoPart_zero x (23 * k))
      go_wp2_with (first | ((with_reducible refine gate_dst (N := 9) rfl ?_); refine box_event ?hg9 (N := 9) ?hd9 (cs := (nums .i64 zero11).toArray) (t := 73) ?hr9 ?_; (case hd9 => rfl); (case hg9 => rfl); (case hr9 => first | (go_simp; done) | (go_simp; rfl)); intro g9 hg w8 hbox hb; have B8 := Aside0.mk (below_step B7.out hb); have K9 := Aside0.mk (show HA w8 g9 73 .i64 zero11 from hbox); have G9 := Aside0.mk (show w1.heap.size ≤ g9 from by have := B7.out.size; omega); have N69 := Aside0.mk (show some g6 ≠ some g9 from by have := HA67.out.lt; intro h; injection h with h; omega); have N89 := Aside0.mk (show some g8 ≠ some g9 from by have := K87.out.lt; intro h; injection h with h; omega); have HA68 := Aside0.mk (HA67.out.below hb); have K88 := Aside0.mk (K87.out.below hb); clear hg hbox hb) | ((with_reducible refine gate_store (t := 73) (p := 9) rfl ?_); refine store_row_event (w0 := w1) rfl rfl 9 _ rfl (new := inoPart (x.drop (23 * k)) 0) K9.out rfl (by rw [HI0.out]; rfl) (by rw [inoPart_len _ _ (by omega)]; exact row73) (by rw [inoPart_len _ _ (by omega)]; rfl) G9.out B8.out ?_; intro w9 hk hgr hb; have K99 := Aside0.mk hk; have B9 := Aside0.mk hb; have HA69 := Aside0.mk (HA68.out.grown hgr N69.out); have K89 := Aside0.mk (K88.out.grown hgr N89.out); clear hk hgr hb))
      obtain ⟨wo, rfl⟩ : ∃ wo : World, wo = wr := ⟨_, rfl⟩
      go_loopg [32] 6 (fun gk v32 w' => ∃ j : Nat, v32 = .int .i64 (j : Int) ∧ Aside0 (j + gk = 6) ∧ Aside0 (HA w' g9 73 .i64 (inoPart (x.drop (23 * k)) j)) ∧ Aside0 (HS w' g8 (.slice (some ⟨gx, 23 * k + (7 + 2 * j), none⟩) (123 - (23 * k + (7 + 2 * j))) (cx - (23 * k + (7 + 2 * j))))) ∧ Aside0 (HA w' g6 74 .i64 (fourPart x k)) ∧ Aside0 (Below w1.heap.size w1 w'))
      case atStart => exact ⟨0, rfl, ⟨rfl⟩, K99, ⟨by have h := K89.out; rw [show 23 * k + 3 + 4 = 23 * k + (7 + 2 * 0) by omega] at h; exact h⟩, HA69, B9⟩
      case round =>
       clear K99 K89 HA69 B9
       obtain ⟨j, rfl, HJ, K9, K8, HA6, HB⟩ := hrel
       have hj := HJ.out
       cases gk with
       | succ m2 =>
        have f1 : decide ((j : Int) < 6) = true := decide_eq_true (by omega)
        have f6 : (j : Int) < 6 := by omega
        have f7 : (0 : Int) ≤ (j : Int) := by omega
        have HJL := Aside0.mk (show j < 6 from by omega)
        clear hj
        go_wp2_with fail
        refine (num_at x HXB.out g8 gx cx (23 * k + (7 + 2 * j)) 2 w1 _ HCX.out GL.out HCC.out K8.out (by omega) (by have := HKL.out; have := HJL.out; omega) G8.out HB.out).mono ?_
        rintro e10 w10 ⟨rfl, hs, hgr, hb⟩
        have K810 := Aside0.mk hs
        have B10 := Aside0.mk hb
        have HA610 := Aside0.mk (HA6.out.grown hgr N68.out)
        have K910 := Aside0.mk (K9.out.grown hgr (fun h => N89.out h.symm))
        clear hs hgr hb
        go_wp2_with (first | ((with_reducible refine gate_store (t := 3) (p := 38) rfl ?_); refine store_cell_event (w0 := w1) rfl rfl 38 _ rfl K910.out (3 + j) (by rw [inoPart_len _ _ (by have := HJL.out; omega)]; have := HJL.out; omega) _ rfl rfl G9.out B10.out ?_; intro w11 hk hgr hb; have K911 := Aside0.mk (show HA w11 g9 73 .i64 (inoPart (x.drop (23 * k)) (j + 1)) from by rw [num2, inoPart_set _ _ (by have := HJL.out; omega)] at hk; exact hk); have B11 := Aside0.mk hb; have HA611 := Aside0.mk (HA610.out.grown hgr N69.out); have K811 := Aside0.mk (K810.out.grown hgr N89.out); clear hk hgr hb))
        go_roundg m2
        case measure => have := HJ.out; omega
        case rel => exact ⟨j + 1, by first | rfl | go_num, ⟨by have := HJ.out; omega⟩, K911, ⟨by have h := K811.out; rw [show 23 * k + (7 + 2 * j) + 2 = 23 * k + (7 + 2 * (j + 1)) by omega] at h; exact h⟩, HA611, B11⟩
       | zero =>
        obtain rfl : j = 6 := by omega
        have f1 : decide (((6 : Nat) : Int) < 6) = false := by decide
        clear hj
        go_wp2_with fail
        refine (num_at x HXB.out g8 gx cx (23 * k + (7 + 2 * 6)) 2 w1 _ HCX.out GL.out HCC.out K8.out (by omega) (by have := HKL.out; omega) G8.out HB.out).mono ?_
        rintro e10 w10 ⟨rfl, hs, hgr, hb⟩
        have K810 := Aside0.mk hs
        have B10 := Aside0.mk hb
        have HA610 := Aside0.mk (HA6.out.grown hgr N68.out)
        have K910 := Aside0.mk (K9.out.grown hgr (fun h => N89.out h.symm))
        clear hs hgr hb
        go_wp2_with (first | ((with_reducible refine gate_store (t := 3) (p := 41) rfl ?_); refine store_cell_event (w0 := w1) rfl rfl 41 _ rfl K910.out 9 (by rw [inoPart_len _ _ (by omega)]; omega) _ rfl rfl G9.out B10.out ?_; intro w11 hk hgr hb; have K911 := Aside0.mk (show HA w11 g9 73 .i64 (inoPart (x.drop (23 * k)) 7) from by rw [num2, show (9 : Nat) = 3 + 6 from rfl, inoPart_set _ _ (by omega)] at hk; exact hk); have B11 := Aside0.mk hb; have HA611 := Aside0.mk (HA610.out.grown hgr N69.out); have K811 := Aside0.mk (K810.out.grown hgr N89.out); clear hk hgr hb))
        have hn := num_at x HXB.out g8 gx cx (23 * k + (7 + 2 * 7)) 2 w1 w11 HCX.out GL.out HCC.out (by have h := K811.out; rw [show 23 * k + (7 + 2 * 6) + 2 = 23 * k + (7 + 2 * 7) by omega] at h; exact h) (by omega) (by have := HKL.out; omega) G8.out B11.out
        refine hn.mono ?_
        clear hn
        rintro e12 w12 ⟨rfl, hs, hgr, hb⟩
        have B12 := Aside0.mk hb
        have HA612 := Aside0.mk (HA611.out.grown hgr N68.out)
        have K912 := Aside0.mk (K911.out.grown hgr (fun h => N89.out h.symm))
        clear hs hgr hb
        go_wp2_with (first | ((with_reducible refine gate_store (t := 3) (p := 43) rfl ?_); refine store_cell_event (w0 := w1) rfl rfl 43 _ rfl K912.out 10 (by rw [inoPart_len _ _ (by omega)]; omega) _ rfl rfl G9.out B12.out ?_; intro w13 hk hgr hb; have K913 := Aside0.mk (show HA w13 g9 73 .i64 (inodeOf (x.drop (23 * k))) from by rw [num2, show (10 : Nat) = 3 + 7 from rfl, inoPart_set _ _ (by omega), inoPart_all] at hk; exact hk); have B13 := Aside0.mk hb; have HA613 := Aside0.mk (HA612.out.grown hgr N69.out); clear hk hgr hb) | ((with_reducible refine gate_dst (N := 45) rfl ?_); refine load_row_event rfl _ rfl K913.out rfl row73 ?_) | ((with_reducible refine gate_store (t := 73) (p := 46) rfl ?_); refine store_mid_event (w0 := w1) (lo := k * 11) rfl rfl 46 _ rfl (new := inodeOf (x.drop (23 * k))) HA613.out rfl rfl row73 rfl (by rw [fourPart_len _ _ (by have := HKL.out; omega)]; have := HKL.out; omega) (by have := G6.out; omega) B13.out ?_; intro w14 hk hgr hb; have HA614 := Aside0.mk (show HA w14 g6 74 .i64 (fourPart x (k + 1)) from by rw [Nat.mul_comm k 11, fourPart_put x k HKL.out] at hk; exact hk); have B14 := Aside0.mk hb; clear hk hgr hb))
        go_roundg m
        case measure => have := HK4.out; omega
        case rel => exact ⟨k + 1, by first | rfl | go_num, ⟨by have := HK4.out; omega⟩, HA614, B14⟩
  · have F1 := Aside0.mk (show seal_Open.f 400 73 l = some ([], 3) from by rw [F.out, if_neg (fun z => hk z.2)])
    obtain ⟨rfl, rfl⟩ := Prod.mk.inj (HX.out.symm.trans (readI_none hk))
    clear F hk
    go_enter Try.func65, Try.ntmps65
    go_wp2_with (first | ((with_reducible refine gate_dst (N := 2) rfl ?_); refine box_event ?hg2 (N := 2) ?hd2 (cs := (nums .i64 zero44).toArray) (t := 74) ?hr2 ?_; (case hd2 => rfl); (case hg2 => rfl); (case hr2 => first | (go_simp; done) | (go_simp; rfl)); intro g2 hg w0 hbox hb; have B0 := Aside0.mk (below_step HB.out hb); have K2 := Aside0.mk (show HA w0 g2 74 .i64 zero44 from hbox); have G2 := Aside0.mk (show w.heap.size ≤ g2 from by omega); clear hg hbox hb))
    refine (seal_Open.calls 400 73 _ _ l [] 3 w0 (Kd.C_below HR.out B0.out) HC.out F1.out).mono ?_
    rintro e1 w1 ⟨vx, rfl, hx, hB⟩
    have B1 := Aside0.mk (below_step B0.out hB)
    have K21 := Aside0.mk (K2.out.below hB)
    clear hx hB
    go_wp2_with (first | ((with_reducible refine gate_store (t := 74) (p := 2) rfl ?_); refine store_row_event (w0 := w) rfl rfl 2 _ rfl (new := zero44) K21.out rfl rfl row74 rfl G2.out B1.out ?_; intro w2 hk hgr hb; have K22 := Aside0.mk hk; have B2 := Aside0.mk hb; clear hk hgr hb))
    refine bodyPost_ret (results_row rfl _ _ K22.out row74 rfl) rfl ⟨rfl, B2.out⟩
end Go.Proofs.Ytnhpmmmkcemnmaa.Pc
